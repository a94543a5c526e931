/- matrix.Solve over plain numbers; the contracts of Solve and Inverse in the form that the printed texts ask for. -/
import Derived.Test.YtkjknpibcbpdfaaK2
import Derived.Test.YtkjknpibcbpdfaaK3
namespace Go.Proofs.Ytkjknpibcbpdfaa
open Go.RowKit Go.Proofs.YtkjknpibcbpdfaaW.PrintWords
set_option linter.unusedVariables false
set_option linter.unusedSimpArgs false

/-- From some number of rounds on, the answer is r. -/
def Ev {α : Type} (f : Nat → Option α) (r : α) : Prop := ∃ K0, ∀ K, K0 ≤ K → f K = some r
theorem Ev.of_eq {α : Type} {f : Nat → Option α} {r : α} (h : ∀ k, f k = some r) : Ev f r := ⟨0, fun K _ => h K⟩
theorem Ev.of_succ {α : Type} {f g : Nat → Option α} {r : α} (h : ∀ k, f (k + 1) = g k) (hg : Ev g r) : Ev f r := by
  obtain ⟨K0, hK⟩ := hg
  refine ⟨K0 + 1, fun K hle => ?_⟩
  obtain ⟨k, rfl⟩ : ∃ k, K = k + 1 := ⟨K - 1, by omega⟩
  rw [h, hK k (by omega)]
theorem Ev.congr {α : Type} {f g : Nat → Option α} {r : α} (h : ∀ k, f k = g k) (hg : Ev g r) : Ev f r := by
  obtain ⟨K0, hK⟩ := hg
  exact ⟨K0, fun K hle => by rw [h, hK K hle]⟩
theorem Ev.bind {α β : Type} {g : Nat → Option α} {h : Nat → α → Option β} {a : α} {r : β} (hg : Ev g a) (hh : Ev (fun k => h k a) r) : Ev (fun k => (g k).bind (h k)) r := by
  obtain ⟨K0, h0⟩ := hg
  obtain ⟨K1, h1⟩ := hh
  exact ⟨max K0 K1, fun K hle => by show (g K).bind (h K) = some r; rw [h0 K (by omega)]; exact h1 K (by omega)⟩
theorem Ev.ex {α : Type} {f : Nat → Option α} {r : α} (h : Ev f r) : ∃ k, f k = some r := by
  obtain ⟨K0, hK⟩ := h
  exact ⟨K0, hK K0 (Nat.le_refl _)⟩
theorem wrap_in {x : Int} (h0 : -9223372036854775808 ≤ x) (h1 : x ≤ 9223372036854775807) : wrap64 x = x := by unfold wrap64; omega
theorem rd_nat (l : List Int) (i : Nat) : rd l (i : Int) = l.getD i 0 := by unfold rd; rw [Int.toNat_natCast]

/-! ### the pivots -/
theorem redAll_piv (p : Int) (m : List (List Int)) : ∀ c, ∀ x ∈ (redAll p m c).2.1, 0 ≤ x ∧ x < (c : Int)
  | 0 => fun x hx => by cases hx
  | c + 1 => fun x hx => by
    rw [redAll_succ] at hx
    have ih := redAll_piv p m c
    obtain ⟨⟨T, piv, det⟩, hs⟩ : ∃ s, s = redAll p m c := ⟨_, rfl⟩
    rw [← hs] at ih hx
    cases hf : findP T c (T.length - piv.length) piv.length with
    | none =>
      rw [redCol_none p T piv det c hf] at hx
      have := ih x hx
      omega
    | some q =>
      rw [redCol_some p T piv det c q hf rfl rfl] at hx
      rcases List.mem_append.1 hx with h | h
      · have := ih x h
        omega
      · rw [List.mem_singleton.1 h]
        omega
/-- At most 1000 rows of at most 1000 numbers. -/
def smallR (m : List (List Int)) : Bool := decide (m.length ≤ 1000) && m.all fun r => decide (r.length ≤ 1000)
def wideS (m : List (List Int)) (b : List Int) : List (List Int) := List.zipWith (fun row x => row ++ [x]) m b
def solveOut (T : List (List Int)) (n : Nat) (piv : List Int) : List Int := piv.zipIdx.foldl (fun o q => o.set q.1.toNat (cellAt T q.2 n)) (List.replicate n 0)
def solveS (p : Int) (m : List (List Int)) (b : List Int) : List Int × Int :=
  if (rectB m && decide (m.length = b.length)) = true then
    let n := (m.headD []).length
    let s := redAll p (wideS m b) n
    if ((s.1.drop s.2.1.length).all fun r => decide (r.getD n 0 = 0)) = true then (solveOut s.1 n s.2.1, 0) else ([], 6)
  else ([], 1)
def okSys (p : Int) (m : List (List Int)) (b : List Int) : Bool := okp p && m.all (allF p) && smallR m && allF p b
def matrix_Solve.f (p : Int) (m : List (List Int)) (b : List Int) : Option (List Int × Int) := if okSys p m b = true then some (solveS p m b) else none
def matrix_Inverse.f (p : Int) (m : List (List Int)) : Option (List (List Int) × Int) := K.matrix_Inverse.f 100 p m

theorem smallR_few {m : List (List Int)} (h : smallR m = true) : fewR m = true := by
  unfold smallR at h
  unfold fewR
  simp only [Bool.and_eq_true, decide_eq_true_eq, List.all_eq_true] at h ⊢
  exact ⟨by omega, fun r hr => by have := h.2 r hr; omega⟩
theorem getD_row {m : List (List Int)} {i : Nat} (h : i < m.length) : m.getD i [] = m[i] := by rw [List.getD_eq_getElem?_getD, List.getElem?_eq_getElem h]; rfl
theorem getD_num {l : List Int} {i : Nat} (h : i < l.length) : l.getD i 0 = l[i] := by rw [List.getD_eq_getElem?_getD, List.getElem?_eq_getElem h]; rfl
theorem smallR_row {m : List (List Int)} (h : smallR m = true) (i : Nat) : (m.getD i []).length ≤ 1000 := by
  unfold smallR at h
  simp only [Bool.and_eq_true, decide_eq_true_eq, List.all_eq_true] at h
  by_cases hi : i < m.length
  · rw [getD_row hi]
    exact h.2 _ (List.getElem_mem _)
  · rw [List.getD_eq_getElem?_getD, List.getElem?_eq_none (by omega)]
    simp
theorem smallR_len {m : List (List Int)} (h : smallR m = true) : m.length ≤ 1000 := by
  unfold smallR at h
  simp only [Bool.and_eq_true, decide_eq_true_eq] at h
  exact h.1
theorem rect_row {m : List (List Int)} (h : rectB m = true) {i : Nat} (hi : i < m.length) : (m.getD i []).length = (m.headD []).length := by
  unfold rectB at h
  simp only [List.all_eq_true, beq_iff_eq] at h
  rw [getD_row hi]
  exact h _ (List.getElem_mem _)
theorem wideS_length {m : List (List Int)} {b : List Int} (h : m.length = b.length) : (wideS m b).length = m.length := by unfold wideS; rw [List.length_zipWith]; omega
theorem wideS_at {m : List (List Int)} {b : List Int} {i : Nat} (hi : i < m.length) (hb : i < b.length) (h : i < (wideS m b).length) : (wideS m b)[i] = m.getD i [] ++ [b.getD i 0] := by
  have h' : i < (List.zipWith (fun (row : List Int) (x : Int) => row ++ [x]) m b).length := h
  show (List.zipWith (fun (row : List Int) (x : Int) => row ++ [x]) m b)[i]'h' = _
  rw [List.getElem_zipWith, getD_row hi, getD_num hb]
theorem wideS_good {p : Int} {m : List (List Int)} {b : List Int} (h : okSys p m b = true) (hr : rectB m = true) (hl : m.length = b.length) :
    goodM p (wideS m b) = true ∧ (∀ j, j < m.length → ((wideS m b).getD j []).length = (m.headD []).length + 1) := by
  unfold okSys at h
  simp only [Bool.and_eq_true] at h
  obtain ⟨⟨⟨hp, hm⟩, hs⟩, hb⟩ := h
  have hlen := wideS_length hl
  have hrow : ∀ j, j < m.length → ((wideS m b).getD j []).length = (m.headD []).length + 1 := fun j hj => by
    rw [getD_row (by omega), wideS_at hj (by omega), List.length_append, rect_row hr hj]
    rfl
  refine ⟨?_, hrow⟩
  have hw : (m.headD []).length ≤ 1000 := by
    have := smallR_row hs 0
    cases m with
    | nil => simp
    | cons r t => exact this
  unfold goodM
  simp only [Bool.and_eq_true]
  refine ⟨⟨⟨hp, List.all_eq_true.2 fun x hx => ?_⟩, ?_⟩, ?_⟩
  · obtain ⟨j, hj, rfl⟩ := List.mem_iff_getElem.1 hx
    rw [wideS_at (by omega) (by omega)]
    unfold allF
    rw [List.all_append, Bool.and_eq_true]
    refine ⟨?_, ?_⟩
    · rw [getD_row (by omega)]
      exact List.all_eq_true.1 hm _ (List.getElem_mem _)
    · simp only [List.all_cons, List.all_nil, Bool.and_true]
      exact allF_at hp hb j
  · refine rect_true fun j hj => ?_
    rw [hrow j (by omega), hrow 0 (by omega)]
  · unfold fewR
    simp only [Bool.and_eq_true, decide_eq_true_eq, List.all_eq_true]
    have := smallR_len hs
    refine ⟨by omega, fun x hx => ?_⟩
    obtain ⟨j, hj, rfl⟩ := List.mem_iff_getElem.1 hx
    have := hrow j (by omega)
    rw [getD_row hj] at this
    omega
theorem head_wide {m : List (List Int)} {b : List Int} (hl : m.length = b.length) : m = [] ∨ ((wideS m b).headD []).length = (m.headD []).length + 1 := by
  cases m with
  | nil => exact .inl rfl
  | cons r t =>
    cases b with
    | nil => simp at hl
    | cons x u => exact .inr (by simp [wideS])
theorem red3_at {p : Int} {m : List (List Int)} {b : List Int} (h : okSys p m b = true) (hr : rectB m = true) (hl : m.length = b.length) : red3.f p (wideS m b) ((m.headD []).length : Int) = some (redAll p (wideS m b) (m.headD []).length) := by
  obtain ⟨hg, hrow⟩ := wideS_good h hr hl
  have hw : (m.headD []).length ≤ 1048576 := by
    unfold okSys at h
    simp only [Bool.and_eq_true] at h
    have := smallR_row h.1.2 0
    cases m with
    | nil => simp
    | cons r t => exact Nat.le_trans this (by omega)
  unfold red3.f matrix_reduce.f
  rw [hg, decide_eq_true (p := (0 : Int) ≤ _) (by omega), decide_eq_true (p := ((m.headD []).length : Int) ≤ 1048576) (by omega)]
  have : ((wideS m b).isEmpty || decide (((m.headD []).length : Int) ≤ (((wideS m b).headD []).length : Int))) = true := by
    rcases head_wide hl with rfl | e
    · rfl
    · rw [Bool.or_eq_true, decide_eq_true_eq]
      exact .inr (by omega)
  rw [this]
  rfl
theorem solve_l2 (n : Nat) (hn : n ≤ 1000) (T : List (List Int)) (piv : List Int) (hp : ∀ x ∈ piv, 0 ≤ x ∧ x < (n : Int)) (hl : piv.length ≤ T.length) (hT : T.length ≤ 1000) (hw : ∀ j, j < T.length → (T.getD j []).length = n + 1) : ∀ (d i : Nat) (o : List Int), i + d = piv.length → o.length = n →
    Ev (fun k => K.matrix_Solve.l2 k (n : Int) o piv (piv.length : Int) (i : Int) T) ((piv.zipIdx.drop i).foldl (fun o q => o.set q.1.toNat (cellAt T q.2 n)) o, 0) := by
  intro d
  induction d with
  | zero =>
    intro i o hd ho
    refine Ev.of_succ (g := fun _ => some (o, 0)) (fun k => ?_) (Ev.of_eq fun k => ?_)
    · simp only [K.matrix_Solve.l2]
      rw [if_neg (by omega)]
    · rw [List.drop_eq_nil_of_le (by rw [List.length_zipIdx]; omega)]
      rfl
  | succ d ih =>
    intro i o hd ho
    have hi : i < piv.length := by omega
    have hx := hp piv[i] (List.getElem_mem _)
    have := ih (i + 1) (o.set (piv[i]).toNat (cellAt T i n)) (by omega) (by rw [List.length_set]; exact ho)
    have e : (piv.zipIdx.drop i) = (piv[i], i) :: piv.zipIdx.drop (i + 1) := by
      rw [List.drop_eq_getElem_cons (by rw [List.length_zipIdx]; exact hi), List.getElem_zipIdx, Nat.zero_add]
    rw [e, List.foldl_cons]
    refine Ev.of_succ (fun k => ?_) this
    have hrd : rd piv (i : Int) = piv[i] := by rw [rd_nat, getD_num hi]
    have hrl : K.rd_L1 T (i : Int) = T.getD i [] := by unfold K.rd_L1; rw [Int.toNat_natCast]
    simp only [K.matrix_Solve.l2]
    rw [if_pos (by omega), if_pos (by omega), if_pos (by omega), if_pos (by omega), if_pos (by omega), hrl, if_pos (by rw [hw i (by omega)]; omega), hrd, if_pos hx.1, if_pos (by omega), wrap_in (by omega) (by omega), rd_nat]
    rfl
theorem solve_l1 (n : Nat) (hn : n ≤ 1000) (T : List (List Int)) (piv : List Int) (hp : ∀ x ∈ piv, 0 ≤ x ∧ x < (n : Int)) (hl : piv.length ≤ T.length) (hT : T.length ≤ 1000) (hw : ∀ j, j < T.length → (T.getD j []).length = n + 1) : ∀ (d i : Nat), i + d = T.length - piv.length →
    Ev (fun k => K.matrix_Solve.l1 k (n : Int) (T.drop piv.length) ((T.drop piv.length).length : Int) (i : Int) T piv) (if ((T.drop (piv.length + i)).all fun r => decide (r.getD n 0 = 0)) = true then (solveOut T n piv, 0) else ([], 6)) := by
  intro d
  induction d with
  | zero =>
    intro i hd
    have := solve_l2 n hn T piv hp hl hT hw piv.length 0 (List.replicate n 0) (by omega) (by simp)
    rw [List.drop_eq_nil_of_le (show T.length ≤ piv.length + i by omega)]
    refine Ev.of_succ (fun k => ?_) this
    simp only [K.matrix_Solve.l1]
    rw [if_neg (by rw [List.length_drop]; omega), if_pos (by omega), if_pos (by omega), Int.toNat_natCast]
    rfl
  | succ d ih =>
    intro i hd
    have hlt : piv.length + i < T.length := by omega
    have e : T.drop (piv.length + i) = T[piv.length + i] :: T.drop (piv.length + (i + 1)) := by rw [List.drop_eq_getElem_cons hlt]; rfl
    have hrl : K.rd_L1 (T.drop piv.length) (i : Int) = T[piv.length + i] := by
      unfold K.rd_L1
      rw [Int.toNat_natCast, List.getD_eq_getElem?_getD, List.getElem?_drop, List.getElem?_eq_getElem hlt]
      rfl
    have hlen := hw (piv.length + i) hlt
    rw [getD_row hlt] at hlen
    rw [e, List.all_cons]
    by_cases hz : T[piv.length + i].getD n 0 = 0
    · rw [decide_eq_true hz, Bool.true_and]
      refine Ev.of_succ (fun k => ?_) (ih (i + 1) (by omega))
      simp only [K.matrix_Solve.l1]
      rw [if_pos (by rw [List.length_drop]; omega), if_pos (by omega), if_pos (by rw [List.length_drop]; omega), if_pos (by omega), hrl, if_pos (by omega), rd_nat, if_pos hz, wrap_in (by omega) (by omega)]
      rfl
    · rw [decide_eq_false hz, Bool.false_and, if_neg (by decide)]
      refine Ev.of_succ (g := fun _ => some ([], 6)) (fun k => ?_) (Ev.of_eq fun _ => rfl)
      simp only [K.matrix_Solve.l1]
      rw [if_pos (by rw [List.length_drop]; omega), if_pos (by omega), if_pos (by rw [List.length_drop]; omega), if_pos (by omega), hrl, if_pos (by omega), rd_nat, if_neg hz]
theorem solve_l0 {p : Int} {m : List (List Int)} {b : List Int} (h : okSys p m b = true) (hr : rectB m = true) (hl : m.length = b.length) {r : List Int × Int}
    (hrest : Ev (fun k => (red3.f p (wideS m b) ((m.headD []).length : Int)).bind fun bt148 => (if 0 ≤ (bt148.2.1.length : Int) then (if (bt148.2.1.length : Int) ≤ (bt148.1.length : Int) then ((some (bt148.1.drop ((bt148.2.1.length : Int) : Int).toNat : List (List Int))).bind fun y155 => (K.matrix_Solve.l1 k ((m.headD []).length : Int) y155 (y155.length : Int) 0 bt148.1 bt148.2.1)) else (none)) else (none))) r) : ∀ (d i : Nat), i + d = m.length →
    Ev (fun k => K.matrix_Solve.l0 k p b ((m.headD []).length : Int) ((wideS m b).take i) m (m.length : Int) (i : Int)) r := by
  have hs : smallR m = true := by
    unfold okSys at h
    simp only [Bool.and_eq_true] at h
    exact h.1.2
  have hml := smallR_len hs
  have hwl := wideS_length hl
  intro d
  induction d with
  | zero =>
    intro i hd
    refine Ev.of_succ (fun k => ?_) hrest
    simp only [K.matrix_Solve.l0]
    rw [if_neg (by omega), List.take_of_length_le (by omega)]
  | succ d ih =>
    intro i hd
    have hi : i < m.length := by omega
    have e : (wideS m b).take (i + 1) = (wideS m b).take i ++ [m.getD i [] ++ [b.getD i 0]] := by
      rw [List.take_succ_eq_append_getElem (by omega), wideS_at hi (by omega)]
    have hrl : K.rd_L1 m (i : Int) = m.getD i [] := by unfold K.rd_L1; rw [Int.toNat_natCast]
    have hrow := smallR_row hs i
    refine Ev.of_succ (fun k => ?_) (ih (i + 1) (by omega))
    simp only [K.matrix_Solve.l0]
    rw [if_pos (by omega), if_pos (by omega), if_pos (by omega), hrl]
    unfold slices_Clone_uint64_uint64_57.f
    rw [if_pos (by omega)]
    simp only [Option.bind_some]
    rw [if_pos (by omega), rd_nat, if_pos (by simp only [List.length_singleton]; omega), if_pos (by rw [List.length_take]; simp only [List.length_singleton]; omega), wrap_in (by omega) (by omega), e]
    rfl
theorem k_solve {p : Int} {m : List (List Int)} {b : List Int} (h : okSys p m b = true) : Ev (fun k => K.matrix_Solve.f k p m b) (solveS p m b) := by
  have hs : smallR m = true := by
    unfold okSys at h
    simp only [Bool.and_eq_true] at h
    exact h.1.2
  have hj : ∀ {r : List Int × Int}, r = ([], 1) → Ev (fun k => K.matrix_Solve.j0 k p m b true) r := fun e => by
    subst e
    exact Ev.of_succ (g := fun _ => some ([], 1)) (fun k => by simp only [K.matrix_Solve.j0]; rfl) (Ev.of_eq fun _ => rfl)
  unfold K.matrix_Solve.f matrix_rect.f
  rw [if_pos (smallR_few hs)]
  simp only [Option.bind_some]
  by_cases hr : rectB m = true
  · rw [hr]
    simp only [if_true]
    by_cases hl : m.length = b.length
    · have hne : ((m.length : Int) != (b.length : Int)) = false := by simp [hl]
      rw [hne]
      have hcol : K.matrix_cols.f m = some ((m.headD []).length : Int) := by
        unfold K.matrix_cols.f
        cases m with
        | nil => rfl
        | cons r t =>
          rw [if_neg (by simp; omega), if_pos (by simp)]
          rfl
      refine Ev.of_succ (g := fun k => K.matrix_Solve.l0 k p b ((m.headD []).length : Int) ((wideS m b).take 0) m (m.length : Int) ((0 : Nat) : Int)) (fun k => ?_) (solve_l0 h hr hl ?_ m.length 0 (by omega))
      · simp only [K.matrix_Solve.j0]
        rw [hcol]
        rfl
      · rw [red3_at h hr hl]
        simp only [Option.bind_some]
        obtain ⟨hg, hrow⟩ := wideS_good h hr hl
        have hok := redAll_ok hg (okp_good hg) (m.headD []).length
        have hpv := redAll_piv p (wideS m b) (m.headD []).length
        have hsol : solveS p m b = if (((redAll p (wideS m b) (m.headD []).length).1.drop (redAll p (wideS m b) (m.headD []).length).2.1.length).all fun r => decide (r.getD (m.headD []).length 0 = 0)) = true then (solveOut (redAll p (wideS m b) (m.headD []).length).1 (m.headD []).length (redAll p (wideS m b) (m.headD []).length).2.1, 0) else ([], 6) := by
          unfold solveS
          rw [hr, decide_eq_true hl]
          rfl
        rw [hsol]
        have hw1000 : (m.headD []).length ≤ 1000 := by
          have := smallR_row hs 0
          cases m with
          | nil => simp
          | cons r t => exact this
        have hwid : ∀ j, j < m.length → ((redAll p (wideS m b) (m.headD []).length).1.getD j []).length = (m.headD []).length + 1 := fun j hj => by
          have h1 := hok.wide.row j (by rw [wideS_length hl]; exact hj)
          rw [h1]
          rcases head_wide hl with e | e
          · subst e; simp at hj
          · exact e
        have hTl := hok.wide.len
        have hpl := hok.piv
        rw [wideS_length hl] at hTl hpl
        generalize redAll p (wideS m b) (m.headD []).length = s at hTl hpl hpv hwid
        have := solve_l1 (m.headD []).length hw1000 s.1 s.2.1 hpv (by omega) (by have := smallR_len hs; omega) (fun j hj => hwid j (by omega)) (s.1.length - s.2.1.length) 0 (by omega)
        rw [Nat.add_zero] at this
        refine Ev.congr (fun k => ?_) this
        rw [if_pos (by omega), if_pos (by omega), Int.toNat_natCast]
        rfl
    · have hne : ((m.length : Int) != (b.length : Int)) = true := by simp; omega
      rw [hne]
      exact hj (by unfold solveS; rw [decide_eq_false hl, Bool.and_false, if_neg (by decide)])
  · have hr' : rectB m = false := by simpa using hr
    rw [hr']
    simp only [Bool.false_eq_true, if_false]
    exact hj (by unfold solveS; rw [hr', Bool.false_and, if_neg (by decide)])
theorem matrix_Solve.calls (a0 : Int) (A1 : Option Addr) (c1 : Nat) (l1 : List (List Int)) (A2 : Option Addr) (c2 : Nat) (l2 : List Int) (r1 : List Int) (r2 : Int) (w : World) (hr1 : Kd.C (Kd.slice 22 (Kd.int .u64)) w A1 l1.length l1) (hc1 : l1.length ≤ c1) (hr2 : Kd.C (Kd.int .u64) w A2 l2.length l2) (hc2 : l2.length ≤ c2) (h : matrix_Solve.f a0 l1 l2 = some (r1, r2)) :
    Calls Try.prog 20 #[.int .u64 a0, .slice A1 l1.length c1, .slice A2 l2.length c2] w fun e w' => ∃ v_ : Value, e = .returned (.tuple #[v_, .int .i64 r2]) ∧ Kd.R (Kd.int .u64) 22 w' w.heap.size (fun _ => True) v_ r1 ∧ Below w.heap.size w w' := by
  unfold matrix_Solve.f at h
  split at h
  · rename_i hg
    obtain ⟨k, hk⟩ := (k_solve hg).ex
    exact K.matrix_Solve.calls k a0 A1 c1 l1 A2 c2 l2 r1 r2 w hr1 hc1 hr2 hc2 (hk.trans h)
  · cases h
theorem matrix_Inverse.calls (a0 : Int) (A1 : Option Addr) (c1 : Nat) (l1 : List (List Int)) (r1 : List (List Int)) (r2 : Int) (w : World) (hr1 : Kd.C (Kd.slice 22 (Kd.int .u64)) w A1 l1.length l1) (hc1 : l1.length ≤ c1) (h : matrix_Inverse.f a0 l1 = some (r1, r2)) :
    Calls Try.prog 49 #[.int .u64 a0, .slice A1 l1.length c1] w fun e w' => ∃ v_ : Value, e = .returned (.tuple #[v_, .int .i64 r2]) ∧ Kd.N (Kd.slice 22 (Kd.int .u64)) 32 w' w.heap.size (fun k_ => w.heap.size ≤ k_) v_ r1 ∧ Below w.heap.size w w' :=
  K.matrix_Inverse.calls 100 a0 A1 c1 l1 r1 r2 w hr1 hc1 h
theorem N_bound2 {α : Type} {d : Kd α} {e base : Nat} {w : World} {v : Value} {xs : List α} (h : Kd.N d e w base (fun k => base ≤ k) v xs) : Kd.N d e w base (fun k => True ∧ base ≤ k ∧ k < w.heap.size) v xs := Kd.N_mono (Kd.N_bound h) (fun _ hk => ⟨trivial, hk.1, hk.2⟩)
end Go.Proofs.Ytkjknpibcbpdfaa
