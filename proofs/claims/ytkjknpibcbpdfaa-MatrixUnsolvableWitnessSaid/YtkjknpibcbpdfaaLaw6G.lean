/- The guards of the laws 06 and the example that they all check, over plain numbers. -/
import Derived.Test.YtkjknpibcbpdfaaM3
namespace Go.Proofs.Ytkjknpibcbpdfaa
open Go.RowKit Go.Proofs.YtkjknpibcbpdfaaW.PrintWords
set_option linter.unusedVariables false
set_option linter.unusedSimpArgs false

theorem rmul_f {p a b : Int} (hp : okp p = true) (ha : inF p a = true) (hb : inF p b = true) : privityref01_Mul.f p a b = some (a * b % p) := by unfold privityref01_Mul.f; rw [hp, ha, hb]; rfl
theorem rsub_f {p a b : Int} (hp : okp p = true) (ha : inF p a = true) (hb : inF p b = true) : privityref01_Sub.f p a b = some ((a - b) % p) := by unfold privityref01_Sub.f; rw [hp, ha, hb]; rfl
theorem radd_f {p a b : Int} (hp : okp p = true) (ha : inF p a = true) (hb : inF p b = true) : privityref01_Add.f p a b = some ((a + b) % p) := by unfold privityref01_Add.f; rw [hp, ha, hb]; rfl
theorem add_f {p a b : Int} (hp : okp p = true) (ha : inF p a = true) (hb : inF p b = true) : field_Add.f p a b = some ((a + b) % p) := by unfold field_Add.f; rw [hp, ha, hb]; rfl
theorem rinv_f {p a : Int} (hp : okp p = true) (ha : inF p a = true) : privityref01_Inverse.f p a = some (invF p a) := by unfold privityref01_Inverse.f; rw [hp, ha]; rfl
theorem inF_zero {p : Int} (hp : okp p = true) : inF p 0 = true := inF_iff.2 ⟨by omega, by have := okp_lo hp; omega⟩
theorem rdL (m : List (List Int)) (i : Nat) : M.rd_L1 m (i : Int) = m.getD i [] := by unfold M.rd_L1; rw [Int.toNat_natCast]
theorem allF_of {p : Int} {l : List Int} (h : ∀ x, x ∈ l → inF p x = true) : allF p l = true := List.all_eq_true.2 h
theorem allF_mem {p : Int} {l : List Int} (h : allF p l = true) {x : Int} (hx : x ∈ l) : inF p x = true := List.all_eq_true.1 h x hx
theorem allF_append {p : Int} {a b : List Int} (ha : allF p a = true) (hb : allF p b = true) : allF p (a ++ b) = true := by unfold allF at *; rw [List.all_append, ha, hb]; rfl
theorem take_succ_snoc (l : List Int) (i : Nat) (h : i < l.length) : l.take (i + 1) = l.take i ++ [l.getD i 0] := by rw [List.take_succ_eq_append_getElem h, getD_num h]
/-! ### the guards -/
theorem expo (k : Nat) (p : Int) (hk : 8 ≤ k) : M.privityref01_Exponent.f k p = some (if p = 31 then 5 else if p = 127 then 7 else if p = 8191 then 13 else if p = 131071 then 17 else if p = 524287 then 19 else if p = 2147483647 then 31 else if p = 2305843009213693951 then 61 else 0) := by
  obtain ⟨k, rfl⟩ : ∃ q, k = q + 8 := ⟨k - 8, by omega⟩
  have key : ∀ (i j v e : Int), (decide (i < 7) && decide (0 ≤ i) && decide (0 ≤ IntKind.u64.wrap (rd [5, 7, 13, 17, 19, 31, 61] i)) && (IntKind.u64.wrap ((shl .u64 1 (IntKind.u64.wrap (rd [5, 7, 13, 17, 19, 31, 61] i))) - 1) == v) && (rd [5, 7, 13, 17, 19, 31, 61] i == e) && (wrap64 (i + 1) == j)) = true →
      ∀ k, M.privityref01_Exponent.l0 (k + 1) p [5, 7, 13, 17, 19, 31, 61] i = if p = v then some e else M.privityref01_Exponent.l0 k p [5, 7, 13, 17, 19, 31, 61] j := by
    intro i j v e h k
    simp only [Bool.and_eq_true, decide_eq_true_eq, beq_iff_eq] at h
    obtain ⟨⟨⟨⟨⟨h1, h2⟩, h3⟩, h4⟩, h5⟩, h6⟩ := h
    simp only [M.privityref01_Exponent.l0]
    rw [if_pos (by simpa using h1), if_pos h2, if_pos h3, h4, h5, h6]
  have e0 := key 0 1 31 5 (by decide +kernel)
  have e1 := key 1 2 127 7 (by decide +kernel)
  have e2 := key 2 3 8191 13 (by decide +kernel)
  have e3 := key 3 4 131071 17 (by decide +kernel)
  have e4 := key 4 5 524287 19 (by decide +kernel)
  have e5 := key 5 6 2147483647 31 (by decide +kernel)
  have e6 := key 6 7 2305843009213693951 61 (by decide +kernel)
  have e7 : ∀ k, M.privityref01_Exponent.l0 (k + 1) p [5, 7, 13, 17, 19, 31, 61] 7 = some 0 := by
    intro k
    simp only [M.privityref01_Exponent.l0]
    rw [if_neg (by simp)]
  unfold M.privityref01_Exponent.f M.privityref01_exps.f
  simp only [Option.bind_some]
  rw [e0, e1, e2, e3, e4, e5, e6, e7]
  repeat' split
  all_goals rfl
theorem supported (k : Nat) (p : Int) (hk : 8 ≤ k) : M.privityref01_Supported.f k p = some (okp p) := by
  unfold M.privityref01_Supported.f
  rw [expo k p hk]
  simp only [Option.bind_some]
  congr 1
  by_cases h : okp p = true
  · rw [h]
    rcases okp_cases h with rfl | rfl | rfl | rfl | rfl | rfl | rfl <;> decide
  · have h' : okp p = false := by simpa using h
    rw [h']
    unfold okp at h'
    simp only [Bool.or_eq_false_iff, beq_eq_false_iff_ne, ne_eq] at h'
    obtain ⟨⟨⟨⟨⟨⟨h1, h2⟩, h3⟩, h4⟩, h5⟩, h6⟩, h7⟩ := h'
    rw [if_neg h1, if_neg h2, if_neg h3, if_neg h4, if_neg h5, if_neg h6, if_neg h7]
    decide
theorem supported_ev (p : Int) : Ev (fun k => M.privityref01_Supported.f k p) (okp p) := ⟨8, fun K hK => supported K p hK⟩
theorem below_l (p : Int) (l : List Int) (m : Nat) (hm : m ≤ 1000000) (hl : ∀ x ∈ l, 0 ≤ x) : ∀ (d i k : Nat), i + d = m + 1 → i ≤ l.length → allF p (l.take i) = true → 2 * d + 2 ≤ k →
    M.privityref06_Below.l0 k p l (m : Int) (i : Int) = some (decide (l.length ≤ m) && allF p l) := by
  intro d
  induction d with
  | zero =>
    intro i k hd hi hf hk
    obtain ⟨k, rfl⟩ : ∃ q, k = q + 2 := ⟨k - 2, by omega⟩
    simp only [M.privityref06_Below.l0, M.privityref06_Below.j1]
    rw [decide_eq_false (p := (i : Int) ≤ (m : Int)) (by omega)]
    have : decide (l.length ≤ m) = false := decide_eq_false (by omega)
    simp only [Bool.false_eq_true, if_false, ite_self]
    rw [this, decide_eq_false (by omega)]
    rfl
  | succ d ih =>
    intro i k hd hi hf hk
    obtain ⟨k, rfl⟩ : ∃ q, k = q + 2 := ⟨k - 2, by omega⟩
    simp only [M.privityref06_Below.l0, M.privityref06_Below.j1]
    by_cases hlt : i < l.length
    · rw [if_pos (by omega), decide_eq_true (p := (i : Int) ≤ (m : Int)) (by omega), if_pos rfl, if_pos (by omega), if_pos (by omega), rd_nat]
      have hx : l.getD i 0 ∈ l := by rw [getD_num hlt]; exact List.getElem_mem _
      have h0 := hl _ hx
      by_cases hge : l.getD i 0 ≥ p
      · rw [if_pos hge]
        have : allF p l = false := by
          rw [← Bool.not_eq_true]
          intro h
          have := (inF_iff.1 (allF_mem h hx)).2
          omega
        rw [this, Bool.and_false]
      · rw [if_neg hge, wrap_in (by omega) (by omega)]
        refine ih (i + 1) k (by omega) (by omega) ?_ (by omega)
        rw [take_succ_snoc l i hlt]
        refine allF_append hf ?_
        show (inF p (l.getD i 0) && true) = true
        rw [inF_iff.2 ⟨h0, by omega⟩]; rfl
    · rw [if_neg (by omega)]
      have e : i = l.length := by omega
      subst e
      rw [List.take_length] at hf
      simp only [Bool.false_eq_true, if_false]
      rw [hf, Bool.and_true]
      congr 1
      simp
theorem below_ev (p : Int) (l : List Int) (m : Nat) (hm : m ≤ 1000000) (hl : ∀ x ∈ l, 0 ≤ x) : Ev (fun k => M.privityref06_Below.f k p l (m : Int)) (decide (l.length ≤ m) && allF p l) :=
  ⟨2 * m + 4, fun k hk => by unfold M.privityref06_Below.f; exact below_l p l m hm hl (m + 1) 0 k (by omega) (by omega) rfl (by omega)⟩
/-- What Fair says. -/
def fairB (p : Int) (m : List (List Int)) (n : Nat) : Bool := okp p && decide (m.length ≤ n) && m.all fun r => decide (r.length ≤ n) && allF p r
theorem fair_ev (p : Int) (m : List (List Int)) (n : Nat) (hn : n ≤ 1000000) (hm : ∀ r ∈ m, ∀ x ∈ r, 0 ≤ x) : Ev (fun k => M.privityref06_Fair.f k p m (n : Int)) (fairB p m n) := by
  have hfalse : ∀ r, r = false → Ev (fun k => M.privityref06_Fair.j0 k p m (n : Int) true) r := fun r e => by
    subst e
    exact Ev.of_succ (g := fun _ => some false) (fun k => by simp only [M.privityref06_Fair.j0]; rfl) (Ev.of_eq fun _ => rfl)
  unfold M.privityref06_Fair.f
  refine Ev.bind (supported_ev p) ?_
  by_cases hp : okp p = true
  · rw [hp]
    simp only [if_true]
    by_cases hl : m.length ≤ n
    · rw [decide_eq_false (by omega)]
      have key : ∀ (d i : Nat), i + d = m.length → Ev (fun k => M.privityref06_Fair.l0 k p m (n : Int) (i : Int)) ((m.drop i).all fun r => decide (r.length ≤ n) && allF p r) := by
        intro d
        induction d with
        | zero =>
          intro i hi
          rw [List.drop_eq_nil_of_le (by omega)]
          refine Ev.of_succ (g := fun _ => some true) (fun k => ?_) (Ev.of_eq fun _ => rfl)
          simp only [M.privityref06_Fair.l0]
          rw [if_neg (by omega)]
        | succ d ih =>
          intro i hi
          have hlt : i < m.length := by omega
          rw [List.drop_eq_getElem_cons hlt, List.all_cons]
          have hb := below_ev p m[i] n hn (hm _ (List.getElem_mem _))
          refine Ev.of_succ (g := fun k => (M.privityref06_Below.f k p m[i] (n : Int)).bind fun t => if t = true then M.privityref06_Fair.l0 k p m (n : Int) ((i + 1 : Nat) : Int) else some false) (fun k => ?_) (Ev.bind hb ?_)
          · conv => lhs; simp only [M.privityref06_Fair.l0]
            rw [if_pos (by omega), if_pos (by omega), rdL, getD_row hlt, wrap_in (by omega) (by omega)]
            rfl
          · by_cases ht : (decide (m[i].length ≤ n) && allF p m[i]) = true
            · rw [ht, Bool.true_and]
              simp only [if_true]
              exact ih (i + 1) (by omega)
            · have ht' : (decide (m[i].length ≤ n) && allF p m[i]) = false := by simpa using ht
              rw [ht', Bool.false_and]
              exact Ev.of_eq fun _ => rfl
      have := key m.length 0 (by omega)
      rw [List.drop_zero] at this
      refine Ev.of_succ (g := fun k => M.privityref06_Fair.l0 k p m (n : Int) ((0 : Nat) : Int)) (fun k => ?_) ?_
      · simp only [M.privityref06_Fair.j0, Bool.false_eq_true, if_false]
        rfl
      · unfold fairB
        rw [hp, decide_eq_true hl, Bool.true_and, Bool.true_and]
        exact this
    · rw [decide_eq_true (by omega)]
      exact hfalse _ (by unfold fairB; rw [decide_eq_false hl, Bool.and_false, Bool.false_and])
  · have hp' : okp p = false := by simpa using hp
    rw [hp']
    simp only [Bool.false_eq_true, if_false]
    exact hfalse _ (by unfold fairB; rw [hp']; rfl)
structure FairP (p : Int) (m : List (List Int)) (n : Nat) : Prop where
  hp : okp p = true
  len : m.length ≤ n
  row : ∀ i, (m.getD i []).length ≤ n
  fld : m.all (allF p) = true
theorem fairB_iff {p : Int} {m : List (List Int)} {n : Nat} (h : fairB p m n = true) : FairP p m n := by
  unfold fairB at h
  simp only [Bool.and_eq_true, decide_eq_true_eq, List.all_eq_true] at h
  obtain ⟨⟨h1, h2⟩, h3⟩ := h
  refine ⟨h1, h2, fun i => ?_, List.all_eq_true.2 fun r hr => (h3 r hr).2⟩
  by_cases hi : i < m.length
  · rw [getD_row hi]
    exact (h3 _ (List.getElem_mem _)).1
  · rw [List.getD_eq_getElem?_getD, List.getElem?_eq_none (by omega)]
    simp
theorem FairP.small {p : Int} {m : List (List Int)} {n : Nat} (h : FairP p m n) (hn : n ≤ 1000) : smallR m = true := by
  unfold smallR
  simp only [Bool.and_eq_true, decide_eq_true_eq, List.all_eq_true]
  refine ⟨by have := h.len; omega, fun r hr => ?_⟩
  obtain ⟨i, hi, rfl⟩ := List.mem_iff_getElem.1 hr
  have := h.row i
  rw [getD_row hi] at this
  omega
theorem FairP.good {p : Int} {m : List (List Int)} {n : Nat} (h : FairP p m n) (hn : n ≤ 1000) (hr : rectB m = true) : goodM p m = true := by
  unfold goodM
  rw [h.hp, h.fld, hr, smallR_few (h.small hn)]
  rfl
theorem rect_ev (m : List (List Int)) (hm : m.length ≤ 1000000) : Ev (fun k => M.privityref06_Rect.f k m) (if rectB m = true then (((m.headD []).length : Int), true) else (0, false)) := by
  unfold M.privityref06_Rect.f
  cases m with
  | nil => exact Ev.of_eq fun k => rfl
  | cons r0 t =>
    have key : ∀ (d i : Nat), i + d = (r0 :: t).length → (∀ j, j < i → ((r0 :: t).getD j []).length = r0.length) → Ev (fun k => M.privityref06_Rect.l0 k (r0 :: t) (i : Int)) (if rectB (r0 :: t) = true then ((r0.length : Int), true) else (0, false)) := by
      intro d
      induction d with
      | zero =>
        intro i hi hP
        have hr : rectB (r0 :: t) = true := rect_true fun j hj => hP j (by omega)
        rw [if_pos hr]
        refine Ev.of_succ (g := fun _ => some ((r0.length : Int), true)) (fun k => ?_) (Ev.of_eq fun _ => rfl)
        simp only [M.privityref06_Rect.l0]
        rw [if_neg (by omega), if_pos (by simp)]
        rfl
      | succ d ih =>
        intro i hi hP
        by_cases e : ((r0 :: t).getD i []).length = r0.length
        · refine Ev.of_succ (fun k => ?_) (ih (i + 1) (by omega) (fun j hj => ?_))
          · conv => lhs; simp only [M.privityref06_Rect.l0]
            rw [if_pos (by omega), if_pos (by omega), if_pos (by simp), rdL, show M.rd_L1 (r0 :: t) 0 = r0 from rfl, if_pos (by rw [e]), wrap_in (by omega) (by omega)]
            rfl
          · by_cases ej : j = i
            · rw [ej]; exact e
            · exact hP j (by omega)
        · have hr : rectB (r0 :: t) = false := rect_false (j := i) (by omega) e
          rw [hr, if_neg (by decide)]
          refine Ev.of_succ (g := fun _ => some ((0 : Int), false)) (fun k => ?_) (Ev.of_eq fun _ => rfl)
          simp only [M.privityref06_Rect.l0]
          rw [if_pos (by omega), if_pos (by omega), if_pos (by simp), rdL, show M.rd_L1 (r0 :: t) 0 = r0 from rfl, if_neg (by omega)]
    refine Ev.congr (fun k => ?_) (key (r0 :: t).length 0 (by omega) (fun j hj => by omega))
    rw [if_neg (by simp; omega)]
    rfl
theorem awake6 : Ev (fun k => M.privitylaw06_awake.f k) true := by
  have h : M.privitylaw06_awake.f 100 = some true := by decide +kernel
  exact ⟨100, fun K hK => at_rounds (fun k => M.privitylaw06_awake.mono k) hK h⟩
theorem cols_at (m : List (List Int)) : M.matrix_cols.f m = some ((m.headD []).length : Int) := by
  unfold M.matrix_cols.f
  cases m with
  | nil => rfl
  | cons r t =>
    rw [if_neg (by simp; omega), if_pos (by simp)]
    rfl
theorem FairP.wd {p : Int} {m : List (List Int)} {k : Nat} (h : FairP p m k) : (m.headD []).length ≤ k := by
  have := h.row 0
  cases m with
  | nil => simp
  | cons r t => exact this
end Go.Proofs.Ytkjknpibcbpdfaa
