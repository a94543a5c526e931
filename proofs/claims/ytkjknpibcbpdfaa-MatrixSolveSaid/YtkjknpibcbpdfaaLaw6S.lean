/- The law MatrixSolve over plain numbers. -/
import Derived.Test.YtkjknpibcbpdfaaLaw6B
import Derived.Test.YtkjknpibcbpdfaaRed6
import Derived.Test.YtkjknpibcbpdfaaMS
namespace Go.Proofs.Ytkjknpibcbpdfaa
open Go.RowKit Go.Proofs.YtkjknpibcbpdfaaW.PrintWords
set_option linter.unusedVariables false
set_option linter.unusedSimpArgs false

theorem rsolve_l2 (n : Nat) (hn : n ≤ 1000) (T : List (List Int)) (piv : List Int) (hp : ∀ x ∈ piv, 0 ≤ x ∧ x < (n : Int)) (hl : piv.length ≤ T.length) (hT : T.length ≤ 1000) (hw : ∀ j, j < T.length → (T.getD j []).length = n + 1) : ∀ (d i : Nat) (o : List Int), i + d = piv.length → o.length = n →
    Ev (fun k => M.privityref06_Solve.l2 k (n : Int) T piv o (i : Int)) ((piv.zipIdx.drop i).foldl (fun o q => o.set q.1.toNat (cellAt T q.2 n)) o, 0) := by
  intro d
  induction d with
  | zero =>
    intro i o hd ho
    refine Ev.of_succ (g := fun _ => some (o, 0)) (fun k => ?_) (Ev.of_eq fun k => ?_)
    · simp only [M.privityref06_Solve.l2]
      rw [if_neg (by omega)]
    · rw [List.drop_eq_nil_of_le (by rw [List.length_zipIdx]; omega)]
      rfl
  | succ d ih =>
    intro i o hd ho
    have hi : i < piv.length := by omega
    have hx := hp piv[i] (List.getElem_mem _)
    have := ih (i + 1) (o.set (piv[i]).toNat (cellAt T i n)) (by omega) (by rw [List.length_set]; exact ho)
    have e : (piv.zipIdx.drop i) = (piv[i], i) :: piv.zipIdx.drop (i + 1) := by
      rw [List.drop_eq_getElem_cons (by rw [List.length_zipIdx]; exact hi), List.getElem_zipIdx, Nat.zero_add]
    rw [e, List.foldl_cons]
    refine Ev.of_succ (fun k => ?_) this
    have hrd : rd piv (i : Int) = piv[i] := by rw [rd_nat, getD_num hi]
    simp only [M.privityref06_Solve.l2]
    rw [if_pos (by omega), if_pos (by omega), if_pos (by omega), if_pos (by omega), rdL, if_pos (by rw [hw i (by omega)]; omega), hrd, if_pos hx.1, if_pos (by omega), wrap_in (by omega) (by omega), rd_nat]
    rfl
theorem rsolve_l1 (n : Nat) (hn : n ≤ 1000) (T : List (List Int)) (piv : List Int) (hp : ∀ x ∈ piv, 0 ≤ x ∧ x < (n : Int)) (hl : piv.length ≤ T.length) (hT : T.length ≤ 1000) (hw : ∀ j, j < T.length → (T.getD j []).length = n + 1) : ∀ (d i : Nat), i + d = T.length →
    Ev (fun k => M.privityref06_Solve.l1 k (n : Int) T piv (i : Int)) (if ((T.drop i).all fun r => decide (r.getD n 0 = 0)) = true then (solveOut T n piv, 0) else ([], 6)) := by
  intro d
  induction d with
  | zero =>
    intro i hd
    have := rsolve_l2 n hn T piv hp hl hT hw piv.length 0 (List.replicate n 0) (by omega) (by simp)
    rw [List.drop_eq_nil_of_le (show T.length ≤ i by omega)]
    refine Ev.of_succ (fun k => ?_) this
    simp only [M.privityref06_Solve.l1]
    rw [if_neg (by omega), if_pos (by omega), if_pos (by omega), Int.toNat_natCast]
    rfl
  | succ d ih =>
    intro i hd
    have hlt : i < T.length := by omega
    have e : T.drop i = T[i] :: T.drop (i + 1) := List.drop_eq_getElem_cons hlt
    have hlen := hw i hlt
    rw [getD_row hlt] at hlen
    rw [e, List.all_cons]
    by_cases hz : T[i].getD n 0 = 0
    · rw [decide_eq_true hz, Bool.true_and]
      refine Ev.of_succ (fun k => ?_) (ih (i + 1) (by omega))
      simp only [M.privityref06_Solve.l1]
      rw [if_pos (by omega), if_pos (by omega), if_pos (by omega), rdL, getD_row hlt, if_pos (by omega), rd_nat, if_pos hz, wrap_in (by omega) (by omega)]
      rfl
    · rw [decide_eq_false hz, Bool.false_and, if_neg (by decide)]
      refine Ev.of_succ (g := fun _ => some ([], 6)) (fun k => ?_) (Ev.of_eq fun _ => rfl)
      simp only [M.privityref06_Solve.l1]
      rw [if_pos (by omega), if_pos (by omega), if_pos (by omega), rdL, getD_row hlt, if_pos (by omega), rd_nat, if_neg hz]
theorem beside_ev {m : List (List Int)} {b : List Int} (hs : smallR m = true) (hl : m.length = b.length) : Ev (fun k => M.privityref06_beside.f k m (b.map fun x => [x])) (wideS m b) := by
  have hml := smallR_len hs
  have hwl := wideS_length hl
  have key : ∀ (d i : Nat), i + d = m.length → Ev (fun k => M.privityref06_beside.l0 k m (b.map fun x => [x]) ((wideS m b).take i) (i : Int)) (wideS m b) := by
    intro d
    induction d with
    | zero =>
      intro i hi
      refine Ev.of_succ (g := fun _ => some (wideS m b)) (fun k => ?_) (Ev.of_eq fun _ => rfl)
      simp only [M.privityref06_beside.l0]
      rw [if_neg (by omega), List.take_of_length_le (by omega)]
    | succ d ih =>
      intro i hi
      have hlt : i < m.length := by omega
      have hrow := smallR_row hs i
      have hcol : M.rd_L1 (b.map fun x => [x]) (i : Int) = [b.getD i 0] := by
        rw [rdL, List.getD_eq_getElem?_getD, List.getElem?_map, List.getElem?_eq_getElem (show i < b.length by omega), getD_num (by omega)]
        rfl
      have e : (wideS m b).take (i + 1) = (wideS m b).take i ++ [m.getD i [] ++ [b.getD i 0]] := by
        rw [List.take_succ_eq_append_getElem (by omega), wideS_at hlt (by omega)]
      refine Ev.of_succ (fun k => ?_) (ih (i + 1) (by omega))
      simp only [M.privityref06_beside.l0, Option.bind_some]
      rw [if_pos (by omega), if_pos (by omega), rdL, if_pos (by simp only [List.length_nil]; omega), List.nil_append, if_pos (by rw [List.length_map]; omega), hcol, if_pos (by simp only [List.length_singleton]; omega), if_pos (by rw [List.length_take]; omega), wrap_in (by omega) (by omega), e]
      rfl
  exact key m.length 0 (by omega)
theorem rsolve_ev {p : Int} {m : List (List Int)} {b : List Int} (h : okSys p m b = true) : Ev (fun k => M.privityref06_Solve.f k p m b) (solveS p m b) := by
  have hs : smallR m = true := by
    unfold okSys at h
    simp only [Bool.and_eq_true] at h
    exact h.1.2
  have hml := smallR_len hs
  have hj : ∀ (n : Int) {r : List Int × Int}, r = ([], 1) → Ev (fun k => M.privityref06_Solve.j0 k p m b n true) r := fun n r e => by
    subst e
    exact Ev.of_succ (g := fun _ => some ([], 1)) (fun k => by simp only [M.privityref06_Solve.j0]; rfl) (Ev.of_eq fun _ => rfl)
  unfold M.privityref06_Solve.f
  refine Ev.bind (rect_ev m (by omega)) ?_
  by_cases hr : rectB m = true
  · rw [if_pos hr]
    simp only [if_true]
    by_cases hl : m.length = b.length
    · have hne : ((b.length : Int) != (m.length : Int)) = false := by simp [hl]
      rw [hne]
      -- the column
      have key : ∀ (d i : Nat), i + d = b.length → Ev (fun k => M.privityref06_Solve.l0 k p m b ((m.headD []).length : Int) ((b.take i).map fun x => [x]) (i : Int)) (solveS p m b) := by
        intro d
        induction d with
        | zero =>
          intro i hi
          refine Ev.of_succ (g := fun k => (M.privityref06_beside.f k m (b.map fun x => [x])).bind fun t320 => ((M.privityref06_Reduced.f k p t320 ((m.headD []).length : Int)).bind fun bt323 => (M.privityref06_Solve.l1 k ((m.headD []).length : Int) bt323.1 bt323.2.1 (bt323.2.1.length : Int)))) (fun k => ?_) ?_
          · conv => lhs; simp only [M.privityref06_Solve.l0]
            rw [if_neg (by omega), List.take_of_length_le (by omega)]
          · refine Ev.bind (beside_ev hs hl) ?_
            obtain ⟨hg, hrow⟩ := wideS_good h hr hl
            have hw1000 : (m.headD []).length ≤ 1000 := by
              have := smallR_row hs 0
              cases m with
              | nil => simp
              | cons r t => exact this
            refine Ev.bind (red_ev hg (n := (m.headD []).length) (by
              rcases head_wide hl with e | e
              · exact .inl (by rw [e]; rfl)
              · exact .inr (by omega)) (by omega)) ?_
            have hok := redAll_ok hg (okp_good hg) (m.headD []).length
            have hpv := redAll_piv p (wideS m b) (m.headD []).length
            have hsol : solveS p m b = if (((redAll p (wideS m b) (m.headD []).length).1.drop (redAll p (wideS m b) (m.headD []).length).2.1.length).all fun r => decide (r.getD (m.headD []).length 0 = 0)) = true then (solveOut (redAll p (wideS m b) (m.headD []).length).1 (m.headD []).length (redAll p (wideS m b) (m.headD []).length).2.1, 0) else ([], 6) := by
              unfold solveS
              rw [hr, decide_eq_true hl]
              rfl
            rw [hsol]
            have hwid : ∀ j, j < m.length → ((redAll p (wideS m b) (m.headD []).length).1.getD j []).length = (m.headD []).length + 1 := fun j hj => by
              have h1 := hok.wide.row j (by rw [wideS_length hl]; exact hj)
              rw [h1]
              rcases head_wide hl with e | e
              · subst e; simp at hj
              · exact e
            have hTl := hok.wide.len
            have hpl := hok.piv
            rw [wideS_length hl] at hTl hpl
            generalize redAll p (wideS m b) (m.headD []).length = s at hTl hpl hpv hwid
            exact rsolve_l1 (m.headD []).length hw1000 s.1 s.2.1 hpv (by omega) (by omega) (fun j hj => hwid j (by omega)) (s.1.length - s.2.1.length) s.2.1.length (by omega)
        | succ d ih =>
          intro i hi
          have hlt : i < b.length := by omega
          have e : ((b.take (i + 1)).map fun x => [x]) = ((b.take i).map fun x => [x]) ++ [[b.getD i 0]] := by
            rw [take_succ_snoc b i hlt, List.map_append]
            rfl
          refine Ev.of_succ (fun k => ?_) (ih (i + 1) (by omega))
          simp only [M.privityref06_Solve.l0]
          rw [if_pos (by omega), if_pos (by omega), if_pos (by rw [List.length_map, List.length_take]; omega), rd_nat, wrap_in (by omega) (by omega), e]
          rfl
      refine Ev.of_succ (fun k => ?_) (key b.length 0 (by omega))
      simp only [M.privityref06_Solve.j0, Bool.false_eq_true, if_false]
      rfl
    · have hne : ((b.length : Int) != (m.length : Int)) = true := by simp; omega
      rw [hne]
      exact hj _ (by unfold solveS; rw [decide_eq_false hl, Bool.and_false, if_neg (by decide)])
  · have hr' : rectB m = false := by simpa using hr
    rw [hr']
    simp only [Bool.false_eq_true, if_false]
    exact hj _ (by unfold solveS; rw [hr', Bool.false_and, if_neg (by decide)])
theorem solveOut_length (T : List (List Int)) (n : Nat) (piv : List Int) : (solveOut T n piv).length = n := by
  unfold solveOut
  have key : ∀ (l : List (Int × Nat)) (o : List Int), (l.foldl (fun o q => o.set q.1.toNat (cellAt T q.2 n)) o).length = o.length := by
    intro l
    induction l with
    | nil => intro o; rfl
    | cons q l ih => intro o; rw [List.foldl_cons, ih, List.length_set]
  rw [key, List.length_replicate]
theorem solveS_length {p : Int} {m : List (List Int)} {b : List Int} (hs : smallR m = true) : (solveS p m b).1.length ≤ 1000 := by
  have hw : (m.headD []).length ≤ 1000 := by
    have := smallR_row hs 0
    cases m with
    | nil => simp
    | cons r t => exact this
  unfold solveS
  split
  · dsimp only
    split
    · rw [solveOut_length]; exact hw
    · simp
  · simp
theorem FairP.sys {p : Int} {m : List (List Int)} {b : List Int} {n : Nat} (h : FairP p m n) (hn : n ≤ 1000) (hb : allF p b = true) : okSys p m b = true := by
  unfold okSys
  rw [h.hp, h.fld, h.small hn, hb]
  rfl
theorem solve_f {p : Int} {m : List (List Int)} {b : List Int} (h : okSys p m b = true) : matrix_Solve.f p m b = some (solveS p m b) := by
  unfold matrix_Solve.f
  rw [if_pos h]
theorem pure_solve (p : Int) (m : List (List Int)) (b : List Int) (hm : ∀ r ∈ m, ∀ x ∈ r, 0 ≤ x) (hb : ∀ x ∈ b, 0 ≤ x) : ∃ k, M.privitylaw06_MatrixSolve.f k p m b = some true := by
  have hj : Ev (fun k => M.privitylaw06_MatrixSolve.j0 k p m b true) true := by
    refine Ev.of_succ (g := fun k => (M.privitylaw06_awake.f k).bind fun t341 => some t341) (fun k => ?_) (Ev.bind awake6 (Ev.of_eq fun _ => rfl))
    conv => lhs; simp only [M.privitylaw06_MatrixSolve.j0, if_true]
  refine Ev.ex ?_
  unfold M.privitylaw06_MatrixSolve.f
  refine Ev.bind (fair_ev p m 10 (by omega) hm) ?_
  by_cases hf : fairB p m 10 = true
  · rw [hf]
    simp only [if_true]
    have h := fairB_iff hf
    refine Ev.bind (below_ev p b 10 (by omega) hb) ?_
    by_cases hbb : (decide (b.length ≤ 10) && allF p b) = true
    · rw [hbb]
      simp only [Bool.not_true]
      simp only [Bool.and_eq_true, decide_eq_true_eq] at hbb
      have hsys := h.sys (by omega) hbb.2
      refine Ev.of_succ (g := fun k => (M.privityref06_Solve.f k p m b).bind fun bt346 => ((M.privitylaw06_awake.f k).bind fun t350 => (if t350 = true then (if (solveS p m b).2 = bt346.2 then ((M.privityref06_SameList.f k (solveS p m b).1 bt346.1).bind fun t351 => (some t351)) else (none)) else (none)))) (fun k => ?_) ?_
      · conv => lhs; simp only [M.privitylaw06_MatrixSolve.j0, Bool.false_eq_true, if_false]
        rw [solve_f hsys]
        rfl
      · refine Ev.bind (rsolve_ev hsys) (Ev.bind awake6 ?_)
        simp only [if_true]
        exact Ev.bind (sameList_ev _ (by have := solveS_length (p := p) (b := b) (h.small (by omega)); omega)) (Ev.of_eq fun _ => rfl)
    · have hbb' : (decide (b.length ≤ 10) && allF p b) = false := by simpa using hbb
      rw [hbb']
      exact hj
  · have hf' : fairB p m 10 = false := by simpa using hf
    rw [hf']
    simp only [Bool.false_eq_true, if_false]
    exact hj
end Go.Proofs.Ytkjknpibcbpdfaa
