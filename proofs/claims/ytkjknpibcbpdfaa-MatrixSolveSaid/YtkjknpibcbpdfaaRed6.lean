/- privityref06.Reduced comes to what matrix.reduce comes to. -/
import Derived.Test.YtkjknpibcbpdfaaLaw6G
import Derived.Test.YtkjknpibcbpdfaaM4
namespace Go.Proofs.Ytkjknpibcbpdfaa
open Go.RowKit Go.Proofs.YtkjknpibcbpdfaaW.PrintWords
set_option linter.unusedVariables false
set_option linter.unusedSimpArgs false

theorem Wide.setRow {p : Int} {n w : Nat} {m : List (List Int)} (h : Wide p n w m) (r : Nat) {row : List Int} (hl : row.length = w) : (m.set r row).length = n ∧ ∀ j, j < n → ((m.set r row).getD j []).length = w := by
  refine ⟨by rw [List.length_set]; exact h.len, fun j hj => ?_⟩
  by_cases e : r = j
  · subst e
    rw [getD_set_self _ _ _ _ (by rw [h.len]; exact hj)]
    exact hl
  · rw [getD_set_ne _ _ _ _ _ e]
    exact h.row j hj
section
variable {p : Int} {mm wd n c r : Nat} {piv : List Int} {det : Int} {res : List (List Int) × List Int × Int}
/-- One row freed. -/
theorem ev_l5 (hp : okp p = true) (hM : mm ≤ 1048576) (hw : wd ≤ 1048576) {T2 U : List (List Int)} {pr : List Int} {i : Nat} {y : Int} (hT : Wide p mm wd T2) (hU : Wide p mm wd U) (hi : i < mm) (hr : r < mm) (hir : ¬ i = r) (hUi : U.getD i [] = T2.getD i []) (hUr : U.getD r [] = pr) (hpl : pr.length = wd) (hpf : allF p pr = true) (hy : inF p y = true)
    (hnext : Ev (fun k => M.privityref06_Reduced.l4 k p n (U.set i (elimR p y pr (T2.getD i []))) piv det c r ((i + 1 : Nat) : Int)) res) : ∀ (d j : Nat), j + d = wd →
    Ev (fun k => M.privityref06_Reduced.l5 k p n (U.set i (elimK p y pr j (T2.getD i []))) piv det c r i y (j : Int)) res := by
  have hlU := hU.len
  have hrow := hT.row i hi
  intro d
  induction d with
  | zero =>
    intro j hj
    obtain rfl : j = wd := by omega
    rw [← hrow, elimK_done _ _ _ _ (hpl.trans hrow.symm), hrow]
    refine Ev.of_succ (fun k => ?_) hnext
    simp only [M.privityref06_Reduced.l5]
    have h1 : (U.set i (elimR p y pr (T2.getD i []))).getD i [] = elimR p y pr (T2.getD i []) := getD_set_self _ _ _ _ (by omega)
    have h2 : (elimR p y pr (T2.getD i [])).length = j := by unfold elimR; rw [List.length_zipWith, hrow, hpl, Nat.min_self]
    rw [if_pos (by omega), if_pos (by rw [List.length_set]; omega), rdL, h1, h2, if_neg (by omega), wrap_in (by omega) (by omega)]
    rfl
  | succ d ih =>
    intro j hj
    have h1 : (U.set i (elimK p y pr j (T2.getD i []))).getD i [] = elimK p y pr j (T2.getD i []) := getD_set_self _ _ _ _ (by omega)
    have h2 : (U.set i (elimK p y pr j (T2.getD i []))).getD r [] = pr := by rw [getD_set_ne _ _ _ _ _ hir, hUr]
    have hstep := elimT_step p y pr j i U T2 (by omega)
    refine Ev.of_succ (fun k => ?_) (ih (j + 1) (by omega))
    simp only [M.privityref06_Reduced.l5]
    have ha : inF p ((T2.getD i []).getD j 0) = true := allF_at hp (hT.fld i) j
    have hb : inF p (pr.getD j 0) = true := allF_at hp hpf j
    rw [if_pos (by omega), if_pos (by rw [List.length_set]; omega), rdL, rdL, h1, h2, elimK_length, hrow, if_pos (by omega), if_pos (by omega), if_pos (by omega), if_pos (by rw [List.length_set]; omega), hpl, if_pos (by omega), rd_nat, rd_nat, elimK_at, rmul_f hp hy hb]
    simp only [Option.bind_some]
    rw [rsub_f hp ha (inF_mod hp _)]
    simp only [Option.bind_some, Int.toNat_natCast]
    rw [wrap_in (by omega) (by omega), ← hstep, h1]
    rfl
/-- All rows freed, from row i on. -/
theorem ev_l4 (hp : okp p = true) (hM : mm ≤ 1048576) (hw : wd ≤ 1048576) (hc : c < wd) (hcn : c < n) {T2 : List (List Int)} {pr : List Int} (hT : Wide p mm wd T2) (hr : r < mm) (hpa : T2.getD r [] = pr) (hpl : pr.length = wd) (hpf : allF p pr = true) (hpv : piv.length ≤ 1048576)
    (hnext : Ev (fun k => M.privityref06_Reduced.l1 k p n (elimAll p c r pr T2) (piv ++ [(c : Int)]) det ((c + 1 : Nat) : Int)) res) : ∀ (d i : Nat), i + d = mm →
    Ev (fun k => M.privityref06_Reduced.l4 k p n (elimI p c r pr i T2) piv det c r (i : Int)) res := by
  have hlT := hT.len
  have hcb : (c : Int) ≤ 1048576 := by omega
  intro d
  induction d with
  | zero =>
    intro i hi
    obtain rfl : i = mm := by omega
    rw [← hlT, elimI_done, hlT]
    refine Ev.of_succ (fun k => ?_) hnext
    simp only [M.privityref06_Reduced.l4]
    have : (elimAll p c r pr T2).length = i := by unfold elimAll; rw [List.length_mapIdx]; exact hlT
    rw [this, if_neg (by omega), if_pos (by omega), wrap_in (by omega) (by omega)]
    rfl
  | succ d ih =>
    intro i hi
    have hU := elimI_wide hp hT c r pr hpl i
    have hUi := elimI_at p c r pr i i T2 (.inl (Nat.le_refl _))
    have hUr := (elimI_at p c r pr i r T2 (.inr rfl)).trans hpa
    have hlen := hU.len
    have hrow := hT.row i (by omega)
    have hcell : (T2.getD i []).getD c 0 = cellAt T2 i c := rfl
    have hf : inF p (cellAt T2 i c) = true := hT.at hp i c
    have hskip : (i = r ∨ cellAt T2 i c = 0) → Ev (fun k => M.privityref06_Reduced.j7 k p n (elimI p c r pr i T2) piv det c r i (cellAt T2 i c) false) res := fun h => by
      refine Ev.of_succ (fun k => ?_) (ih (i + 1) (by omega))
      rw [elimI_skip p c r pr i T2 h]
      simp only [M.privityref06_Reduced.j7, Bool.false_eq_true, if_false]
      rw [wrap_in (by omega) (by omega)]
      rfl
    have head : ∀ k, M.privityref06_Reduced.l4 (k + 1) p n (elimI p c r pr i T2) piv det c r (i : Int) = if (i : Int) = (r : Int) then M.privityref06_Reduced.j7 k p n (elimI p c r pr i T2) piv det c r i (cellAt T2 i c) false else M.privityref06_Reduced.j7 k p n (elimI p c r pr i T2) piv det c r i (cellAt T2 i c) (cellAt T2 i c != 0) := fun k => by
      conv => lhs; simp only [M.privityref06_Reduced.l4]
      rw [hlen, if_pos (by omega), if_pos (by omega), if_pos (by omega), rdL, hUi, hrow, if_pos (by omega), rd_nat, hcell]
    by_cases e : i = r
    · refine Ev.of_succ (fun k => ?_) (hskip (.inl e))
      rw [head, if_pos (by omega)]
    · by_cases e2 : cellAt T2 i c = 0
      · refine Ev.of_succ (fun k => ?_) (hskip (.inr e2))
        rw [head, if_neg (by omega), show (cellAt T2 i c != 0) = false by simp [e2]]
      · have h5 := ev_l5 (piv := piv) (det := det) (c := c) (n := n) hp hM hw hT hU (i := i) (by omega) hr e hUi hUr hpl hpf hf (res := res) (by
          rw [elimI_step p c r pr i T2 e e2]
          exact ih (i + 1) (by omega)) wd 0 (by omega)
        rw [elimT_zero p _ pr i _ T2 (by omega) hUi] at h5
        have h7 : Ev (fun k => M.privityref06_Reduced.j7 k p n (elimI p c r pr i T2) piv det c r i (cellAt T2 i c) true) res := by
          refine Ev.of_succ (fun k => ?_) h5
          simp only [M.privityref06_Reduced.j7, if_true]
          rfl
        refine Ev.of_succ (fun k => ?_) h7
        rw [head, if_neg (by omega), show (cellAt T2 i c != 0) = true by simp [e2]]
/-- The pivot's row scaled, from number j on. -/
theorem ev_l3 (hp : okp p = true) (hM : mm ≤ 1048576) (hw : wd ≤ 1048576) {T1 : List (List Int)} {iv : Int} (hT : Wide p mm wd T1) (hr : r < mm) (hiv : inF p iv = true)
    (hnext : Ev (fun k => M.privityref06_Reduced.l4 k p n (T1.set r (scaleR p iv (T1.getD r []))) piv det c r 0) res) : ∀ (d j : Nat), j + d = wd →
    Ev (fun k => M.privityref06_Reduced.l3 k p n (T1.set r (scaleK p iv j (T1.getD r []))) piv det c r iv (j : Int)) res := by
  have hlT := hT.len
  have hrow := hT.row r hr
  intro d
  induction d with
  | zero =>
    intro j hj
    obtain rfl : j = wd := by omega
    rw [← hrow, scaleK_done, hrow]
    refine Ev.of_succ (fun k => ?_) hnext
    simp only [M.privityref06_Reduced.l3]
    rw [if_pos (by omega), if_pos (by rw [List.length_set]; omega), rdL, getD_set_self _ _ _ _ (by omega), show (scaleR p iv (T1.getD r [])).length = j by unfold scaleR; rw [List.length_map]; exact hrow, if_neg (by omega)]
  | succ d ih =>
    intro j hj
    have h1 : (T1.set r (scaleK p iv j (T1.getD r []))).getD r [] = scaleK p iv j (T1.getD r []) := getD_set_self _ _ _ _ (by omega)
    have hstep := scaleT_step p iv j r T1 (by omega)
    refine Ev.of_succ (fun k => ?_) (ih (j + 1) (by omega))
    simp only [M.privityref06_Reduced.l3]
    have ha : inF p ((T1.getD r []).getD j 0) = true := allF_at hp (hT.fld r) j
    rw [if_pos (by omega), if_pos (by rw [List.length_set]; omega), rdL, h1, scaleK_length, hrow, if_pos (by omega), if_pos (by omega), rd_nat, scaleK_at, rmul_f hp ha hiv]
    simp only [Option.bind_some, Int.toNat_natCast]
    rw [wrap_in (by omega) (by omega), ← hstep, h1, Int.mul_comm]
    rfl
/-- The rest of a column's work, once the pivot's row stands in its place. -/
theorem ev_j4 (hp : okp p = true) (hM : mm ≤ 1048576) (hw : wd ≤ 1048576) (hc : c < wd) (hcn : c < n) {T1 : List (List Int)} {d1 : Int} (hT : Wide p mm wd T1) (hd : inF p d1 = true) (hr : piv.length < mm)
    (hnext : Ev (fun k => M.privityref06_Reduced.l1 k p n (elimAll p c piv.length (scaleR p (invF p (cellAt T1 piv.length c)).1 (T1.getD piv.length [])) (T1.set piv.length (scaleR p (invF p (cellAt T1 piv.length c)).1 (T1.getD piv.length [])))) (piv ++ [(c : Int)]) (d1 * cellAt T1 piv.length c % p) ((c + 1 : Nat) : Int)) res) :
    Ev (fun k => M.privityref06_Reduced.j4 k p n T1 piv d1 c (piv.length : Int)) res := by
  have hlT := hT.len
  have hrow := hT.row _ hr
  have hx : inF p (cellAt T1 piv.length c) = true := hT.at hp _ _
  have hiv := invF_inF (p := p) (x := cellAt T1 piv.length c) hp
  have hl : (scaleR p (invF p (cellAt T1 piv.length c)).1 (T1.getD piv.length [])).length = wd := by unfold scaleR; rw [List.length_map]; exact hrow
  have hf := scaleR_allF hp (invF p (cellAt T1 piv.length c)).1 (T1.getD piv.length [])
  have h4 := ev_l4 (piv := piv) (det := d1 * cellAt T1 piv.length c % p) hp hM hw hc hcn (hT.set (r := piv.length) hl hf) hr (getD_set_self _ _ _ _ (by omega)) hl hf (by omega) hnext mm 0 (by omega)
  rw [elimI_zero] at h4
  have h3 := ev_l3 (piv := piv) (det := d1 * cellAt T1 piv.length c % p) (c := c) (n := n) hp hM hw hT hr hiv h4 wd 0 (by omega)
  rw [scaleT_zero _ _ _ _ (by omega)] at h3
  refine Ev.of_succ (fun k => ?_) h3
  simp only [M.privityref06_Reduced.j4]
  rw [if_pos (by omega), if_pos (by omega), if_pos (by omega), rdL, hrow, if_pos (by omega), rd_nat, show (T1.getD piv.length []).getD c 0 = cellAt T1 piv.length c from rfl, rmul_f hp hd hx]
  simp only [Option.bind_some]
  rw [rinv_f hp hx]
  rfl
/-- A column. -/
theorem ev_col (hp : okp p = true) (hM : mm ≤ 1048576) (hw : wd ≤ 1048576) (hcw : mm = 0 ∨ c < wd) (hcn : c < n) (hn : n ≤ 1048576) {s : List (List Int) × List Int × Int} (hs : RedOk p mm wd c s)
    (hnext : Ev (fun k => M.privityref06_Reduced.l1 k p n (redCol p s c).1 (redCol p s c).2.1 (redCol p s c).2.2 ((c + 1 : Nat) : Int)) res) :
    Ev (fun k => M.privityref06_Reduced.l1 k p n s.1 s.2.1 s.2.2 (c : Int)) res := by
  obtain ⟨T, piv, det⟩ := s
  obtain ⟨hT, hpv, hpc, hd⟩ := hs
  dsimp only at hT hpv hpc hd ⊢
  have hlT := hT.len
  -- behind the search
  have hj3 : ∀ o, findP T c (mm - piv.length) piv.length = o → Ev (fun k => M.privityref06_Reduced.j3 k p n T piv det c ((o.getD mm : Nat) : Int)) res := by
    intro o ho
    cases o with
    | none =>
      rw [redCol_none p T piv det c (by rw [hlT]; exact ho)] at hnext
      refine Ev.of_succ (fun k => ?_) hnext
      simp only [M.privityref06_Reduced.j3, Option.getD_none]
      rw [hlT, if_pos rfl, wrap_in (by omega) (by omega)]
      rfl
    | some q =>
      obtain ⟨h1, h2, _⟩ := findP_spec _ _ _ _ _ ho
      rw [redCol_some p T piv det c q (by rw [hlT]; exact ho) rfl rfl] at hnext
      have hcw' : c < wd := hcw.elim (fun h => by omega) id
      by_cases e : q = piv.length
      · rw [if_pos e, if_pos e] at hnext
        refine Ev.of_succ (fun k => ?_) (ev_j4 hp hM hw hcw' hcn hT hd (by omega) hnext)
        simp only [M.privityref06_Reduced.j3, Option.getD_some]
        rw [hlT, if_neg (by omega), if_pos (by omega)]
      · rw [if_neg e, if_neg e] at hnext
        refine Ev.of_succ (fun k => ?_) (ev_j4 hp hM hw hcw' hcn (hT.swap (i := q) (r := piv.length) (by omega) (by omega)) (inF_mod hp _) (by omega) hnext)
        simp only [M.privityref06_Reduced.j3, Option.getD_some]
        rw [hlT, if_neg (by omega), if_neg (by omega), if_pos (by omega), if_pos (by omega), if_pos (by omega), if_pos (by omega), rsub_f hp (inF_zero hp) hd, Int.zero_sub]
        rfl
  -- the search
  have hl2 : ∀ (d i : Nat), i + d = mm → findP T c (mm - i) i = findP T c (mm - piv.length) piv.length → Ev (fun k => M.privityref06_Reduced.l2 k p n T piv det c (i : Int)) res := by
    intro d
    induction d with
    | zero =>
      intro i hi hf
      obtain rfl : i = mm := by omega
      have h := hj3 none (by rw [← hf, Nat.sub_self]; rfl)
      refine Ev.of_succ (fun k => ?_) h
      simp only [M.privityref06_Reduced.l2, Option.getD_none]
      rw [hlT, if_neg (by omega)]
    | succ d ih =>
      intro i hi hf
      have hcw' : c < wd := hcw.elim (fun h => by omega) id
      have hrow := hT.row i (by omega)
      by_cases e : cellAt T i c = 0
      · refine Ev.of_succ (fun k => ?_) (ih (i + 1) (by omega) ((findP_skip T c i mm (by omega) e).trans hf))
        simp only [M.privityref06_Reduced.l2]
        rw [hlT, if_pos (by omega), if_pos (by omega), if_pos (by omega), rdL, hrow, if_pos (by omega), rd_nat, if_pos (show (T.getD i []).getD c 0 = 0 from e), wrap_in (by omega) (by omega)]
        rfl
      · have h := hj3 (some i) (hf.symm.trans (findP_hit T c i mm (by omega) e))
        refine Ev.of_succ (fun k => ?_) h
        simp only [M.privityref06_Reduced.l2, Option.getD_some]
        rw [hlT, if_pos (by omega), if_pos (by omega), if_pos (by omega), rdL, hrow, if_pos (by omega), rd_nat, if_neg (show ¬ (T.getD i []).getD c 0 = 0 from e)]
  refine Ev.of_succ (fun k => ?_) (hl2 (mm - piv.length) piv.length (by omega) rfl)
  simp only [M.privityref06_Reduced.l1]
  rw [if_pos (by omega)]
end
theorem ev_l1 {p : Int} {m : List (List Int)} (hg : goodM p m = true) {n : Nat} (hcols : m = [] ∨ n ≤ (m.headD []).length) (hn : n ≤ 1048576) : ∀ (d c : Nat), c + d = n →
    Ev (fun k => M.privityref06_Reduced.l1 k p n (redAll p m c).1 (redAll p m c).2.1 (redAll p m c).2.2 (c : Int)) (redAll p m n) := by
  have hp := okp_good hg
  have hM : m.length ≤ 1048576 := by
    have h := hg
    unfold goodM fewR at h
    simp only [Bool.and_eq_true, decide_eq_true_eq] at h
    exact h.2.1
  intro d
  induction d with
  | zero =>
    intro c hc
    obtain rfl : c = n := by omega
    refine Ev.of_succ (g := fun _ => some (redAll p m c)) (fun k => ?_) (Ev.of_eq fun _ => rfl)
    simp only [M.privityref06_Reduced.l1]
    rw [if_neg (by omega)]
  | succ d ih =>
    intro c hc
    refine ev_col hp hM (goodM_wd hg) (hcols.elim (fun h => .inl (by rw [h]; rfl)) (fun h => .inr (by omega))) (by omega) hn (redAll_ok hg hp c) ?_
    rw [← redAll_succ]
    exact ih (c + 1) (by omega)
theorem red_ev {p : Int} {m : List (List Int)} (hg : goodM p m = true) {n : Nat} (hcols : m = [] ∨ n ≤ (m.headD []).length) (hn : n ≤ 1048576) : Ev (fun k => M.privityref06_Reduced.f k p m n) (redAll p m n) := by
  have hfew := hg
  unfold goodM fewR at hfew
  simp only [Bool.and_eq_true, decide_eq_true_eq, List.all_eq_true] at hfew
  have key : ∀ (d i : Nat), i + d = m.length → Ev (fun k => M.privityref06_Reduced.l0 k p m n (m.take i) (i : Int)) (redAll p m n) := by
    intro d
    induction d with
    | zero =>
      intro i hi
      have h := ev_l1 hg hcols hn n 0 (by omega)
      refine Ev.of_succ (fun k => ?_) h
      simp only [M.privityref06_Reduced.l0]
      rw [if_neg (by omega), List.take_of_length_le (by omega)]
      rfl
    | succ d ih =>
      intro i hi
      have hlt : i < m.length := by omega
      have hrow : (m.getD i []).length ≤ 1048576 := by rw [getD_row hlt]; exact hfew.2.2 _ (List.getElem_mem _)
      refine Ev.of_succ (fun k => ?_) (ih (i + 1) (by omega))
      simp only [M.privityref06_Reduced.l0, Option.bind_some]
      rw [if_pos (by omega), if_pos (by omega), rdL, if_pos (by simp only [List.length_nil]; omega), if_pos (by rw [List.length_take]; omega), wrap_in (by omega) (by omega), List.nil_append, List.take_succ_eq_append_getElem hlt, getD_row hlt]
      rfl
  exact key m.length 0 (by omega)
end Go.Proofs.Ytkjknpibcbpdfaa
