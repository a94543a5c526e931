/- What matrix.reduce and privityref06.Reduced come to, over plain numbers; matrix.reduce's state in memory, and how its parts are read and written. -/
import Derived.Test.YtkjknpibcbpdfaaMat3
namespace Go.Proofs.Ytkjknpibcbpdfaa
open Go.RowKit Go.Proofs.YtkjknpibcbpdfaaW.PrintWords
set_option linter.unusedVariables false
set_option linter.unusedSimpArgs false

/-- The number at row i, column c. -/
def cellAt (m : List (List Int)) (i c : Nat) : Int := (m.getD i []).getD c 0
/-- The first row from i on (n are left) whose number in column c is not 0. -/
def findP (m : List (List Int)) (c : Nat) : Nat → Nat → Option Nat
  | 0, _ => none
  | n + 1, i => if cellAt m i c ≠ 0 then some i else findP m c n (i + 1)
def scaleR (p inv : Int) (row : List Int) : List Int := row.map fun v => inv * v % p
def elimR (p k : Int) (prow row : List Int) : List Int := List.zipWith (fun a b => (a - k * b % p) % p) row prow
/-- Rows but r freed of column c. -/
def elimAll (p : Int) (c r : Nat) (prow : List Int) (m : List (List Int)) : List (List Int) := m.mapIdx fun j row => if j = r ∨ row.getD c 0 = 0 then row else elimR p (row.getD c 0) prow row
/-- One column. -/
def redCol (p : Int) (s : List (List Int) × List Int × Int) (c : Nat) : List (List Int) × List Int × Int :=
  match findP s.1 c (s.1.length - s.2.1.length) s.2.1.length with
  | none => s
  | some i =>
    let r := s.2.1.length
    let m1 := if i = r then s.1 else swapL [] s.1 (i : Int) (r : Int)
    let d1 := if i = r then s.2.2 else (-s.2.2) % p
    let d2 := d1 * cellAt m1 r c % p
    let prow := scaleR p (invF p (cellAt m1 r c)).1 (m1.getD r [])
    (elimAll p c r prow (m1.set r prow), s.2.1 ++ [(c : Int)], d2)
def redAll (p : Int) (m : List (List Int)) (cols : Nat) : List (List Int) × List Int × Int := (List.range cols).foldl (redCol p) (m, [], 1)
/-- Even, of small size, of the field. -/
def goodM (p : Int) (m : List (List Int)) : Bool := okp p && m.all (allF p) && rectB m && fewR m
def matrix_reduce.f (p : Int) (m : List (List Int)) (cols : Int) : Option (Int × List (List Int) × List Int × Int) :=
  if (goodM p m && decide (0 ≤ cols) && (m.isEmpty || decide (cols ≤ ((m.headD []).length : Int))) && decide (cols ≤ 1048576)) = true then some (p, (redAll p m cols.toNat).1, (redAll p m cols.toNat).2.1, (redAll p m cols.toNat).2.2) else none

theorem findP_spec (m : List (List Int)) (c : Nat) : ∀ (n i k : Nat), findP m c n i = some k → i ≤ k ∧ k < i + n ∧ cellAt m k c ≠ 0
  | 0, _, _, h => by cases h
  | n + 1, i, k, h => by
    unfold findP at h
    split at h
    · rename_i h0
      obtain rfl := Option.some.inj h
      exact ⟨Nat.le_refl _, by omega, h0⟩
    · obtain ⟨h1, h2, h3⟩ := findP_spec m c n (i + 1) k h
      exact ⟨by omega, by omega, h3⟩
/-- All rows are of the field and w wide. -/
structure Wide (p : Int) (n w : Nat) (m : List (List Int)) : Prop where
  len : m.length = n
  row : ∀ j, j < n → (m.getD j []).length = w
  fld : ∀ j, allF p (m.getD j []) = true
theorem Wide.set {p : Int} {n w : Nat} {m : List (List Int)} (h : Wide p n w m) {r : Nat} {row : List Int} (hl : row.length = w) (hf : allF p row = true) : Wide p n w (m.set r row) := by
  have key : ∀ j, (m.set r row).getD j [] = m.getD j [] ∨ (m.set r row).getD j [] = row := by
    intro j
    rw [List.getD_eq_getElem?_getD, List.getElem?_set]
    split
    · split
      · exact .inr rfl
      · rename_i h1 h2
        subst h1
        rw [List.getD_eq_getElem?_getD, List.getElem?_eq_none (by omega)]
        exact .inl rfl
    · rw [← List.getD_eq_getElem?_getD]
      exact .inl rfl
  refine ⟨by rw [List.length_set]; exact h.len, fun j hj => ?_, fun j => ?_⟩
  · rcases key j with e | e <;> rw [e]
    · exact h.row j hj
    · exact hl
  · rcases key j with e | e <;> rw [e]
    · exact h.fld j
    · exact hf
theorem Wide.swap {p : Int} {n w : Nat} {m : List (List Int)} (h : Wide p n w m) {i r : Nat} (hi : i < n) (hr : r < n) : Wide p n w (swapL [] m (i : Int) (r : Int)) := by
  unfold swapL
  rw [Int.toNat_natCast, Int.toNat_natCast]
  exact (h.set (h.row r hr) (h.fld r)).set (h.row i hi) (h.fld i)
/-- What a state between two columns has. -/
structure RedOk (p : Int) (n w c : Nat) (s : List (List Int) × List Int × Int) : Prop where
  wide : Wide p n w s.1
  piv : s.2.1.length ≤ n
  pivc : s.2.1.length ≤ c
  det : inF p s.2.2 = true
theorem redAll_succ (p : Int) (m : List (List Int)) (c : Nat) : redAll p m (c + 1) = redCol p (redAll p m c) c := by
  unfold redAll
  rw [List.range_succ, List.foldl_append]
  rfl
theorem allF_list {p : Int} {l : List Int} (h : ∀ x, x ∈ l → inF p x = true) : allF p l = true := List.all_eq_true.2 h
theorem scaleR_allF {p : Int} (hp : okp p = true) (inv : Int) (row : List Int) : allF p (scaleR p inv row) = true := allF_list fun x hx => by
  obtain ⟨y, _, rfl⟩ := List.mem_map.1 hx
  exact inF_mod hp _
theorem elimR_allF {p : Int} (hp : okp p = true) (k : Int) (prow row : List Int) : allF p (elimR p k prow row) = true := allF_list fun x hx => by
  unfold elimR at hx
  obtain ⟨i, hi, rfl⟩ := List.mem_iff_getElem.1 hx
  rw [List.getElem_zipWith]
  exact inF_mod hp _
theorem elimAll_wide {p : Int} (hp : okp p = true) {n w : Nat} {m : List (List Int)} (h : Wide p n w m) (c r : Nat) (prow : List Int) (hl : prow.length = w) : Wide p n w (elimAll p c r prow m) := by
  have key : ∀ j, (elimAll p c r prow m).getD j [] = if j < n then (if j = r ∨ (m.getD j []).getD c 0 = 0 then m.getD j [] else elimR p ((m.getD j []).getD c 0) prow (m.getD j [])) else [] := by
    intro j
    unfold elimAll
    rw [List.getD_eq_getElem?_getD, List.getElem?_mapIdx]
    by_cases hj : j < n
    · have hj2 : j < m.length := by rw [h.len]; exact hj
      rw [if_pos hj, List.getElem?_eq_getElem hj2, List.getD_eq_getElem?_getD (l := m), List.getElem?_eq_getElem hj2]
      rfl
    · rw [if_neg hj, List.getElem?_eq_none (by rw [h.len]; omega)]
      rfl
  refine ⟨by unfold elimAll; rw [List.length_mapIdx]; exact h.len, fun j hj => ?_, fun j => ?_⟩
  · rw [key, if_pos hj]
    split
    · exact h.row j hj
    · unfold elimR
      rw [List.length_zipWith, h.row j hj, hl, Nat.min_self]
  · rw [key]
    split
    · split
      · exact h.fld j
      · exact elimR_allF hp _ _ _
    · rfl
theorem redCol_ok {p : Int} (hp : okp p = true) {n w c : Nat} {s : List (List Int) × List Int × Int} (h : RedOk p n w c s) : RedOk p n w (c + 1) (redCol p s c) := by
  obtain ⟨h1, h2, h3, h4⟩ := h
  unfold redCol
  split
  · exact ⟨h1, h2, by omega, h4⟩
  · rename_i i hf
    obtain ⟨a1, a2, _⟩ := findP_spec _ _ _ _ _ hf
    have hn := h1.len
    have hr : s.2.1.length < n := by omega
    dsimp only
    have hm1 : Wide p n w (if i = s.2.1.length then s.1 else swapL [] s.1 (i : Int) (s.2.1.length : Int)) := by
      split
      · exact h1
      · exact h1.swap (by omega) hr
    generalize (if i = s.2.1.length then s.1 else swapL [] s.1 (i : Int) (s.2.1.length : Int)) = m1 at hm1 ⊢
    have hl : ∀ inv, (scaleR p inv (m1.getD s.2.1.length [])).length = w := fun inv => by unfold scaleR; rw [List.length_map, hm1.row _ hr]
    exact ⟨elimAll_wide hp (hm1.set (hl _) (scaleR_allF hp _ _)) _ _ _ (hl _), by simp; omega, by simp; omega, inF_mod hp _⟩
theorem redOk_start {p : Int} {m : List (List Int)} (h : goodM p m = true) : RedOk p m.length (m.headD []).length 0 (m, [], 1) := by
  unfold goodM rectB at h
  simp only [Bool.and_eq_true, List.all_eq_true, beq_iff_eq] at h
  obtain ⟨⟨⟨hp, hf⟩, hr⟩, _⟩ := h
  refine ⟨⟨rfl, fun j hj => ?_, fun j => ?_⟩, Nat.zero_le _, Nat.zero_le _, inF_iff.2 ⟨by show (0 : Int) ≤ 1; omega, by show (1 : Int) < p; have := okp_lo hp; omega⟩⟩
  · rw [List.getD_eq_getElem?_getD, List.getElem?_eq_getElem hj]
    exact hr _ (List.getElem_mem _)
  · by_cases hj : j < m.length
    · rw [List.getD_eq_getElem?_getD, List.getElem?_eq_getElem hj]
      exact hf _ (List.getElem_mem _)
    · rw [List.getD_eq_getElem?_getD, List.getElem?_eq_none (Nat.le_of_not_lt hj)]
      rfl
theorem redAll_ok {p : Int} {m : List (List Int)} (h : goodM p m = true) (hp : okp p = true) : ∀ c, RedOk p m.length (m.headD []).length c (redAll p m c)
  | 0 => redOk_start h
  | c + 1 => by rw [redAll_succ]; exact redCol_ok hp (redAll_ok h hp c)
open Go.RowKit Go.Proofs.YtkjknpibcbpdfaaW.PrintWords Go.Proofs.YtkjknpibcbpdfaaW.PrintLast Go.Proofs.YtkjknpibcbpdfaaW.PrintMore
set_option linter.unusedVariables false
set_option linter.unusedSimpArgs false

/-- The struct worked at block g, its table, its pivots. -/
structure WInv (W : World) (base g : Nat) (p : Int) (v : Value) (m : List (List Int)) (pv : Value) (piv : List Int) (det : Int) : Prop where
  hg : W.heap[g]? = some (.cells #[.int .u64 p, v, pv, .int .u64 det] 79 (0, 0))
  hb : base ≤ g
  hs : Kd.S (Kd.slice 22 (Kd.int .u64)) 32 W base (fun _ => True) v m
  hp : Kd.R (Kd.int .i64) 3 W base (fun _ => True) pv piv
section
variable {W W' : World} {base g : Nat} {p det : Int} {v pv : Value} {m : List (List Int)} {piv : List Int}
theorem WInv.drew (h : WInv W base g p v m pv piv det) : WInv W.drew base g p v m pv piv det := ⟨h.hg, h.hb, Kd.S_drew h.hs, Kd.R_drew h.hp⟩
theorem WInv.drewN (h : WInv W base g p v m pv piv det) (n : Nat) : WInv (W.drewN n) base g p v m pv piv det := ⟨h.hg, h.hb, Kd.S_drewN h.hs n, Kd.R_drewN h.hp n⟩
/-- A row of the table: read, and written. -/
theorem WInv.row (h : WInv W base g p v m pv piv det) (i : Nat) (hi : i < m.length) (hne : 0 < (m.getD i []).length) :
    ∃ gt ct gr cr, v = .slice (some ⟨gt, 0, none⟩) m.length ct ∧ base ≤ gr ∧ W.cell? ⟨gt, i, none⟩ = some (.slice (some ⟨gr, 0, none⟩) (m.getD i []).length cr) ∧
      (∀ j, j < (m.getD i []).length → W.cell? ⟨gr, j, none⟩ = some (.int .u64 ((m.getD i []).getD j 0)) ∧ W.frozen? ⟨gr, j, none⟩ = false) ∧
      ∀ (j : Nat) (x : Int), WInv (W.setCell ⟨gr, j, none⟩ (.int .u64 x)) base g p v (m.set i ((m.getD i []).set j x)) pv piv det ∧ W.grownBy (W.setCell ⟨gr, j, none⟩ (.int .u64 x)) (some gr) := by
  obtain ⟨gt, ct, rfl, _, _, _⟩ := Kd.S_form h.hs (by omega)
  obtain ⟨oki, c, hcl, hM, hcc, hoki, hbk⟩ := Kd.S_borrow h.hs [] (i : Int) (by omega) (by omega)
  obtain ⟨vr, rfl, hR⟩ := hM
  rw [Int.toNat_natCast] at hR
  obtain ⟨gr, cr, rfl, hb2, hlt, cells, hcells⟩ := Kd.R_form hR hne
  have hx := hcc 0 _ rfl
  rw [add_plain, Int.toNat_natCast, Nat.add_zero, show (Kd.slice 22 (Kd.int .u64)).sz = 1 from rfl, Nat.mul_one] at hx
  refine ⟨gt, ct, gr, cr, rfl, hb2, hx, fun j hj => ?_, fun j x => ?_⟩
  · have hc := Kd.R_celln (0 : Int) hR (j : Int) (by omega) (by omega)
    rw [Int.toNat_natCast] at hc
    refine ⟨hc.1.trans ?_, hc.2⟩
    unfold rdOf
    rw [Int.toNat_natCast]
  · obtain ⟨hR', hg'⟩ := Kd.R_putg hR (j : Int) x
    rw [Int.toNat_natCast] at hR' hg'
    have hS := hbk hg' (fun k e => by obtain rfl := Option.some.inj e; exact hR.1 _ rfl) (x' := (m.getD i []).set j x) (Kd.M_row hR')
    rw [Int.toNat_natCast] at hS
    have hne : g ≠ gr := by
      intro e
      subst e
      rw [h.hg] at hcells
      simp at hcells
    exact ⟨⟨(hg'.block g (blk_lt h.hg) (fun e => hne (Option.some.inj e))).trans h.hg, h.hb, hS, Kd.R_over' (v := .slice (some ⟨gr, 0, none⟩) (m.getD i []).length cr) h.hp (Kd.R_typed hR) (by decide) hg'⟩, hg'⟩
theorem WInv.setDet (h : WInv W base g p v m pv piv det) (x : Int) : WInv (W.setCell ⟨g, 3, none⟩ (.int .u64 x)) base g p v m pv piv x :=
  ⟨blk_put h.hg 3 _ rfl, h.hb, Kd.S_set h.hs h.hg (by decide) 3 _, Kd.R_set h.hp h.hg (by decide) 3 _⟩
theorem WInv.setPiv (h : WInv W base g p v m pv piv det) {pv' : Value} {piv' : List Int} (hp : Kd.R (Kd.int .i64) 3 W base (fun _ => True) pv' piv') : WInv (W.setCell ⟨g, 2, none⟩ pv') base g p v m pv' piv' det :=
  ⟨blk_put h.hg 2 _ rfl, h.hb, Kd.S_set h.hs h.hg (by decide) 2 _, Kd.R_set hp h.hg (by decide) 2 _⟩
/-- The pivots have grown (appended to). -/
theorem WInv.grownP (h : WInv W base g p v m pv piv det) (hg : W.grownBy W' pv.ownBlock) {pv' : Value} {piv' : List Int} (hp : Kd.R (Kd.int .i64) 3 W' base (fun _ => True) pv' piv') :
    W'.heap[g]? = some (.cells #[.int .u64 p, v, pv, .int .u64 det] 79 (0, 0)) ∧ Kd.S (Kd.slice 22 (Kd.int .u64)) 32 W' base (fun _ => True) v m := by
  refine ⟨blk_grown h.hg hg (Kd.R_ne h.hp h.hg (by decide)), Kd.S_over' (v := pv) h.hs (Kd.R_typed h.hp) (by decide) hg⟩
theorem WInv.swap (h : WInv W base g p v m pv piv det) (i r : Nat) (hi : i < m.length) (hr : r < m.length) :
    ∃ gt ct vi vr, v = .slice (some ⟨gt, 0, none⟩) m.length ct ∧ base ≤ gt ∧ W.cell? ⟨gt, i, none⟩ = some vi ∧ W.cell? ⟨gt, r, none⟩ = some vr ∧ W.frozen? ⟨gt, i, none⟩ = false ∧ W.frozen? ⟨gt, r, none⟩ = false ∧
      (∃ A n c, vi = .slice A n c) ∧ (∃ A n c, vr = .slice A n c) ∧ WInv ((W.setCell ⟨gt, i, none⟩ vr).setCell ⟨gt, r, none⟩ vi) base g p v (swapL [] m (i : Int) (r : Int)) pv piv det ∧ W.grownBy ((W.setCell ⟨gt, i, none⟩ vr).setCell ⟨gt, r, none⟩ vi) (some gt) := by
  obtain ⟨gt, ct, rfl, hb2, _, cells, hcells⟩ := Kd.S_form h.hs (by omega)
  have one : ∀ j, j < m.length → ∃ u, W.cell? ⟨gt, j, none⟩ = some u ∧ W.frozen? ⟨gt, j, none⟩ = false ∧ ∃ A n c, u = .slice A n c := by
    intro j hj
    obtain ⟨_, c, hcl, hM, hcc, hfr, _, _⟩ := Kd.S_elem h.hs [] (j : Int) (by omega) (by omega)
    obtain ⟨u, rfl, hR⟩ := hM
    obtain ⟨A, c', rfl⟩ := Kd.R_slice hR
    have hx := hcc 0 _ rfl
    have hf := hfr 0
    rw [Int.toNat_natCast, Nat.add_zero, show (Kd.slice 22 (Kd.int .u64)).sz = 1 from rfl, Nat.mul_one] at hx hf
    exact ⟨_, hx, hf, A, _, c', rfl⟩
  obtain ⟨vi, hxi, hfi, si⟩ := one i hi
  obtain ⟨vr, hxr, hfr, sr⟩ := one r hr
  obtain ⟨hS, hG⟩ := S_swap h.hs (i : Int) (r : Int) (by omega) (by omega) (by omega) (by omega) (by rw [Int.toNat_natCast]; exact hxi) (by rw [Int.toNat_natCast]; exact hxr)
  rw [Int.toNat_natCast, Int.toNat_natCast] at hS hG
  have hne : g ≠ gt := by
    intro e
    subst e
    rw [h.hg] at hcells
    simp at hcells
  refine ⟨gt, ct, vi, vr, rfl, hb2, hxi, hxr, hfi, hfr, si, sr, ⟨(hG.block g (blk_lt h.hg) (fun e => hne (Option.some.inj e))).trans h.hg, h.hb, ?_, Kd.R_over' (v := .slice (some ⟨gt, 0, none⟩) m.length ct) h.hp (Kd.S_typed h.hs) (by decide) hG⟩, hG⟩
  exact hS
end
end Go.Proofs.Ytkjknpibcbpdfaa
