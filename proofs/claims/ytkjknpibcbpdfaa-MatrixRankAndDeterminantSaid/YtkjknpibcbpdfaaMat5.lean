/- matrix.reduce's state in memory, and how its parts are read and written. -/
import Derived.Test.YtkjknpibcbpdfaaMat4
namespace Go.Proofs.Ytkjknpibcbpdfaa
open Go.RowKit Go.Proofs.YtkjknpibcbpdfaaW.PrintWords Go.Proofs.YtkjknpibcbpdfaaW.PrintLast Go.Proofs.YtkjknpibcbpdfaaW.PrintMore
set_option linter.unusedVariables false
set_option linter.unusedSimpArgs false

/-- The struct worked at block g, its table, its pivots. -/
structure WInv (W : World) (base g : Nat) (p : Int) (v : Value) (m : List (List Int)) (pv : Value) (piv : List Int) (det : Int) : Prop where
  hg : W.heap[g]? = some (.cells #[.int .u64 p, v, pv, .int .u64 det] 79 (0, 0))
  hb : base ≤ g
  hs : Kd.S (Kd.slice 22 (Kd.int .u64)) 32 W base (fun _ => True) v m
  hp : Kd.R (Kd.int .i64) 3 W base (fun _ => True) pv piv
section
variable {W W' : World} {base g : Nat} {p det : Int} {v pv : Value} {m : List (List Int)} {piv : List Int}
theorem WInv.drew (h : WInv W base g p v m pv piv det) : WInv W.drew base g p v m pv piv det := ⟨h.hg, h.hb, Kd.S_drew h.hs, Kd.R_drew h.hp⟩
theorem WInv.drewN (h : WInv W base g p v m pv piv det) (n : Nat) : WInv (W.drewN n) base g p v m pv piv det := ⟨h.hg, h.hb, Kd.S_drewN h.hs n, Kd.R_drewN h.hp n⟩
/-- A row of the table: read, and written. -/
theorem WInv.row (h : WInv W base g p v m pv piv det) (i : Nat) (hi : i < m.length) (hne : 0 < (m.getD i []).length) :
    ∃ gt ct gr cr, v = .slice (some ⟨gt, 0, none⟩) m.length ct ∧ base ≤ gr ∧ W.cell? ⟨gt, i, none⟩ = some (.slice (some ⟨gr, 0, none⟩) (m.getD i []).length cr) ∧
      (∀ j, j < (m.getD i []).length → W.cell? ⟨gr, j, none⟩ = some (.int .u64 ((m.getD i []).getD j 0)) ∧ W.frozen? ⟨gr, j, none⟩ = false) ∧
      ∀ (j : Nat) (x : Int), WInv (W.setCell ⟨gr, j, none⟩ (.int .u64 x)) base g p v (m.set i ((m.getD i []).set j x)) pv piv det ∧ W.grownBy (W.setCell ⟨gr, j, none⟩ (.int .u64 x)) (some gr) := by
  obtain ⟨gt, ct, rfl, _, _, _⟩ := Kd.S_form h.hs (by omega)
  obtain ⟨oki, c, hcl, hM, hcc, hoki, hbk⟩ := Kd.S_borrow h.hs [] (i : Int) (by omega) (by omega)
  obtain ⟨vr, rfl, hR⟩ := hM
  rw [Int.toNat_natCast] at hR
  obtain ⟨gr, cr, rfl, hb2, hlt, cells, hcells⟩ := Kd.R_form hR hne
  have hx := hcc 0 _ rfl
  rw [add_plain, Int.toNat_natCast, Nat.add_zero, show (Kd.slice 22 (Kd.int .u64)).sz = 1 from rfl, Nat.mul_one] at hx
  refine ⟨gt, ct, gr, cr, rfl, hb2, hx, fun j hj => ?_, fun j x => ?_⟩
  · have hc := Kd.R_celln (0 : Int) hR (j : Int) (by omega) (by omega)
    rw [Int.toNat_natCast] at hc
    refine ⟨hc.1.trans ?_, hc.2⟩
    unfold rdOf
    rw [Int.toNat_natCast]
  · obtain ⟨hR', hg'⟩ := Kd.R_putg hR (j : Int) x
    rw [Int.toNat_natCast] at hR' hg'
    have hS := hbk hg' (fun k e => by obtain rfl := Option.some.inj e; exact hR.1 _ rfl) (x' := (m.getD i []).set j x) (Kd.M_row hR')
    rw [Int.toNat_natCast] at hS
    have hne : g ≠ gr := by
      intro e
      subst e
      rw [h.hg] at hcells
      simp at hcells
    exact ⟨⟨(hg'.block g (blk_lt h.hg) (fun e => hne (Option.some.inj e))).trans h.hg, h.hb, hS, Kd.R_over' (v := .slice (some ⟨gr, 0, none⟩) (m.getD i []).length cr) h.hp (Kd.R_typed hR) (by decide) hg'⟩, hg'⟩
theorem WInv.setDet (h : WInv W base g p v m pv piv det) (x : Int) : WInv (W.setCell ⟨g, 3, none⟩ (.int .u64 x)) base g p v m pv piv x :=
  ⟨blk_put h.hg 3 _ rfl, h.hb, Kd.S_set h.hs h.hg (by decide) 3 _, Kd.R_set h.hp h.hg (by decide) 3 _⟩
theorem WInv.setPiv (h : WInv W base g p v m pv piv det) {pv' : Value} {piv' : List Int} (hp : Kd.R (Kd.int .i64) 3 W base (fun _ => True) pv' piv') : WInv (W.setCell ⟨g, 2, none⟩ pv') base g p v m pv' piv' det :=
  ⟨blk_put h.hg 2 _ rfl, h.hb, Kd.S_set h.hs h.hg (by decide) 2 _, Kd.R_set hp h.hg (by decide) 2 _⟩
/-- The pivots have grown (appended to). -/
theorem WInv.grownP (h : WInv W base g p v m pv piv det) (hg : W.grownBy W' pv.ownBlock) {pv' : Value} {piv' : List Int} (hp : Kd.R (Kd.int .i64) 3 W' base (fun _ => True) pv' piv') :
    W'.heap[g]? = some (.cells #[.int .u64 p, v, pv, .int .u64 det] 79 (0, 0)) ∧ Kd.S (Kd.slice 22 (Kd.int .u64)) 32 W' base (fun _ => True) v m := by
  refine ⟨blk_grown h.hg hg (Kd.R_ne h.hp h.hg (by decide)), Kd.S_over' (v := pv) h.hs (Kd.R_typed h.hp) (by decide) hg⟩
theorem WInv.swap (h : WInv W base g p v m pv piv det) (i r : Nat) (hi : i < m.length) (hr : r < m.length) :
    ∃ gt ct vi vr, v = .slice (some ⟨gt, 0, none⟩) m.length ct ∧ base ≤ gt ∧ W.cell? ⟨gt, i, none⟩ = some vi ∧ W.cell? ⟨gt, r, none⟩ = some vr ∧ W.frozen? ⟨gt, i, none⟩ = false ∧ W.frozen? ⟨gt, r, none⟩ = false ∧
      (∃ A n c, vi = .slice A n c) ∧ (∃ A n c, vr = .slice A n c) ∧ WInv ((W.setCell ⟨gt, i, none⟩ vr).setCell ⟨gt, r, none⟩ vi) base g p v (swapL [] m (i : Int) (r : Int)) pv piv det ∧ W.grownBy ((W.setCell ⟨gt, i, none⟩ vr).setCell ⟨gt, r, none⟩ vi) (some gt) := by
  obtain ⟨gt, ct, rfl, hb2, _, cells, hcells⟩ := Kd.S_form h.hs (by omega)
  have one : ∀ j, j < m.length → ∃ u, W.cell? ⟨gt, j, none⟩ = some u ∧ W.frozen? ⟨gt, j, none⟩ = false ∧ ∃ A n c, u = .slice A n c := by
    intro j hj
    obtain ⟨_, c, hcl, hM, hcc, hfr, _, _⟩ := Kd.S_elem h.hs [] (j : Int) (by omega) (by omega)
    obtain ⟨u, rfl, hR⟩ := hM
    obtain ⟨A, c', rfl⟩ := Kd.R_slice hR
    have hx := hcc 0 _ rfl
    have hf := hfr 0
    rw [Int.toNat_natCast, Nat.add_zero, show (Kd.slice 22 (Kd.int .u64)).sz = 1 from rfl, Nat.mul_one] at hx hf
    exact ⟨_, hx, hf, A, _, c', rfl⟩
  obtain ⟨vi, hxi, hfi, si⟩ := one i hi
  obtain ⟨vr, hxr, hfr, sr⟩ := one r hr
  obtain ⟨hS, hG⟩ := S_swap h.hs (i : Int) (r : Int) (by omega) (by omega) (by omega) (by omega) (by rw [Int.toNat_natCast]; exact hxi) (by rw [Int.toNat_natCast]; exact hxr)
  rw [Int.toNat_natCast, Int.toNat_natCast] at hS hG
  have hne : g ≠ gt := by
    intro e
    subst e
    rw [h.hg] at hcells
    simp at hcells
  refine ⟨gt, ct, vi, vr, rfl, hb2, hxi, hxr, hfi, hfr, si, sr, ⟨(hG.block g (blk_lt h.hg) (fun e => hne (Option.some.inj e))).trans h.hg, h.hb, ?_, Kd.R_over' (v := .slice (some ⟨gt, 0, none⟩) m.length ct) h.hp (Kd.S_typed h.hs) (by decide) hG⟩, hG⟩
  exact hS
end
end Go.Proofs.Ytkjknpibcbpdfaa
