/- The contracts of matrix.reduce and slices.Clone in the form that the printed texts ask for. -/
import Derived.Test.YtkjknpibcbpdfaaMat8
namespace Go.Proofs.Ytkjknpibcbpdfaa
open Go.RowKit Go.Proofs.YtkjknpibcbpdfaaW.PrintWords Go.Proofs.YtkjknpibcbpdfaaW.PrintLast Go.Proofs.YtkjknpibcbpdfaaW.PrintMore
set_option linter.unusedVariables false
set_option linter.unusedSimpArgs false

def slices_Clone_uint64_uint64_57.f (l : List Int) : Option (List Int) := if l.length ≤ 1048576 then some l else none
theorem slices_Clone_uint64_uint64_57.calls (A0 : Option Addr) (c0 : Nat) (l0 r : List Int) (w : World) (hr0 : Kd.C (Kd.int .u64) w A0 l0.length l0) (hc0 : l0.length ≤ c0) (h : slices_Clone_uint64_uint64_57.f l0 = some r) :
    Calls Try.prog 57 #[.slice A0 l0.length c0] w fun e w' => ∃ v : Value, e = .returned v ∧ Kd.R (Kd.int .u64) 22 w' w.heap.size (fun _ => True) v r ∧ Below w.heap.size w w' := by
  unfold slices_Clone_uint64_uint64_57.f at h
  split at h
  · rename_i hl
    obtain rfl := Option.some.inj h
    exact clone_row A0 c0 l0 w hr0 hl
  · cases h
/-- The state that reduce returns, at block g. -/
def IsS79 (w0 W : World) (g : Nat) (p : Int) (m : List (List Int)) (piv : List Int) (det : Int) : Prop :=
  ∃ (A1 : Option Addr) (c1 : Nat) (A2 : Option Addr) (c2 : Nat), W.heap[g]? = some (.cells #[.int .u64 p, .slice A1 m.length c1, .slice A2 piv.length c2, .int .u64 det] 79 (0, 0)) ∧ w0.heap.size ≤ g ∧ m.length ≤ c1 ∧ piv.length ≤ c2
theorem IsS79.ge {w0 W : World} {g : Nat} {p : Int} {m : List (List Int)} {piv : List Int} {det : Int} (h : IsS79 w0 W g p m piv det) : w0.heap.size ≤ g := by
  obtain ⟨_, _, _, _, _, hg, _⟩ := h
  exact hg
section
variable {W : World} {g : Nat} {a b c d : Value}
theorem cellS79_0 (h : W.heap[g]? = some (.cells #[a, b, c, d] 79 (0, 0))) : W.cell? ⟨g, 0, none⟩ = some a := (blk_cell h 0).trans rfl
theorem cellS79_1 (h : W.heap[g]? = some (.cells #[a, b, c, d] 79 (0, 0))) : W.cell? ⟨g, 1, none⟩ = some b := (blk_cell h 1).trans rfl
theorem cellS79_2 (h : W.heap[g]? = some (.cells #[a, b, c, d] 79 (0, 0))) : W.cell? ⟨g, 2, none⟩ = some c := (blk_cell h 2).trans rfl
theorem cellS79_3 (h : W.heap[g]? = some (.cells #[a, b, c, d] 79 (0, 0))) : W.cell? ⟨g, 3, none⟩ = some d := (blk_cell h 3).trans rfl
end
theorem reduce_any (a0 : Int) (A1 : Option Addr) (c1 : Nat) (l1 : List (List Int)) (a2 : Int) (r0 : Int) (r1 : List (List Int)) (r2 : List Int) (r3 : Int) (w : World) (hr : Kd.C (Kd.slice 22 (Kd.int .u64)) w A1 l1.length l1) (hc : l1.length ≤ c1) (h : matrix_reduce.f a0 l1 a2 = some (r0, r1, r2, r3)) :
    Calls Try.prog 51 #[.int .u64 a0, .slice A1 l1.length c1, .int .i64 a2] w fun e w' => ∃ (g : Nat) (v pv : Value), e = .returned (.pointer (some ⟨g, 0, none⟩)) ∧ r0 = a0 ∧ WInv w' w.heap.size g a0 v r1 pv r2 r3 ∧ Below w.heap.size w w' := by
  unfold matrix_reduce.f at h
  split at h
  · rename_i hg
    simp only [Bool.and_eq_true, decide_eq_true_eq, Bool.or_eq_true] at hg
    obtain ⟨⟨⟨hg1, hg2⟩, hg3⟩, hg4⟩ := hg
    obtain ⟨n, rfl⟩ : ∃ n : Nat, a2 = (n : Int) := ⟨a2.toNat, by omega⟩
    simp only [Option.some.injEq, Prod.mk.injEq, Int.toNat_natCast] at h
    obtain ⟨rfl, rfl, rfl, rfl⟩ := h
    refine (reduce_walk a0 A1 c1 l1 n w hr hc hg1 (by omega) (hg3.elim (fun h => .inl (List.isEmpty_iff.1 h)) (fun h => .inr (by omega)))).mono ?_
    rintro e w' ⟨g, v, pv, rfl, h1, h2⟩
    exact ⟨g, v, pv, rfl, rfl, h1, h2⟩
  · cases h
theorem matrix_reduce.calls (a0 : Int) (A1 : Option Addr) (c1 : Nat) (l1 : List (List Int)) (a2 : Int) (r0 : Int) (r1 : List (List Int)) (r2 : List Int) (r3 : Int) (w W : World) (hb : Below w.heap.size w W) (hr : Kd.C (Kd.slice 22 (Kd.int .u64)) w A1 l1.length l1) (hc : l1.length ≤ c1) (h : matrix_reduce.f a0 l1 a2 = some (r0, r1, r2, r3)) :
    Calls Try.prog 51 #[.int .u64 a0, .slice A1 l1.length c1, .int .i64 a2] W fun e w' => ∃ g : Nat, e = .returned (.pointer (some ⟨g, 0, none⟩)) ∧ IsS79 w w' g r0 r1 r2 r3 ∧ Below w.heap.size w w' ∧ Below W.heap.size W w' := by
  refine (reduce_any a0 A1 c1 l1 a2 r0 r1 r2 r3 W (Kd.C_below hr hb) hc h).mono ?_
  rintro e w' ⟨g, v, pv, rfl, rfl, h1, h2⟩
  obtain ⟨Av, cv, rfl⟩ := Kd.S_slice h1.hs
  obtain ⟨Ap, cp, rfl⟩ := Kd.R_slice h1.hp
  exact ⟨g, rfl, ⟨Av, cv, Ap, cp, h1.hg, Nat.le_trans hb.size h1.hb, (Kd.S_reads' h1.hs).2.1, (Kd.R_reads' h1.hp).2.1⟩, below_step hb h2, h2⟩
/-- What reduce comes to, without the prime. -/
def red3.f (a0 : Int) (l1 : List (List Int)) (a2 : Int) : Option (List (List Int) × List Int × Int) := (matrix_reduce.f a0 l1 a2).map (·.2)
theorem red3.calls (a0 : Int) (A1 : Option Addr) (c1 : Nat) (l1 : List (List Int)) (a2 : Int) (r1 : List (List Int)) (r2 : List Int) (r3 : Int) (w : World) (hr : Kd.C (Kd.slice 22 (Kd.int .u64)) w A1 l1.length l1) (hc : l1.length ≤ c1) (h : red3.f a0 l1 a2 = some (r1, r2, r3)) :
    Calls Try.prog 51 #[.int .u64 a0, .slice A1 l1.length c1, .int .i64 a2] w fun e w' => ∃ (g : Nat) (v0 v1 : Value), e = .returned (.pointer (some ⟨g, 0, none⟩)) ∧ w'.heap[g]? = some (.cells #[.int .u64 a0, v0, v1, .int .u64 r3] 79 (0, 0)) ∧ w.heap.size ≤ g ∧ Kd.S (Kd.slice 22 (Kd.int .u64)) 32 w' w.heap.size (fun _ => True) v0 r1 ∧ Kd.R (Kd.int .i64) 3 w' w.heap.size (fun _ => True) v1 r2 ∧ Below w.heap.size w w' := by
  unfold red3.f at h
  obtain ⟨⟨r0, r⟩, h1, rfl⟩ := Option.map_eq_some_iff.1 h
  refine (reduce_any a0 A1 c1 l1 a2 r0 r1 r2 r3 w hr hc h1).mono ?_
  rintro e w' ⟨g, v, pv, rfl, rfl, h1, h2⟩
  exact ⟨g, v, pv, rfl, h1.hg, h1.hb, h1.hs, h1.hp, h2⟩
theorem own_ne_far {α : Type} {d : Kd α} {e g go n c base : Nat} {ok : Nat → Prop} {W : World} {xs : List α} {cs : Array Value} {t : Nat} (h : d.R e W base ok (.slice (some ⟨go, 0, none⟩) n c) xs) (hb : W.heap[g]? = some (.cells cs t (0, 0))) (ht : e ≠ t) : some g ≠ some go := by
  have := Kd.R_ne h hb ht
  simpa [Value.ownBlock] using this
end Go.Proofs.Ytkjknpibcbpdfaa
