/- The argument of the laws ProductProofChange and ProductProofZeroKnowledge, a struct with a struct in it, opened to plain numbers and lists. -/
import Derived.Test.YtkcjhcjlaefgmaaOpen21
namespace Go.Proofs.Ytkcjhcjlaefgmaa.L21
open Go.ChangeShapes Go.WideShapes Go.ChangeAt Go.RowKit Go.Proofs.YtkcjhcjlaefgmaaW.PrintWords
set_option linter.unusedVariables false
set_option linter.unusedSimpArgs false
section
variable {H : Type} {enc : TypeId × Value → H} {P : Program} {w : World} {base : Nat} {spare : Nat → Bool} {held : Bool}
theorem cells_at {t : TypeId} {fs : Array Field} {fuel : Nat} {cs : List Value} {x : DataW H × List MemPlace} (hs : P.underlying t = some (.struct fs)) (h : DataW.trod enc P w base spare held fuel t cs = some x)
    (i o m : Nat) (f : Field) (vs : List Value) (hf : fs[i]? = some f) (ho : f.offset = o) (hc : P.cellsOf f.type = m) (hv : (cs.drop o).take m = vs) : ∃ n y, DataW.trod enc P w base spare held n f.type vs = some y := by
  obtain ⟨n, y, g⟩ := part_at hs h i f hf
  rw [ho, hc, hv] at g
  exact ⟨n, y, g⟩
end
theorem open_change {H : Type} {enc : TypeId × Value → H} {w : World} {base b0 : Nat} {held : Bool} {r : Reach} {v : Value} {d : DataW H} {p : List MemPlace} (hv : Value.okWide Try.prog w r b0 34 v) (h : DataW.Trod enc Try.prog w base (fun _ => true) held 34 v d p) :
    ∃ (a0 a1 : Int) (A2 : Option Addr) (c2 : Nat) (l2 : List Int) (A3 : Option Addr) (c3 : Nat) (l3 : List Int) (A4 : Option Addr) (c4 : Nat) (l4 : List Int) (A5 : Option Addr) (c5 : Nat) (l5 : List Int) (a6 a7 : Int),
      v = .agg #[.int .u64 a0, .int .i64 a1, .slice A2 l2.length c2, .slice A3 l3.length c3, .slice A4 l4.length c4, .slice A5 l5.length c5, .int .u64 a6, .int .u64 a7] ∧ (0 ≤ a0 ∧ a0 ≤ 18446744073709551615) ∧
      (Kd.C (Kd.int .u64) w A2 l2.length l2 ∧ l2.length ≤ c2 ∧ ∀ x ∈ l2, 0 ≤ x ∧ x ≤ 18446744073709551615) ∧ (Kd.C (Kd.int .u64) w A3 l3.length l3 ∧ l3.length ≤ c3 ∧ ∀ x ∈ l3, 0 ≤ x ∧ x ≤ 18446744073709551615) ∧ (Kd.C (Kd.int .u64) w A4 l4.length l4 ∧ l4.length ≤ c4 ∧ ∀ x ∈ l4, 0 ≤ x ∧ x ≤ 18446744073709551615) ∧
      (Kd.C (Kd.int .u64) w A5 l5.length l5 ∧ l5.length ≤ c5 ∧ ∀ x ∈ l5, 0 ≤ x ∧ x ≤ 18446744073709551615) ∧ (0 ≤ a6 ∧ a6 ≤ 18446744073709551615) ∧ (0 ≤ a7 ∧ a7 ≤ 18446744073709551615) := by
  have hs := Try.underlying34
  obtain ⟨cs, rfl, hsz⟩ := okWide_struct hs hv
  obtain ⟨l⟩ := cs
  have hC : Try.prog.cellsOf 34 = 8 := by kernel_rfl
  have cC : Try.prog.cellsOf 25 = 5 := by kernel_rfl
  have cU : Try.prog.cellsOf 22 = 1 := by kernel_rfl
  have cS : Try.prog.cellsOf 23 = 1 := by kernel_rfl
  match l, hsz.trans hC with
  | [v0, v1, v2, v3, v4, v5, v6, v7], _ =>
    obtain ⟨fuel, hf⟩ := h
    obtain ⟨_, _, f0⟩ := cells_at hs hf 0 0 5 _ [v0, v1, v2, v3, v4] rfl rfl cC rfl
    obtain ⟨_, _, f5⟩ := cells_at hs hf 1 5 1 _ [v5] rfl rfl cS rfl
    obtain ⟨_, _, f6⟩ := cells_at hs hf 2 6 1 _ [v6] rfl rfl cU rfl
    obtain ⟨_, _, f7⟩ := cells_at hs hf 3 7 1 _ [v7] rfl rfl cU rfl
    obtain ⟨a0, a1, A2, c2, l2, A3, c3, l3, A4, c4, l4, rfl, rfl, rfl, rfl, rfl, b0, b2, b3, b4⟩ := case_at f0
    obtain ⟨A5, c5, l5, rfl, b5⟩ := row_at Try.underlying23 Try.underlying22 cU f5
    obtain ⟨a6, rfl, b6⟩ := num_at Try.underlying22 f6
    obtain ⟨a7, rfl, b7⟩ := num_at Try.underlying22 f7
    exact ⟨a0, a1, A2, c2, l2, A3, c3, l3, A4, c4, l4, A5, c5, l5, a6, a7, rfl, b0, b2, b3, b4, b5, b6, b7⟩
end Go.Proofs.Ytkcjhcjlaefgmaa.L21
