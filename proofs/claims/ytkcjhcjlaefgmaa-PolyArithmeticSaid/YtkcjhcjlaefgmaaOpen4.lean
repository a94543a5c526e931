/- The argument of the laws 04, a struct of three rows and three numbers, opened to plain numbers and lists. -/
import Derived.Test.YtkcjhcjlaefgmaaLaw4P
import Derived.Test.YtkcjhcjlaefgmaaRows
import Derived.WalkKit
import Derived.ProofKit
import Derived.OpenShut
import Derived.Below
import Derived.SizedLaws
import Derived.ChangeSlices
namespace Go.Proofs.Ytkcjhcjlaefgmaa
open Go.ChangeShapes Go.WideShapes Go.ChangeAt Go.RowKit Go.Proofs.YtkcjhcjlaefgmaaW.PrintWords
set_option linter.unusedVariables false
set_option linter.unusedSimpArgs false
section
variable {H : Type} {enc : TypeId × Value → H} {P : Program} {w : World} {base : Nat} {spare : Nat → Bool} {held : Bool}
/-- One field of a struct whose fields are one cell each, out of the struct's reading. -/
theorem field_at {t : TypeId} {fs : Array Field} {fuel : Nat} {cs : List Value} {x : DataW H × List MemPlace} (hs : P.underlying t = some (.struct fs)) (h : DataW.trod enc P w base spare held fuel t cs = some x)
    (i : Nat) (f : Field) (v : Value) (hf : fs[i]? = some f) (ho : f.offset = i) (hc : P.cellsOf f.type = 1) (hv : (cs.drop i).take 1 = [v]) : ∃ n y, DataW.trod enc P w base spare held n f.type [v] = some y := by
  obtain ⟨xs, n, _, _, _, hl, hg⟩ := DataW.trod_struct hs h
  have hi : i < xs.length := by rw [hl]; exact (Array.getElem?_eq_some_iff.1 hf).1
  have := hg i f hf
  rw [ho, hc, hv, List.getElem?_eq_getElem hi] at this
  exact ⟨n, _, this⟩
/-- A number's cell. -/
theorem num_at {t : TypeId} {n : Nat} {v : Value} {y : DataW H × List MemPlace} (ht : P.underlying t = some (.int .u64)) (h : DataW.trod enc P w base spare held n t [v] = some y) : ∃ a : Int, v = .int .u64 a ∧ 0 ≤ a ∧ a ≤ 18446744073709551615 := by
  obtain ⟨a, e, -, hw⟩ := DataW.trod_int ht h
  exact ⟨a, by simpa using e, bounds_u64 hw⟩
/-- A row's cell. -/
theorem row_at {t e : TypeId} {n : Nat} {v : Value} {y : DataW H × List MemPlace} (ht : P.underlying t = some (.slice e)) (he : P.underlying e = some (.int .u64)) (hc : P.cellsOf e = 1) (h : DataW.trod enc P w base (fun _ => true) held n t [v] = some y) : ∃ (A : Option Addr) (c : Nat) (l : List Int), v = .slice A l.length c ∧ Kd.C (Kd.int .u64) w A l.length l ∧ l.length ≤ c ∧ ∀ x ∈ l, 0 ≤ x ∧ x ≤ 18446744073709551615 := by
  have key : ∃ A len cap zs, v = .slice A len cap ∧ ((A = none ∧ len = 0 ∧ cap = 0 ∧ zs = ([] : List Int)) ∨ ∃ x, A = some x ∧ len ≤ cap ∧ cap ≤ maxLen ∧ zs.length = cap ∧ (∀ i, i < zs.length → w.cell? (x.add i) = some (.int .u64 (zs.getD i 0))) ∧ ∀ n ∈ zs, (Lit.int .u64 n).wf = true) := by
    rcases open_ints ht he hc h with ⟨hcs, _⟩ | ⟨x, l, c, zs, hcs, _, hl, hm, hz, _, hcell, hwz⟩
    · exact ⟨none, 0, 0, [], by simpa using hcs, .inl ⟨rfl, rfl, rfl, rfl⟩⟩
    · exact ⟨some x, l, c, zs, by simpa using hcs, .inr ⟨x, rfl, hl, hm, by simpa using hz, hcell, hwz⟩⟩
  obtain ⟨A, len, cap, zs, rfl, hk⟩ := key
  obtain ⟨l, rfl, hr, _, hw, hc⟩ := ReadsInt.ofRowC hk
  refine ⟨A, cap, l, rfl, Kd.C_of_reads hr, hc, fun x hx => ?_⟩
  exact bounds_u64 (hw x hx)
end
/-- The whole argument. -/
theorem open_ask {H : Type} {enc : TypeId × Value → H} {w : World} {base b0 : Nat} {held : Bool} {r : Reach} {v : Value} {d : DataW H} {p : List MemPlace} (hv : Value.okWide Try.prog w r b0 46 v) (h : DataW.Trod enc Try.prog w base (fun _ => true) held 46 v d p) :
    ∃ (a0 : Int) (A1 : Option Addr) (c1 : Nat) (l1 : List Int) (A2 : Option Addr) (c2 : Nat) (l2 : List Int) (A3 : Option Addr) (c3 : Nat) (l3 : List Int) (a4 a5 : Int),
      v = .agg #[.int .u64 a0, .slice A1 l1.length c1, .slice A2 l2.length c2, .slice A3 l3.length c3, .int .u64 a4, .int .u64 a5] ∧ (0 ≤ a0 ∧ a0 ≤ 18446744073709551615) ∧
      (Kd.C (Kd.int .u64) w A1 l1.length l1 ∧ l1.length ≤ c1 ∧ ∀ x ∈ l1, 0 ≤ x ∧ x ≤ 18446744073709551615) ∧ (Kd.C (Kd.int .u64) w A2 l2.length l2 ∧ l2.length ≤ c2 ∧ ∀ x ∈ l2, 0 ≤ x ∧ x ≤ 18446744073709551615) ∧ (Kd.C (Kd.int .u64) w A3 l3.length l3 ∧ l3.length ≤ c3 ∧ ∀ x ∈ l3, 0 ≤ x ∧ x ≤ 18446744073709551615) ∧
      (0 ≤ a4 ∧ a4 ≤ 18446744073709551615) ∧ (0 ≤ a5 ∧ a5 ≤ 18446744073709551615) := by
  have hs := Try.underlying46
  obtain ⟨cs, rfl, hsz⟩ := okWide_struct hs hv
  obtain ⟨l⟩ := cs
  have hC : Try.prog.cellsOf 46 = 6 := by kernel_rfl
  have cU : Try.prog.cellsOf 22 = 1 := by kernel_rfl
  have cS : Try.prog.cellsOf 23 = 1 := by kernel_rfl
  match l, hsz.trans hC with
  | [v0, v1, v2, v3, v4, v5], _ =>
    obtain ⟨fuel, hf⟩ := h
    obtain ⟨_, _, f0⟩ := field_at hs hf 0 _ v0 rfl rfl cU rfl
    obtain ⟨_, _, f1⟩ := field_at hs hf 1 _ v1 rfl rfl cS rfl
    obtain ⟨_, _, f2⟩ := field_at hs hf 2 _ v2 rfl rfl cS rfl
    obtain ⟨_, _, f3⟩ := field_at hs hf 3 _ v3 rfl rfl cS rfl
    obtain ⟨_, _, f4⟩ := field_at hs hf 4 _ v4 rfl rfl cU rfl
    obtain ⟨_, _, f5⟩ := field_at hs hf 5 _ v5 rfl rfl cU rfl
    obtain ⟨a0, rfl, b0⟩ := num_at Try.underlying22 f0
    obtain ⟨A1, c1, l1, rfl, b1⟩ := row_at Try.underlying23 Try.underlying22 cU f1
    obtain ⟨A2, c2, l2, rfl, b2⟩ := row_at Try.underlying23 Try.underlying22 cU f2
    obtain ⟨A3, c3, l3, rfl, b3⟩ := row_at Try.underlying23 Try.underlying22 cU f3
    obtain ⟨a4, rfl, b4⟩ := num_at Try.underlying22 f4
    obtain ⟨a5, rfl, b5⟩ := num_at Try.underlying22 f5
    exact ⟨a0, A1, c1, l1, A2, c2, l2, A3, c3, l3, a4, a5, rfl, b0, b1, b2, b3, b4, b5⟩
end Go.Proofs.Ytkcjhcjlaefgmaa
