/- The arguments of the laws 21, structs of rows and numbers, opened to plain numbers and lists. -/
import Derived.Test.YtkcjhcjlaefgmaaM21A
import Derived.Test.YtkcjhcjlaefgmaaRows
import Derived.WalkKit
import Derived.ProofKit
import Derived.OpenShut
import Derived.Below
import Derived.SizedLaws
import Derived.ChangeSlices
namespace Go.Proofs.Ytkcjhcjlaefgmaa.L21
open Go.ChangeShapes Go.WideShapes Go.ChangeAt Go.RowKit Go.Proofs.YtkcjhcjlaefgmaaW.PrintWords
set_option linter.unusedVariables false
set_option linter.unusedSimpArgs false
section
variable {H : Type} {enc : TypeId × Value → H} {P : Program} {w : World} {base : Nat} {spare : Nat → Bool} {held : Bool}
/-- One field of a struct whose fields are one cell each, out of the struct's reading. -/
theorem field_at {t : TypeId} {fs : Array Field} {fuel : Nat} {cs : List Value} {x : DataW H × List MemPlace} (hs : P.underlying t = some (.struct fs)) (h : DataW.trod enc P w base spare held fuel t cs = some x)
    (i : Nat) (f : Field) (v : Value) (hf : fs[i]? = some f) (ho : f.offset = i) (hc : P.cellsOf f.type = 1) (hv : (cs.drop i).take 1 = [v]) : ∃ n y, DataW.trod enc P w base spare held n f.type [v] = some y := by
  obtain ⟨xs, n, _, _, _, hl, hg⟩ := DataW.trod_struct hs h
  have hi : i < xs.length := by rw [hl]; exact (Array.getElem?_eq_some_iff.1 hf).1
  have := hg i f hf
  rw [ho, hc, hv, List.getElem?_eq_getElem hi] at this
  exact ⟨n, _, this⟩
/-- A number's cell. -/
theorem num_at {t : TypeId} {n : Nat} {v : Value} {y : DataW H × List MemPlace} (ht : P.underlying t = some (.int .u64)) (h : DataW.trod enc P w base spare held n t [v] = some y) : ∃ a : Int, v = .int .u64 a ∧ 0 ≤ a ∧ a ≤ 18446744073709551615 := by
  obtain ⟨a, e, -, hw⟩ := DataW.trod_int ht h
  exact ⟨a, by simpa using e, bounds_u64 hw⟩
/-- An int's cell. -/
theorem int_at {t : TypeId} {n : Nat} {v : Value} {y : DataW H × List MemPlace} (ht : P.underlying t = some (.int .i64)) (h : DataW.trod enc P w base spare held n t [v] = some y) : ∃ a : Int, v = .int .i64 a := by
  obtain ⟨a, e, -, hw⟩ := DataW.trod_int ht h
  exact ⟨a, by simpa using e⟩
/-- A field of a struct, however many cells it has. -/
theorem part_at {t : TypeId} {fs : Array Field} {fuel : Nat} {cs : List Value} {x : DataW H × List MemPlace} (hs : P.underlying t = some (.struct fs)) (h : DataW.trod enc P w base spare held fuel t cs = some x)
    (i : Nat) (f : Field) (hf : fs[i]? = some f) : ∃ n y, DataW.trod enc P w base spare held n f.type ((cs.drop f.offset).take (P.cellsOf f.type)) = some y := by
  obtain ⟨xs, n, _, _, _, hl, hg⟩ := DataW.trod_struct hs h
  have hi : i < xs.length := by rw [hl]; exact (Array.getElem?_eq_some_iff.1 hf).1
  have := hg i f hf
  rw [List.getElem?_eq_getElem hi] at this
  exact ⟨n, _, this⟩
/-- A row's cell. -/
theorem row_at {t e : TypeId} {n : Nat} {v : Value} {y : DataW H × List MemPlace} (ht : P.underlying t = some (.slice e)) (he : P.underlying e = some (.int .u64)) (hc : P.cellsOf e = 1) (h : DataW.trod enc P w base (fun _ => true) held n t [v] = some y) : ∃ (A : Option Addr) (c : Nat) (l : List Int), v = .slice A l.length c ∧ Kd.C (Kd.int .u64) w A l.length l ∧ l.length ≤ c ∧ ∀ x ∈ l, 0 ≤ x ∧ x ≤ 18446744073709551615 := by
  have key : ∃ A len cap zs, v = .slice A len cap ∧ ((A = none ∧ len = 0 ∧ cap = 0 ∧ zs = ([] : List Int)) ∨ ∃ x, A = some x ∧ len ≤ cap ∧ cap ≤ maxLen ∧ zs.length = cap ∧ (∀ i, i < zs.length → w.cell? (x.add i) = some (.int .u64 (zs.getD i 0))) ∧ ∀ n ∈ zs, (Lit.int .u64 n).wf = true) := by
    rcases open_ints ht he hc h with ⟨hcs, _⟩ | ⟨x, l, c, zs, hcs, _, hl, hm, hz, _, hcell, hwz⟩
    · exact ⟨none, 0, 0, [], by simpa using hcs, .inl ⟨rfl, rfl, rfl, rfl⟩⟩
    · exact ⟨some x, l, c, zs, by simpa using hcs, .inr ⟨x, rfl, hl, hm, by simpa using hz, hcell, hwz⟩⟩
  obtain ⟨A, len, cap, zs, rfl, hk⟩ := key
  obtain ⟨l, rfl, hr, _, hw, hc⟩ := ReadsInt.ofRowC hk
  refine ⟨A, cap, l, rfl, Kd.C_of_reads hr, hc, fun x hx => ?_⟩
  exact bounds_u64 (hw x hx)
end
/-- A ProofCase's cells. -/
theorem case_at {H : Type} {enc : TypeId × Value → H} {w : World} {base : Nat} {held : Bool} {n : Nat} {v0 v1 v2 v3 v4 : Value} {y : DataW H × List MemPlace} (hf : DataW.trod enc Try.prog w base (fun _ => true) held n 25 [v0, v1, v2, v3, v4] = some y) :
    ∃ (a0 a1 : Int) (A2 : Option Addr) (c2 : Nat) (l2 : List Int) (A3 : Option Addr) (c3 : Nat) (l3 : List Int) (A4 : Option Addr) (c4 : Nat) (l4 : List Int),
      v0 = .int .u64 a0 ∧ v1 = .int .i64 a1 ∧ v2 = .slice A2 l2.length c2 ∧ v3 = .slice A3 l3.length c3 ∧ v4 = .slice A4 l4.length c4 ∧ (0 ≤ a0 ∧ a0 ≤ 18446744073709551615) ∧
      (Kd.C (Kd.int .u64) w A2 l2.length l2 ∧ l2.length ≤ c2 ∧ ∀ x ∈ l2, 0 ≤ x ∧ x ≤ 18446744073709551615) ∧ (Kd.C (Kd.int .u64) w A3 l3.length l3 ∧ l3.length ≤ c3 ∧ ∀ x ∈ l3, 0 ≤ x ∧ x ≤ 18446744073709551615) ∧ (Kd.C (Kd.int .u64) w A4 l4.length l4 ∧ l4.length ≤ c4 ∧ ∀ x ∈ l4, 0 ≤ x ∧ x ≤ 18446744073709551615) := by
  have hs := Try.underlying25
  have cU : Try.prog.cellsOf 22 = 1 := by kernel_rfl
  have cI : Try.prog.cellsOf 3 = 1 := by kernel_rfl
  have cS : Try.prog.cellsOf 23 = 1 := by kernel_rfl
  obtain ⟨_, _, f0⟩ := field_at hs hf 0 _ v0 rfl rfl cU rfl
  obtain ⟨_, _, f1⟩ := field_at hs hf 1 _ v1 rfl rfl cI rfl
  obtain ⟨_, _, f2⟩ := field_at hs hf 2 _ v2 rfl rfl cS rfl
  obtain ⟨_, _, f3⟩ := field_at hs hf 3 _ v3 rfl rfl cS rfl
  obtain ⟨_, _, f4⟩ := field_at hs hf 4 _ v4 rfl rfl cS rfl
  obtain ⟨a0, rfl, b0⟩ := num_at Try.underlying22 f0
  obtain ⟨a1, rfl⟩ := int_at Try.underlying3 f1
  obtain ⟨A2, c2, l2, rfl, b2⟩ := row_at Try.underlying23 Try.underlying22 cU f2
  obtain ⟨A3, c3, l3, rfl, b3⟩ := row_at Try.underlying23 Try.underlying22 cU f3
  obtain ⟨A4, c4, l4, rfl, b4⟩ := row_at Try.underlying23 Try.underlying22 cU f4
  exact ⟨a0, a1, A2, c2, l2, A3, c3, l3, A4, c4, l4, rfl, rfl, rfl, rfl, rfl, b0, b2, b3, b4⟩
/-- A whole ProofCase. -/
theorem open_case {H : Type} {enc : TypeId × Value → H} {w : World} {base b0 : Nat} {held : Bool} {r : Reach} {v : Value} {d : DataW H} {p : List MemPlace} (hv : Value.okWide Try.prog w r b0 25 v) (h : DataW.Trod enc Try.prog w base (fun _ => true) held 25 v d p) :
    ∃ (a0 a1 : Int) (A2 : Option Addr) (c2 : Nat) (l2 : List Int) (A3 : Option Addr) (c3 : Nat) (l3 : List Int) (A4 : Option Addr) (c4 : Nat) (l4 : List Int),
      v = .agg #[.int .u64 a0, .int .i64 a1, .slice A2 l2.length c2, .slice A3 l3.length c3, .slice A4 l4.length c4] ∧ (0 ≤ a0 ∧ a0 ≤ 18446744073709551615) ∧
      (Kd.C (Kd.int .u64) w A2 l2.length l2 ∧ l2.length ≤ c2 ∧ ∀ x ∈ l2, 0 ≤ x ∧ x ≤ 18446744073709551615) ∧ (Kd.C (Kd.int .u64) w A3 l3.length l3 ∧ l3.length ≤ c3 ∧ ∀ x ∈ l3, 0 ≤ x ∧ x ≤ 18446744073709551615) ∧ (Kd.C (Kd.int .u64) w A4 l4.length l4 ∧ l4.length ≤ c4 ∧ ∀ x ∈ l4, 0 ≤ x ∧ x ≤ 18446744073709551615) := by
  have hs := Try.underlying25
  obtain ⟨cs, rfl, hsz⟩ := okWide_struct hs hv
  obtain ⟨l⟩ := cs
  have hC : Try.prog.cellsOf 25 = 5 := by kernel_rfl
  match l, hsz.trans hC with
  | [v0, v1, v2, v3, v4], _ =>
    obtain ⟨fuel, hf⟩ := h
    obtain ⟨a0, a1, A2, c2, l2, A3, c3, l3, A4, c4, l4, rfl, rfl, rfl, rfl, rfl, b⟩ := case_at hf
    exact ⟨a0, a1, A2, c2, l2, A3, c3, l3, A4, c4, l4, rfl, b⟩
end Go.Proofs.Ytkcjhcjlaefgmaa.L21
