/- The struct Operands of the law MatrixProduct, opened. -/
import Derived.Test.YtkjknpibcbpdfaaOpen6
namespace Go.Proofs.Ytkjknpibcbpdfaa
open Go.ChangeShapes Go.WideShapes Go.ChangeAt Go.RowKit Go.Deep Go.Proofs.YtkjknpibcbpdfaaW.PrintWords
set_option linter.unusedVariables false
set_option linter.unusedSimpArgs false
section
variable {H : Type} {enc : TypeId × Value → H} {P : Program} {w : World} {base : Nat} {spare : Nat → Bool} {held : Bool}
/-- One field of a struct whose fields are one cell each, out of the struct's reading. -/
theorem field_at {t : TypeId} {fs : Array Field} {fuel : Nat} {cs : List Value} {x : DataW H × List MemPlace} (hs : P.underlying t = some (.struct fs)) (h : DataW.trod enc P w base spare held fuel t cs = some x)
    (i : Nat) (f : Field) (v : Value) (hf : fs[i]? = some f) (ho : f.offset = i) (hc : P.cellsOf f.type = 1) (hv : (cs.drop i).take 1 = [v]) : ∃ n y, DataW.trod enc P w base spare held n f.type [v] = some y := by
  obtain ⟨xs, n, _, _, _, hl, hg⟩ := DataW.trod_struct hs h
  have hi : i < xs.length := by rw [hl]; exact (Array.getElem?_eq_some_iff.1 hf).1
  have := hg i f hf
  rw [ho, hc, hv, List.getElem?_eq_getElem hi] at this
  exact ⟨n, _, this⟩
/-- A number's cell. -/
theorem num_at {t : TypeId} {n : Nat} {v : Value} {y : DataW H × List MemPlace} (ht : P.underlying t = some (.int .u64)) (h : DataW.trod enc P w base spare held n t [v] = some y) : ∃ a : Int, v = .int .u64 a ∧ 0 ≤ a := by
  obtain ⟨a, e, -, hw⟩ := DataW.trod_int ht h
  exact ⟨a, by simpa using e, (bounds_u64 hw).1⟩
end
set_option maxRecDepth 100000 in
theorem open_operands {H : Type} {enc : TypeId × Value → H} {w : World} {base b0 : Nat} {held : Bool} {r : Reach} {v : Value} {d : DataW H} {p : List MemPlace} (hv : Value.okWide Try.prog w r b0 39 v) (h : DataW.Trod enc Try.prog w base (fun _ => true) held 39 v d p) :
    ∃ (a0 : Int) (A1 : Option Addr) (c1 : Nat) (l1 : List (List Int)) (A2 : Option Addr) (c2 : Nat) (l2 : List (List Int)) (A3 : Option Addr) (c3 : Nat) (l3 : List Int),
      v = .agg #[.int .u64 a0, .slice A1 l1.length c1, .slice A2 l2.length c2, .slice A3 l3.length c3] ∧ 0 ≤ a0 ∧
      (Kd.C (Kd.slice 22 (Kd.int .u64)) w A1 l1.length l1 ∧ l1.length ≤ c1 ∧ ∀ r ∈ l1, ∀ x ∈ r, 0 ≤ x) ∧ (Kd.C (Kd.slice 22 (Kd.int .u64)) w A2 l2.length l2 ∧ l2.length ≤ c2 ∧ ∀ r ∈ l2, ∀ x ∈ r, 0 ≤ x) ∧ (Kd.C (Kd.int .u64) w A3 l3.length l3 ∧ l3.length ≤ c3 ∧ ∀ x ∈ l3, 0 ≤ x) := by
  have hs := Try.underlying39
  obtain ⟨cs, rfl, hsz⟩ := okWide_struct hs hv
  obtain ⟨l⟩ := cs
  have hC : Try.prog.cellsOf 39 = 4 := by kernel_rfl
  have cU : Try.prog.cellsOf 22 = 1 := by kernel_rfl
  have cS : Try.prog.cellsOf 32 = 1 := by kernel_rfl
  have cT : Try.prog.cellsOf 23 = 1 := by kernel_rfl
  match l, hsz.trans hC with
  | [v0, v1, v2, v3], _ =>
    obtain ⟨fuel, hf⟩ := h
    obtain ⟨_, _, f0⟩ := field_at hs hf 0 _ v0 rfl rfl cU rfl
    obtain ⟨_, _, f1⟩ := field_at hs hf 1 _ v1 rfl rfl cT rfl
    obtain ⟨_, _, f2⟩ := field_at hs hf 2 _ v2 rfl rfl cT rfl
    obtain ⟨_, _, f3⟩ := field_at hs hf 3 _ v3 rfl rfl cS rfl
    obtain ⟨a0, rfl, b0⟩ := num_at Try.underlying22 f0
    obtain ⟨A1, c1, l1, rfl, b1⟩ := table_at 22 Try.underlying23 Try.underlying32 Try.underlying22 cS cU f1
    obtain ⟨A2, c2, l2, rfl, b2⟩ := table_at 22 Try.underlying23 Try.underlying32 Try.underlying22 cS cU f2
    obtain ⟨A3, c3, l3, rfl, b3⟩ := row_at Try.underlying32 Try.underlying22 cU f3
    exact ⟨a0, A1, c1, l1, A2, c2, l2, A3, c3, l3, rfl, b0, b1, b2, b3⟩
end Go.Proofs.Ytkjknpibcbpdfaa
