/- The law MatrixProduct: for every input the call returns true and leaves its argument as it was. -/
import Derived.Test.YtkjknpibcbpdfaaOpen6P
import Derived.Test.YtkjknpibcbpdfaaLaw6P
namespace Go.Proofs.Ytkjknpibcbpdfaa.matrixProduct
open Go.ChangeShapes Go.WideShapes Go.ChangeAt Go.RowKit
set_option linter.unusedVariables false
theorem own : ownKnob Try.prog.godebug = none := by kernel_rfl
theorem laidOut : laidOutB Try.prog = true := by kernel_rfl
set_option maxRecDepth 100000 in
theorem lifted (os : Os) (started : os.Started) (H : Type) (enc : TypeId × Value → H) :
    ReturnsInHanded {} Try.checked os 5 .any (Rows.matrixProductSpec.pre6 enc Try.prog Try.f5 Rows.matrixProductRow.domain false) (Rows.matrixProductSpec.post enc Try.prog Try.f5 false true false false) := by
  refine returnsInHanded_of_change_sized (C := Try.checked) own started (by kernel_rfl) Try.func5
    (ChangeSpec.witness6 (enc := enc) (C := Try.checked) false ⟨#[], #[.agg #[.int .u64 0, .slice none 0 0, .slice none 0 0, .slice none 0 0]], []⟩ 8 (by kernel_rfl) (by kernel_rfl) (by kernel_rfl) (by kernel_rfl)) ?_
  intro W base args ds gs before hval0 hW hcnd hsz0 _
  have hval : ∀ (j : Nat) t v, Try.f5.params[j]? = some t → args[j]? = some v → Value.okWide Try.prog W .any base t v := hval0
  have hW' := hW
  obtain ⟨p, q, hA0, hV, rfl, hfz, hnd⟩ := hW
  have hA : DataW.TrodAll enc Try.prog W 0 (fun _ => true) true Try.f5.params.toList args.toList ds p := hA0
  rw [Try.params5] at hA hval
  obtain ⟨v0, d0, rfl, rfl, h0⟩ := trodAll_one hA
  obtain ⟨rfl, rfl⟩ := trodVars_none hV
  have h0' := h0
  have lt0 : ∀ x ∈ p, x.block < W.heap.size := by obtain ⟨m, hm⟩ := h0'; exact DataW.trod_lt m _ _ _ hm
  obtain ⟨a0, A1, c1, l1, A2, c2, l2, A3, c3, l3, rfl, b0, b1, b2, b3⟩ := open_operands (hval 0 39 v0 rfl rfl) h0
  clear hA0 hval0 hsz0
  simp only [List.append_nil] at hW'
  obtain ⟨k, hk⟩ := pure_product a0 l1 l2 l3 b1.2.2 b2.2.2 b3.2.2
  refine (M.privitylaw06_MatrixProduct.calls k a0 A1 c1 l1 A2 c2 l2 A3 c3 l3 true W b1.1 b1.2.1 b2.1 b2.2.1 b3.1 b3.2.1 hk).mono fun e W' ⟨he, bel⟩ => ?_
  subst he
  exact ⟨_, rfl, _, _, _, [], _, [], hW', trodAll_mk1 (shut_bool Try.underlying4 _), trodAll_mk1 (Below.trod laidOut (by kernel_rfl) (of_decide_eq_true (by kernel_rfl)) h0' bel lt0), rfl, bel.frame _, fun h => by cases h⟩
theorem over : Rows.matrixProductRow.holds Try.pinned (OpenSpec.ofChange Rows.matrixProductSpec) :=
  OpenClaim.holds_of_wide 5 Try.f5 rfl rfl rfl rfl rfl rfl rfl ⟨rfl, rfl, rfl, rfl, rfl⟩ rfl rfl rfl rfl rfl (by kernel_rfl) Try.func5 (by kernel_rfl)
    (of_decide_eq_true (by kernel_rfl)) (by unfold Func.isWrapper; first | (rw [if_pos (by decide +kernel)]; kernel_rfl) | (rw [if_neg (by decide +kernel)]; exact ⟨rfl, rfl⟩))
    (fun os started H enc _ => lifted os started H enc)
theorem proved : Rows.MatrixProductSaid := over
#print axioms proved
end Go.Proofs.Ytkjknpibcbpdfaa.matrixProduct
namespace Go.Proofs.Ytkjknpibcbpdfaa
theorem matrixProduct_holds : Rows.MatrixProductSaid := matrixProduct.proved
end Go.Proofs.Ytkjknpibcbpdfaa
