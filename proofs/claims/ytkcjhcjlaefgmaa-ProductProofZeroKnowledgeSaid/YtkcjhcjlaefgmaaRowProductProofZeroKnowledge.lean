/- The law ProductProofZeroKnowledge: for every input the call returns true and leaves its argument as it was. -/
import Derived.Test.YtkcjhcjlaefgmaaOpenC21
import Derived.Test.YtkcjhcjlaefgmaaL21Z
import Derived.Test.YtkcjhcjlaefgmaaQ5C
namespace Go.Proofs.Ytkcjhcjlaefgmaa.productProofZeroKnowledge
open Go.ChangeShapes Go.WideShapes Go.ChangeAt Go.RowKit
set_option linter.unusedVariables false
theorem own : ownKnob Try.prog.godebug = none := by kernel_rfl
theorem laidOut : laidOutB Try.prog = true := by kernel_rfl
set_option maxRecDepth 100000 in
theorem lifted (os : Os) (started : os.Started) (H : Type) (enc : TypeId × Value → H) :
    ReturnsInHanded {} Try.checked os 4 .any (Rows.productProofZeroKnowledgeSpec.pre6 enc Try.prog Try.f4 Rows.productProofZeroKnowledgeRow.domain false) (Rows.productProofZeroKnowledgeSpec.post enc Try.prog Try.f4 false true false false) := by
  refine returnsInHanded_of_change_sized (C := Try.checked) own started (by kernel_rfl) Try.func4
    (ChangeSpec.witness6 (enc := enc) (C := Try.checked) false ⟨#[], #[.agg #[.int .u64 0, .int .i64 0, .slice none 0 0, .slice none 0 0, .slice none 0 0, .slice none 0 0, .int .u64 0, .int .u64 0]], []⟩ 8 (by kernel_rfl) (by kernel_rfl) (by kernel_rfl) (by kernel_rfl)) ?_
  intro W base args ds gs before hval0 hW hcnd hsz0 _
  have hval : ∀ (j : Nat) t v, Try.f4.params[j]? = some t → args[j]? = some v → Value.okWide Try.prog W .any base t v := hval0
  have hW' := hW
  obtain ⟨p, q, hA0, hV, rfl, hfz, hnd⟩ := hW
  have hA : DataW.TrodAll enc Try.prog W 0 (fun _ => true) true Try.f4.params.toList args.toList ds p := hA0
  rw [Try.params4] at hA hval
  obtain ⟨v0, d0, rfl, rfl, h0⟩ := trodAll_one hA
  obtain ⟨rfl, rfl⟩ := trodVars_none hV
  have h0' := h0
  have lt0 : ∀ x ∈ p, x.block < W.heap.size := by obtain ⟨m, hm⟩ := h0'; exact DataW.trod_lt m _ _ _ hm
  obtain ⟨a0, a1, A2, c2, l2, A3, c3, l3, A4, c4, l4, A5, c5, l5, a6, a7, rfl, b0, b2, b3, b4, b5, b6, b7⟩ := L21.open_change (hval 0 34 v0 rfl rfl) h0
  have n2 := fun x hx => (b2.2.2 x hx).1
  have n3 := fun x hx => (b3.2.2 x hx).1
  have n4 := fun x hx => (b4.2.2 x hx).1
  have n5 := fun x hx => (b5.2.2 x hx).1
  clear hA0 hval0 hsz0
  simp only [List.append_nil] at hW'
  obtain ⟨k, hk⟩ := L21.pure_zk a0 a1 l2 l3 l4 l5 a6 a7 n2 n3 n4 n5 b6.1 b7.1
  refine (Q.privitylaw21_ProductProofZeroKnowledge.calls k a0 a1 A2 c2 l2 A3 c3 l3 A4 c4 l4 A5 c5 l5 a6 a7 true W b2.1 b2.2.1 b3.1 b3.2.1 b4.1 b4.2.1 b5.1 b5.2.1 hk).mono fun e W' ⟨he, bel⟩ => ?_
  subst he
  exact ⟨_, rfl, _, _, _, [], _, [], hW', trodAll_mk1 (shut_bool Try.underlying4 _), trodAll_mk1 (Below.trod laidOut (by kernel_rfl) (of_decide_eq_true (by kernel_rfl)) h0' bel lt0), rfl, bel.frame _, fun h => by cases h⟩
theorem over : Rows.productProofZeroKnowledgeRow.holds Try.pinned (OpenSpec.ofChange Rows.productProofZeroKnowledgeSpec) :=
  OpenClaim.holds_of_wide 4 Try.f4 rfl rfl rfl rfl rfl rfl rfl ⟨rfl, rfl, rfl, rfl, rfl⟩ rfl rfl rfl rfl rfl (by kernel_rfl) Try.func4 (by kernel_rfl)
    (of_decide_eq_true (by kernel_rfl)) (by unfold Func.isWrapper; first | (rw [if_pos (by decide +kernel)]; kernel_rfl) | (rw [if_neg (by decide +kernel)]; exact ⟨rfl, rfl⟩))
    (fun os started H enc _ => lifted os started H enc)
theorem proved : Rows.ProductProofZeroKnowledgeSaid := over
#print axioms proved
end Go.Proofs.Ytkcjhcjlaefgmaa.productProofZeroKnowledge
namespace Go.Proofs.Ytkcjhcjlaefgmaa
theorem productProofZeroKnowledge_holds : Rows.ProductProofZeroKnowledgeSaid := productProofZeroKnowledge.proved
end Go.Proofs.Ytkcjhcjlaefgmaa
