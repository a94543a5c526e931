/- The law ReedsolomonErrorPositions: for every input the call returns true and leaves its arguments as they were. -/
import Derived.Test.YtkjknpibcbpdfaaOpenE
import Derived.Test.YtkjknpibcbpdfaaEBase
import Derived.Test.YtkjknpibcbpdfaaDE
namespace Go.Proofs.Ytkjknpibcbpdfaa.reedsolomonErrorPositions
open Go.ChangeShapes Go.WideShapes Go.ChangeAt Go.RowKit
set_option linter.unusedVariables false
theorem own : ownKnob Try.prog.godebug = none := by kernel_rfl
theorem laidOut : laidOutB Try.prog = true := by kernel_rfl
set_option maxRecDepth 100000 in
theorem lifted (os : Os) (started : os.Started) (H : Type) (enc : TypeId × Value → H) :
    ReturnsInHanded {} Try.checked os 8 .any (Rows.reedsolomonErrorPositionsSpec.pre6 enc Try.prog Try.f8 Rows.reedsolomonErrorPositionsRow.domain false) (Rows.reedsolomonErrorPositionsSpec.post enc Try.prog Try.f8 false true false false) := by
  refine returnsInHanded_of_change_sized (C := Try.checked) own started (by kernel_rfl) Try.func8
    (ChangeSpec.witness6 (enc := enc) (C := Try.checked) false ⟨#[], #[.agg #[.int .u64 0, .slice none 0 0, .int .i64 0, .int .i64 0], .slice none 0 0], []⟩ 8 (by kernel_rfl) (by kernel_rfl) (by kernel_rfl) (by kernel_rfl)) ?_
  intro W base args ds gs before hval0 hW hcnd hsz0 _
  have hval : ∀ (j : Nat) t v, Try.f8.params[j]? = some t → args[j]? = some v → Value.okWide Try.prog W .any base t v := hval0
  have hW' := hW
  obtain ⟨p, q, hA0, hV, rfl, hfz, hnd⟩ := hW
  have hA : DataW.TrodAll enc Try.prog W 0 (fun _ => true) true Try.f8.params.toList args.toList ds p := hA0
  rw [Try.params8] at hA hval
  obtain ⟨v0, v1, d0, d1, p0, p1, rfl, rfl, rfl, h0, h1⟩ := trodAll_two hA
  obtain ⟨rfl, rfl⟩ := trodVars_none hV
  have h0' := h0
  have lt0 : ∀ x ∈ p0, x.block < W.heap.size := by obtain ⟨m, hm⟩ := h0'; exact DataW.trod_lt m _ _ _ hm
  have h1' := h1
  have lt1 : ∀ x ∈ p1, x.block < W.heap.size := by obtain ⟨m, hm⟩ := h1'; exact DataW.trod_lt m _ _ _ hm
  obtain ⟨a0, A1, c1, l1, a2, a3, rfl, b0, b1, b2, b3, i2, i3⟩ := L8.open_ask (hval 0 48 v0 rfl rfl) h0
  obtain ⟨A4, c4, l4, rfl, b4, b5, b6⟩ := L8.open_list (hval 1 32 v1 rfl rfl) h1
  clear hA0 hval0 hsz0
  simp only [List.append_nil] at hW'
  obtain ⟨k, hk⟩ := D.pure_errs a0 l1 a2 a3 l4 b0.1 (fun q hq => ⟨(b3 q hq).1.1, (b3 q hq).2.1⟩) (fun x hx => (b6 x hx).1)
  refine (D.privitylaw08_ReedsolomonErrorPositions.calls k a0 A1 c1 l1 a2 a3 A4 c4 l4 true W b1 b2 b4 b5 hk).mono fun e W' ⟨he, bel⟩ => ?_
  subst he
  exact ⟨_, rfl, _, _, _, [], _, [], hW', trodAll_mk1 (shut_bool Try.underlying4 _), trodAll_mk2 (Below.trod laidOut (by kernel_rfl) (of_decide_eq_true (by kernel_rfl)) h0' bel lt0) (Below.trod laidOut (by kernel_rfl) (of_decide_eq_true (by kernel_rfl)) h1' bel lt1), rfl, bel.frame _, fun h => by cases h⟩
theorem over : Rows.reedsolomonErrorPositionsRow.holds Try.pinned (OpenSpec.ofChange Rows.reedsolomonErrorPositionsSpec) :=
  OpenClaim.holds_of_wide 8 Try.f8 rfl rfl rfl rfl rfl rfl rfl ⟨rfl, rfl, rfl, rfl, rfl⟩ rfl rfl rfl rfl rfl (by kernel_rfl) Try.func8 (by kernel_rfl)
    (of_decide_eq_true (by kernel_rfl)) (by unfold Func.isWrapper; first | (rw [if_pos (by decide +kernel)]; kernel_rfl) | (rw [if_neg (by decide +kernel)]; exact ⟨rfl, rfl⟩))
    (fun os started H enc _ => lifted os started H enc)
theorem proved : Rows.ReedsolomonErrorPositionsSaid := over
#print axioms proved
end Go.Proofs.Ytkjknpibcbpdfaa.reedsolomonErrorPositions
namespace Go.Proofs.Ytkjknpibcbpdfaa
theorem reedsolomonErrorPositions_holds : Rows.ReedsolomonErrorPositionsSaid := reedsolomonErrorPositions.proved
end Go.Proofs.Ytkjknpibcbpdfaa
