/- The law MatrixUnsolvableWitness: for every input the call returns true and leaves its arguments as they were. -/
import Derived.Test.YtkjknpibcbpdfaaOpen6
import Derived.Test.YtkjknpibcbpdfaaUnsolv
namespace Go.Proofs.Ytkjknpibcbpdfaa.matrixUnsolvableWitness
open Go.ChangeShapes Go.WideShapes Go.ChangeAt Go.RowKit
set_option linter.unusedVariables false
theorem own : ownKnob Try.prog.godebug = none := by kernel_rfl
theorem laidOut : laidOutB Try.prog = true := by kernel_rfl
set_option maxRecDepth 100000 in
theorem lifted (os : Os) (started : os.Started) (H : Type) (enc : TypeId × Value → H) :
    ReturnsInHanded {} Try.checked os 6 .any (Rows.matrixUnsolvableWitnessSpec.pre6 enc Try.prog Try.f6 Rows.matrixUnsolvableWitnessRow.domain false) (Rows.matrixUnsolvableWitnessSpec.post enc Try.prog Try.f6 false true false false) := by
  refine returnsInHanded_of_change_sized (C := Try.checked) own started (by kernel_rfl) Try.func6
    (ChangeSpec.witness6 (enc := enc) (C := Try.checked) false ⟨#[], #[.int .u64 0, .slice none 0 0, .slice none 0 0], []⟩ 8 (by kernel_rfl) (by kernel_rfl) (by kernel_rfl) (by kernel_rfl)) ?_
  intro W base args ds gs before hval0 hW hcnd hsz0 _
  have hval : ∀ (j : Nat) t v, Try.f6.params[j]? = some t → args[j]? = some v → Value.okWide Try.prog W .any base t v := hval0
  have hW' := hW
  obtain ⟨p, q, hA0, hV, rfl, hfz, hnd⟩ := hW
  have hA : DataW.TrodAll enc Try.prog W 0 (fun _ => true) true Try.f6.params.toList args.toList ds p := hA0
  rw [Try.params6] at hA hval
  obtain ⟨v0, v1, v2, d0, d1, d2, p0, p1, p2, rfl, rfl, rfl, h0, h1, h2⟩ := trodAll_three hA
  obtain ⟨rfl, rfl⟩ := trodVars_none hV
  have h0' := h0
  have lt0 : ∀ x ∈ p0, x.block < W.heap.size := by obtain ⟨m, hm⟩ := h0'; exact DataW.trod_lt m _ _ _ hm
  have h1' := h1
  have lt1 : ∀ x ∈ p1, x.block < W.heap.size := by obtain ⟨m, hm⟩ := h1'; exact DataW.trod_lt m _ _ _ hm
  have h2' := h2
  have lt2 : ∀ x ∈ p2, x.block < W.heap.size := by obtain ⟨m, hm⟩ := h2'; exact DataW.trod_lt m _ _ _ hm
  obtain ⟨a0, rfl, n0⟩ := open_num (hval 0 22 v0 rfl rfl) h0
  obtain ⟨A1, c1, l1, rfl, r1, e1, n1⟩ := open_table (hval 1 23 v1 rfl rfl) h1
  obtain ⟨A2, c2, l2, rfl, r2, e2, n2⟩ := open_row (hval 2 32 v2 rfl rfl) h2
  clear hA0 hval0 hsz0
  simp only [List.append_nil] at hW'
  refine (uns_calls a0 A1 c1 l1 A2 c2 l2 W n1 n2 r1 e1 r2 e2).mono fun e W' ⟨he, bel⟩ => ?_
  subst he
  exact ⟨_, rfl, _, _, _, [], _, [], hW', trodAll_mk1 (shut_bool Try.underlying4 _), trodAll_mk3 (Below.trod laidOut (by kernel_rfl) (of_decide_eq_true (by kernel_rfl)) h0' bel lt0) (Below.trod laidOut (by kernel_rfl) (of_decide_eq_true (by kernel_rfl)) h1' bel lt1) (Below.trod laidOut (by kernel_rfl) (of_decide_eq_true (by kernel_rfl)) h2' bel lt2), rfl, bel.frame _, fun h => by cases h⟩
theorem over : Rows.matrixUnsolvableWitnessRow.holds Try.pinned (OpenSpec.ofChange Rows.matrixUnsolvableWitnessSpec) :=
  OpenClaim.holds_of_wide 6 Try.f6 rfl rfl rfl rfl rfl rfl rfl ⟨rfl, rfl, rfl, rfl, rfl⟩ rfl rfl rfl rfl rfl (by kernel_rfl) Try.func6 (by kernel_rfl)
    (of_decide_eq_true (by kernel_rfl)) (by unfold Func.isWrapper; first | (rw [if_pos (by decide +kernel)]; kernel_rfl) | (rw [if_neg (by decide +kernel)]; exact ⟨rfl, rfl⟩))
    (fun os started H enc _ => lifted os started H enc)
theorem proved : Rows.MatrixUnsolvableWitnessSaid := over
#print axioms proved
end Go.Proofs.Ytkjknpibcbpdfaa.matrixUnsolvableWitness
namespace Go.Proofs.Ytkjknpibcbpdfaa
theorem matrixUnsolvableWitness_holds : Rows.MatrixUnsolvableWitnessSaid := matrixUnsolvableWitness.proved
end Go.Proofs.Ytkjknpibcbpdfaa
