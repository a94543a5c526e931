/- The law ProductProofVerify: for every input the call returns true and leaves its argument as it was. -/
import Derived.Test.YtkcjhcjlaefgmaaOpen21
import Derived.Test.YtkcjhcjlaefgmaaL21V
import Derived.Laws.IdiomArrays
namespace Go.Proofs.Ytkcjhcjlaefgmaa.productProofVerify
open Go.ChangeShapes Go.WideShapes Go.ChangeAt Go.RowKit Go.Proofs.YtkcjhcjlaefgmaaW.PrintWords
set_option linter.unusedVariables false
theorem okWide_array4 {P : Program} {w : World} {r : Reach} {base : Nat} {t e : TypeId} {n : Nat} {v : Value} (ht : P.underlying t = some (.array n e)) (h : Value.okWide P w r base t v) : ∃ cs, v = .agg cs ∧ cs.size = P.cellsOf t := by
  simp only [Value.okWide, ht] at h
  obtain ⟨cs, h1, h2, _⟩ := h
  exact ⟨cs, h1, h2⟩
theorem open_arr {H : Type} {enc : TypeId × Value → H} {w : World} {base b0 : Nat} {held : Bool} {r : Reach} {v : Value} {d : DataW H} {p : List MemPlace} (hv : Value.okWide Try.prog w r b0 53 v) (h : DataW.Trod enc Try.prog w base (fun _ => true) held 53 v d p) :
    ∃ x0 x1 x2 x3 : Int, v = .agg #[.int .u64 x0, .int .u64 x1, .int .u64 x2, .int .u64 x3] ∧ 0 ≤ x0 ∧ 0 ≤ x1 ∧ 0 ≤ x2 ∧ 0 ≤ x3 := by
  obtain ⟨cs, rfl, hsz⟩ := okWide_array4 Try.underlying53 hv
  obtain ⟨l⟩ := cs
  have cU : Try.prog.cellsOf 22 = 1 := by kernel_rfl
  have hC : Try.prog.cellsOf 53 = 4 := by kernel_rfl
  match l, hsz.trans hC with
  | [c0, c1, c2, c3], _ =>
    obtain ⟨fuel, hf⟩ := h
    obtain ⟨y0, y1, y2, y3, n, -, f0, f1, f2, f3⟩ := trod_array4 Try.underlying53 cU hf
    obtain ⟨x0, rfl, b0⟩ := L21.num_at Try.underlying22 f0
    obtain ⟨x1, rfl, b1⟩ := L21.num_at Try.underlying22 f1
    obtain ⟨x2, rfl, b2⟩ := L21.num_at Try.underlying22 f2
    obtain ⟨x3, rfl, b3⟩ := L21.num_at Try.underlying22 f3
    exact ⟨x0, x1, x2, x3, rfl, b0.1, b1.1, b2.1, b3.1⟩
theorem own : ownKnob Try.prog.godebug = none := by kernel_rfl
theorem laidOut : laidOutB Try.prog = true := by kernel_rfl
set_option maxRecDepth 100000 in
theorem lifted (os : Os) (started : os.Started) (H : Type) (enc : TypeId × Value → H) :
    ReturnsInHanded {} Try.checked os 6 .any (Rows.productProofVerifySpec.pre6 enc Try.prog Try.f6 Rows.productProofVerifyRow.domain false) (Rows.productProofVerifySpec.post enc Try.prog Try.f6 false true false false) := by
  refine returnsInHanded_of_change_sized (C := Try.checked) own started (by kernel_rfl) Try.func6
    (ChangeSpec.witness6 (enc := enc) (C := Try.checked) false ⟨#[], #[.int .u64 0, .agg #[.int .u64 0, .int .u64 0, .int .u64 0, .int .u64 0], .slice none 0 0], []⟩ 8 (by kernel_rfl) (by kernel_rfl) (by kernel_rfl) (by kernel_rfl)) ?_
  intro W base args ds gs before hval0 hW hcnd hsz0 _
  have hval : ∀ (j : Nat) t v, Try.f6.params[j]? = some t → args[j]? = some v → Value.okWide Try.prog W .any base t v := hval0
  have hW' := hW
  obtain ⟨p, q, hA0, hV, rfl, hfz, hnd⟩ := hW
  have hA : DataW.TrodAll enc Try.prog W 0 (fun _ => true) true Try.f6.params.toList args.toList ds p := hA0
  rw [Try.params6] at hA hval
  obtain ⟨v0, vs0, d0, ds0, p0, q0, hargs, rfl, rfl, h0, r0⟩ := trodAll_cons hA
  obtain ⟨v1, vs1, d1, ds1, p1, q1, rfl, rfl, rfl, h1, r1⟩ := trodAll_cons r0
  obtain ⟨v2, vs2, d2, ds2, p2, q2, rfl, rfl, rfl, h2, r2⟩ := trodAll_cons r1
  obtain ⟨rfl, rfl, rfl⟩ := trodAll_nil r2
  obtain rfl : args = #[v0, v1, v2] := by cases args; simp_all
  obtain ⟨rfl, rfl⟩ := trodVars_none hV
  have cU : Try.prog.cellsOf 22 = 1 := by kernel_rfl
  obtain ⟨a0, rfl, rfl, rfl, w0⟩ := open_int Try.underlying22 (hval 0 22 v0 rfl rfl) h0
  have k1 := h1
  have lt1 : ∀ x ∈ p1, x.block < W.heap.size := by obtain ⟨m, hm⟩ := k1; exact DataW.trod_lt m _ _ _ hm
  have k2 := h2
  have lt2 : ∀ x ∈ p2, x.block < W.heap.size := by obtain ⟨m, hm⟩ := k2; exact DataW.trod_lt m _ _ _ hm
  obtain ⟨x0, x1, x2, x3, e1, g0, g1, g2, g3⟩ := open_arr (hval 1 53 v1 rfl rfl) h1
  subst e1
  have hs : ∃ (A2 : Option Addr) (c2 : Nat) (l2 : List Int), v2 = .slice A2 l2.length c2 ∧ Kd.C (Kd.int .u64) W A2 l2.length l2 ∧ l2.length ≤ c2 ∧ ∀ x ∈ l2, 0 ≤ x ∧ x ≤ 18446744073709551615 := by
    obtain ⟨A, n, c, rfl⟩ := okWide_slice Try.underlying23 (hval 2 23 v2 rfl rfl)
    obtain ⟨fuel, hf⟩ := h2
    exact L21.row_at Try.underlying23 Try.underlying22 cU hf
  obtain ⟨A2, c2, l2, rfl, b2⟩ := hs
  clear hA0 hval0 hsz0
  have n2 := fun x hx => (b2.2.2 x hx).1
  obtain ⟨k, hk⟩ := L21.pure_verify a0 x0 x1 x2 x3 l2 g0 g1 g2 g3 n2
  refine (Q.privitylaw21_ProductProofVerify.calls k a0 [x0, x1, x2, x3] rfl A2 c2 l2 true W b2.1 b2.2.1 hk).mono fun e W' ⟨he, bel⟩ => ?_
  subst he
  exact ⟨_, rfl, _, _, _, [], _, [], hW', trodAll_mk1 (shut_bool Try.underlying4 _), (trodAll_cons_mk (shut_int Try.underlying22 w0) (trodAll_cons_mk (Below.trod laidOut (by kernel_rfl) (of_decide_eq_true (by kernel_rfl)) k1 bel lt1) (trodAll_cons_mk (Below.trod laidOut (by kernel_rfl) (of_decide_eq_true (by kernel_rfl)) k2 bel lt2) trodAll_mk0))), rfl, bel.frame _, fun h => by cases h⟩
theorem over : Rows.productProofVerifyRow.holds Try.pinned (OpenSpec.ofChange Rows.productProofVerifySpec) :=
  OpenClaim.holds_of_wide 6 Try.f6 rfl rfl rfl rfl rfl rfl rfl ⟨rfl, rfl, rfl, rfl, rfl⟩ rfl rfl rfl rfl rfl (by kernel_rfl) Try.func6 (by kernel_rfl)
    (of_decide_eq_true (by kernel_rfl)) (by unfold Func.isWrapper; first | (rw [if_pos (by decide +kernel)]; kernel_rfl) | (rw [if_neg (by decide +kernel)]; exact ⟨rfl, rfl⟩))
    (fun os started H enc _ => lifted os started H enc)
theorem proved : Rows.ProductProofVerifySaid := over
#print axioms proved
end Go.Proofs.Ytkcjhcjlaefgmaa.productProofVerify
namespace Go.Proofs.Ytkcjhcjlaefgmaa
theorem productProofVerify_holds : Rows.ProductProofVerifySaid := productProofVerify.proved
end Go.Proofs.Ytkcjhcjlaefgmaa
