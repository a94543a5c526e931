/- The law FieldSqrt: for every input the call returns true and leaves its argument as it was; the card ties the package variable that its road reads to the program's text. -/
import Derived.Test.YthlokgappehhgaaDoorRows
import Derived.Test.YthlokgappehhgaaDoorCards
import Derived.Test.YthlokgappehhgaaDoorTie
import Derived.Test.YthlokgappehhgaaDoorPureA
import Derived.WalkKit
import Derived.ProofKit
import Derived.OpenShut
import Derived.LaidMore
import Derived.Lib.SmallJoins
import Derived.SevenTiedAt
import Derived.Below
namespace Go.Proofs.YthlokgappehhgaaDoor.fieldSqrt
open Go.ChangeShapes Go.WideShapes Go.ChangeAt Go.WideMaps Go.WideElems Go.RowKit Go.Joins
set_option linter.unusedVariables false
set_option linter.unusedSimpArgs false

theorem own : ownKnob Tryd.prog.godebug = none := by kernel_rfl
theorem laidOut : laidOutB Tryd.prog = true := by kernel_rfl
theorem gExps : Tryd.prog.globalNamed "privity/field.exps" = some 0 := by kernel_rfl
theorem tExps : (Tryd.prog.globals[0]?).map (·.type) = some 42 := by kernel_rfl

theorem door_met (os : Os) (args : Array Value) : laidMetH Tryd.prog [("privity/field.exps", Rows.laid_privity_field_exps)] ((World.doorLaid Tryd.prog 400 os).forCall (fun _ _ => 0) ⟨#[], args, []⟩).memory :=
  laidMetH_of_parts3 (fuel := 8) (laidMet_of_run' 8 (by kernel_rfl) (by kernel_rfl)) (by kernel_rfl) (by kernel_rfl)

theorem of_laid {W : World} (h : laidMetH Tryd.prog [("privity/field.exps", Rows.laid_privity_field_exps)] W) : Glob W := by
  rw [MakeChecks.laidMetH_plain _ _ _ (by kernel_rfl)] at h
  obtain ⟨ps, ⟨g0, t0, cs0, f0, p0, q0, hg0, ht0, hv0, hd0, _, _⟩, _⟩ := h
  obtain rfl := Option.some.inj (gExps.symm.trans hg0)
  obtain rfl := Option.some.inj (tExps.symm.trans ht0)
  obtain ⟨xs, m1, _, hx1, hlen, hn7, hel⟩ := DataW.trod_array Tryd.underlying42 hd0
  have c3 : Tryd.prog.cellsOf 3 = 1 := by kernel_rfl
  simp only [Prod.mk.injEq] at hx1
  have hx := hx1.1
  clear hx1
  have c42 : Tryd.prog.cellsOf 42 = 7 := by kernel_rfl
  have e : cs0 = exps7 := by
    obtain ⟨l⟩ := cs0
    rw [c42] at hlen
    have hl : l.length = 7 := by simpa using hlen
    rw [c3] at hel
    match l, hl, xs, hn7, hx with
    | [k0, k1, k2, k3, k4, k5, k6], _, [x0, x1, x2, x3, x4, x5, x6], _, hx =>
      obtain ⟨n0, e0, f0, _⟩ := DataW.trod_int Tryd.underlying3 (show DataW.trod _ Tryd.prog W 0 _ false m1 3 [k0] = some x0 from hel 0 (by decide))
      obtain ⟨n1, e1, f1, _⟩ := DataW.trod_int Tryd.underlying3 (show DataW.trod _ Tryd.prog W 0 _ false m1 3 [k1] = some x1 from hel 1 (by decide))
      obtain ⟨n2, e2, f2, _⟩ := DataW.trod_int Tryd.underlying3 (show DataW.trod _ Tryd.prog W 0 _ false m1 3 [k2] = some x2 from hel 2 (by decide))
      obtain ⟨n3, e3, f3, _⟩ := DataW.trod_int Tryd.underlying3 (show DataW.trod _ Tryd.prog W 0 _ false m1 3 [k3] = some x3 from hel 3 (by decide))
      obtain ⟨n4, e4, f4, _⟩ := DataW.trod_int Tryd.underlying3 (show DataW.trod _ Tryd.prog W 0 _ false m1 3 [k4] = some x4 from hel 4 (by decide))
      obtain ⟨n5, e5, f5, _⟩ := DataW.trod_int Tryd.underlying3 (show DataW.trod _ Tryd.prog W 0 _ false m1 3 [k5] = some x5 from hel 5 (by decide))
      obtain ⟨n6, e6, f6, _⟩ := DataW.trod_int Tryd.underlying3 (show DataW.trod _ Tryd.prog W 0 _ false m1 3 [k6] = some x6 from hel 6 (by decide))
      simp only [List.cons.injEq, and_true] at e0 e1 e2 e3 e4 e5 e6
      subst e0 e1 e2 e3 e4 e5 e6
      rw [f0, f1, f2, f3, f4, f5, f6] at hx
      simp only [Rows.laid_privity_field_exps, List.map_cons, List.map_nil, DataW.agg.injEq, List.cons.injEq, DataW.lit.injEq, Lit.int.injEq, true_and, and_true] at hx
      obtain ⟨rfl, rfl, rfl, rfl, rfl, rfl, rfl⟩ := hx
      rfl
  subst e
  unfold World.var? at hv0
  rw [gExps] at hv0
  simp only [Option.bind_some] at hv0
  split at hv0
  · rename_i cs t fr hh
    obtain rfl := Option.some.inj hv0
    exact ⟨t, fr, hh⟩
  · cases hv0

set_option maxRecDepth 100000 in
theorem lifted (os : Os) (started : os.Started) (H : Type) (enc : TypeId × Value → H) :
    ReturnsInHanded {} Tryd.checked os 3 .any (fun w args => (Rows.fieldSqrtSpec.pre enc Tryd.prog Tryd.f3 [] false w args ∧ laidMetH Tryd.prog [("privity/field.exps", Rows.laid_privity_field_exps)] w) ∧ sizedMet enc Tryd.prog Tryd.f3 (OpenSpec.ofChange Rows.fieldSqrtSpec) false w args)
      (Rows.fieldSqrtSpec.post enc Tryd.prog Tryd.f3 false true false false) := by
  refine returnsInHanded_of_change_and (C := Tryd.checked) (X := fun w _ => laidMetH Tryd.prog [("privity/field.exps", Rows.laid_privity_field_exps)] w) (fun _ _ _ hh h => h.of_heap hh) own started (by kernel_rfl) Tryd.func3
    (ChangeSpec.witness_shaped (enc := enc) (C := Tryd.checked) (os := os) (X := fun w _ => laidMetH Tryd.prog [("privity/field.exps", Rows.laid_privity_field_exps)] w) false (World.doorLaid Tryd.prog 400 os) #[.agg #[.int .u64 0, .int .u64 0, .int .u64 0, .int .u64 0]] 8 rfl (World.shaped_of_RefB (by kernel_rfl) (by kernel_rfl)) (by kernel_rfl) (by kernel_rfl) (by kernel_rfl) (door_met os _)) ?_
  intro W base args ds gs before hval0 hW _ _ hL _
  have hval : ∀ (j : Nat) t v, Tryd.f3.params[j]? = some t → args[j]? = some v → Value.okWide Tryd.prog W .any base t v := hval0
  have hW' := hW
  obtain ⟨p, q, hA0, hV, rfl, hfz, hnd⟩ := hW
  have hA : DataW.TrodAll enc Tryd.prog W 0 (fun _ => true) true Tryd.f3.params.toList args.toList ds p := hA0
  rw [Tryd.params3] at hA hval
  obtain ⟨v0, d0, rfl, rfl, h0⟩ := trodAll_one hA
  obtain ⟨rfl, rfl⟩ := trodVars_none hV
  have hG := of_laid hL
  have h0' := h0
  have lt0 : ∀ x ∈ p, x.block < W.heap.size := by obtain ⟨m, hm⟩ := h0'; exact DataW.trod_lt m _ _ _ hm
  obtain ⟨c0, c1, c2, c3, y0, y1, y2, y3, n, rfl, -, -, z0, z1, z2, z3⟩ := open_agg4 Tryd.underlying24 (by kernel_rfl) (by kernel_rfl) (hval 0 24 v0 rfl rfl) h0
  obtain ⟨a0, e0, -, w0⟩ := DataW.trod_int Tryd.underlying22 z0
  obtain ⟨a1, e1, -, w1⟩ := DataW.trod_int Tryd.underlying22 z1
  obtain ⟨a2, e2, -, w2⟩ := DataW.trod_int Tryd.underlying22 z2
  obtain ⟨a3, e3, -, w3⟩ := DataW.trod_int Tryd.underlying22 z3
  simp at e0 e1 e2 e3
  subst e0 e1 e2 e3
  have b0 := bounds_u64 w0
  have b1 := bounds_u64 w1
  have b2 := bounds_u64 w2
  have b3 := bounds_u64 w3
  clear hA0 hval0
  simp only [List.append_nil] at hW'
  refine (X.privitylaw01_FieldSqrt.calls a0 a1 a2 a3 true W hG (pure_sqrt a0 a1 a2 a3 b0.1 b1.1 b2.1 b3.1)).mono fun e W' ⟨he, bel⟩ => ?_
  subst he
  exact ⟨_, rfl, _, _, _, [], _, [], hW', trodAll_mk1 (shut_bool Tryd.underlying4 _), trodAll_mk1 (Below.trod laidOut (by kernel_rfl) (of_decide_eq_true (by kernel_rfl)) h0' bel lt0), rfl, bel.frame _, fun h => by cases h⟩

theorem said : Rows.FieldSqrtSaid :=
  OpenClaim.holds_of_wide 3 Tryd.f3 rfl rfl rfl rfl rfl rfl rfl ⟨rfl, rfl, rfl, rfl, rfl⟩ rfl rfl rfl rfl rfl (by kernel_rfl) Tryd.func3 (by kernel_rfl)
    (of_decide_eq_true (by kernel_rfl)) (by unfold Func.isWrapper; first | (rw [if_pos (by decide +kernel)]; kernel_rfl) | (rw [if_neg (by decide +kernel)]; exact ⟨rfl, rfl⟩))
    (fun os started H enc _ => lifted os started H enc)

theorem card : Rows.FieldSqrtCardSaid :=
  Claim7.holds_tied_plain_at .later [] [.data] true (true, "72a0d91364b7fcf3dd18cfc83afffaa1400c4230d2fa41a55ca79d12e287ef1d") false
    said (fun _ h => by cases h) (by kernel_rfl) (fun _ h => by cases h) fieldSqrt_row_tie rfl ⟨rfl, rfl⟩ (by kernel_rfl) rfl
    (fun f fn hf hfn => by
      obtain rfl : f = 3 := Option.some.inj ((show Tryd.prog.funcNamed "privity/privitylaw01.FieldSqrt" = some 3 by kernel_rfl).symm.trans hf) |>.symm
      obtain rfl : fn = Tryd.f3 := (Option.some.inj (Tryd.func3.symm.trans hfn)).symm
      exact ⟨by kernel_rfl, fun j t ht => by
        rw [Tryd.params3] at ht
        have hm : t ∈ [24] := by simpa using Array.mem_of_getElem? ht
        have hall : ([24].all fun u => !Tryd.prog.wantsStandIn u) = true := by kernel_rfl
        exact (show Tryd.prog.wantsStandIn t = false by simpa using List.all_eq_true.1 hall t hm)⟩)
    (by kernel_rfl)
#print axioms card
end Go.Proofs.YthlokgappehhgaaDoor.fieldSqrt
namespace Go.Proofs.YthlokgappehhgaaDoor
theorem fieldSqrt_card_holds : Rows.FieldSqrtCardSaid := fieldSqrt.card
end Go.Proofs.YthlokgappehhgaaDoor
