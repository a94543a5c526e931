/- Functions of the program as plain Lean functions, each with a proof that its call does what the function says; written by a program of this session. -/
import Derived.Test.YtkcjhcjlaefgmaaQ0
import Derived.Test.YtkcjhcjlaefgmaaBase
import Derived.Test.YtkcjhcjlaefgmaaMul
import Derived.Test.YtkcjhcjlaefgmaaProve
import Derived.Test.YtkcjhcjlaefgmaaQ1
import Derived.Test.YtkcjhcjlaefgmaaQ2
import Derived.Test.YtkcjhcjlaefgmaaQ3
import Derived.Test.YtkcjhcjlaefgmaaQ4
namespace Go.Proofs.Ytkcjhcjlaefgmaa.Q
open Go.RowKit Go.Proofs.YtkcjhcjlaefgmaaW.PrintWords Go.Proofs.YtkcjhcjlaefgmaaW.PrintLast Go.Proofs.YtkcjhcjlaefgmaaW.PrintMore
attribute [local go_sem] max2_int min2_int max_two min_two max_three min_three max_four min_four   -- for this text's walks alone
set_option linter.unusedVariables false
set_option linter.unusedSimpArgs false

/-! ### privitylaw21_ProductProofZeroKnowledge: function 4 -/
mutual
def privitylaw21_ProductProofZeroKnowledge.j0 : Nat → Bool → Int → Int → List Int → List Int → List Int → List Int → Int → Int → Int → Int → List Int → List Int → List Int → Option (Bool)
 | 0, _, _, _, _, _, _, _, _, _, _, _, _, _, _ => none
 | k + 1, x47, x227000, x227001, x227002, x227003, x227004, x227005, x227006, x227007, x228000, x228001, x228002, x228003, x228004 => if x47 = true then ((privitylaw21_awake.f k).bind fun t231 => (some t231)) else (privitylaw21_ProductProofZeroKnowledge.l0 k 0 x227000 x227001 x227002 x227003 x227004 x227005 x227006 x227007 x228000 x228001 x228002 x228003 x228004)
def privitylaw21_ProductProofZeroKnowledge.l0 : Nat → Int → Int → Int → List Int → List Int → List Int → List Int → Int → Int → Int → Int → List Int → List Int → List Int → Option (Bool)
 | 0, _, _, _, _, _, _, _, _, _, _, _, _, _, _ => none
 | k + 1, x4, x227000, x227001, x227002, x227003, x227004, x227005, x227006, x227007, x228000, x228001, x228002, x228003, x228004 => if x4 < (x227005.length : Int) then (if 0 ≤ x4 then (if (rd x227005 x4) = 0 then ((privitylaw21_awake.f k).bind fun t233 => (some t233)) else (privitylaw21_ProductProofZeroKnowledge.l0 k (wrap64 (x4 + 1)) x227000 x227001 x227002 x227003 x227004 x227005 x227006 x227007 x228000 x228001 x228002 x228003 x228004)) else (none)) else (if x228000 = 0 then (none) else ((privityref10_Vanish.f k x228000 x227005).bind fun t234 => ((privityref21_Moved.f k x228000 x228001 x228002 x228003 x228004 t234 (Int.tmod x227006 x228000) (Int.tmod x227007 x228000)).bind fun bt237 => ((productproof_Prove.f x228000 x228001 x228002 x228003 x228004).bind fun bt246 => ((productproof_Prove.f x228000 x228001 bt237.1 bt237.2.1 bt237.2.2).bind fun bt252 => (if (bt246.1.length : Int) = x228001 then (if (bt252.1.length : Int) = x228001 then (if (bt246.2.length : Int) = (wrap64 (x228001 + 1)) then (privitylaw21_ProductProofZeroKnowledge.j2 k (Int.tmod x227006 x228000) (Int.tmod x227007 x228000) t234 bt237.1 bt237.2.1 bt237.2.2 bt246.1 bt246.2 bt252.1 bt252.2 ((bt252.2.length : Int) != (wrap64 (x228001 + 1))) x227000 x227001 x227002 x227003 x227004 x227005 x227006 x227007 x228000 x228001 x228002 x228003 x228004) else (privitylaw21_ProductProofZeroKnowledge.j2 k (Int.tmod x227006 x228000) (Int.tmod x227007 x228000) t234 bt237.1 bt237.2.1 bt237.2.2 bt246.1 bt246.2 bt252.1 bt252.2 true x227000 x227001 x227002 x227003 x227004 x227005 x227006 x227007 x228000 x228001 x228002 x228003 x228004)) else (privitylaw21_ProductProofZeroKnowledge.j2 k (Int.tmod x227006 x228000) (Int.tmod x227007 x228000) t234 bt237.1 bt237.2.1 bt237.2.2 bt246.1 bt246.2 bt252.1 bt252.2 true x227000 x227001 x227002 x227003 x227004 x227005 x227006 x227007 x228000 x228001 x228002 x228003 x228004)) else (privitylaw21_ProductProofZeroKnowledge.j2 k (Int.tmod x227006 x228000) (Int.tmod x227007 x228000) t234 bt237.1 bt237.2.1 bt237.2.2 bt246.1 bt246.2 bt252.1 bt252.2 true x227000 x227001 x227002 x227003 x227004 x227005 x227006 x227007 x228000 x228001 x228002 x228003 x228004)))))))
def privitylaw21_ProductProofZeroKnowledge.j2 : Nat → Int → Int → List Int → List Int → List Int → List Int → List (List Int) → List Int → List (List Int) → List Int → Bool → Int → Int → List Int → List Int → List Int → List Int → Int → Int → Int → Int → List Int → List Int → List Int → Option (Bool)
 | 0, _, _, _, _, _, _, _, _, _, _, _, _, _, _, _, _, _, _, _, _, _, _, _, _ => none
 | k + 1, x5, x6, x7, x8, x9, x10, x11, x12, x13, x14, x148, x227000, x227001, x227002, x227003, x227004, x227005, x227006, x227007, x228000, x228001, x228002, x228003, x228004 => if x148 = true then (none) else (privitylaw21_ProductProofZeroKnowledge.l1 k x5 x6 x7 x8 x9 x10 x11 x12 x13 x14 0 x227000 x227001 x227002 x227003 x227004 x227005 x227006 x227007 x228000 x228001 x228002 x228003 x228004)
def privitylaw21_ProductProofZeroKnowledge.l1 : Nat → Int → Int → List Int → List Int → List Int → List Int → List (List Int) → List Int → List (List Int) → List Int → Int → Int → Int → List Int → List Int → List Int → List Int → Int → Int → Int → Int → List Int → List Int → List Int → Option (Bool)
 | 0, _, _, _, _, _, _, _, _, _, _, _, _, _, _, _, _, _, _, _, _, _, _, _, _ => none
 | k + 1, x5, x6, x7, x8, x9, x10, x11, x12, x13, x14, x15, x227000, x227001, x227002, x227003, x227004, x227005, x227006, x227007, x228000, x228001, x228002, x228003, x228004 => if x15 < (x227005.length : Int) then (if 0 ≤ x15 then ((privitylaw21_valuesAt.f k x228000 x11 (rd x227005 x15)).bind fun t259 => ((privitylaw21_valuesAt.f k x228000 x13 (rd x227005 x15)).bind fun t262 => ((privityref06_SameList.f k t259 t262).bind fun t265 => (if t265 = true then ((poly_Eval.f k x228000 x12 (rd x227005 x15)).bind fun t266 => ((poly_Eval.f k x228000 x14 (rd x227005 x15)).bind fun t267 => (if t266 = t267 then ((poly_Eval.f k x228000 x8 (rd x227005 x15)).bind fun t268 => ((poly_Eval.f k x228000 x228002 (rd x227005 x15)).bind fun t269 => (if t268 = t269 then ((poly_Eval.f k x228000 x9 (rd x227005 x15)).bind fun t270 => ((poly_Eval.f k x228000 x228003 (rd x227005 x15)).bind fun t271 => (if t270 = t271 then (privitylaw21_ProductProofZeroKnowledge.l1 k x5 x6 x7 x8 x9 x10 x11 x12 x13 x14 (wrap64 (x15 + 1)) x227000 x227001 x227002 x227003 x227004 x227005 x227006 x227007 x228000 x228001 x228002 x228003 x228004) else (none)))) else (none)))) else (none)))) else (none))))) else (none)) else ((field_Neg.f x228000 x5).bind fun t272 => ((field_Neg.f x228000 x6).bind fun t273 => ((privityref21_Moved.f k x228000 x228001 x8 x9 x10 x7 t272 t273).bind fun bt274 => (if 0 < (x228002.length : Int) then ((field_Add.f x228000 (rd x228002 0) x5).bind fun t284 => (if 0 < (x228003.length : Int) then ((field_Add.f x228000 (rd x228003 0) x6).bind fun t286 => ((field_Mul.f x228000 t284 t286).bind fun t287 => ((privitylaw21_awake.f k).bind fun t288 => (if t288 = true then (if 0 < (x14.length : Int) then (if (rd x14 0) = t287 then ((privityref06_SameList.f k bt274.1 x228002).bind fun t290 => (if t290 = true then ((privityref06_SameList.f k bt274.2.1 x228003).bind fun t291 => (if t291 = true then ((privityref06_SameList.f k bt274.2.2 x228004).bind fun t292 => (some t292)) else (none))) else (none))) else (none)) else (none)) else (none))))) else (none))) else (none)))))
end
def privitylaw21_ProductProofZeroKnowledge.f (k : Nat) (a0_0 : Int) (a0_1 : Int) (l0_2 : List Int) (l0_3 : List Int) (l0_4 : List Int) (l0_5 : List Int) (a0_6 : Int) (a0_7 : Int) : Option (Bool) := (privitylaw21_validCase.f k a0_0 a0_1 l0_2 l0_3 l0_4).bind fun t228 => (if t228 = true then (if (l0_5.length : Int) = a0_1 then ((privityref06_Below.f k a0_0 l0_5 4).bind fun t229 => (if t229 = true then ((privityref10_Unlike.f k l0_5).bind fun t230 => (privitylaw21_ProductProofZeroKnowledge.j0 k (!t230) a0_0 a0_1 l0_2 l0_3 l0_4 l0_5 a0_6 a0_7 a0_0 a0_1 l0_2 l0_3 l0_4)) else (privitylaw21_ProductProofZeroKnowledge.j0 k true a0_0 a0_1 l0_2 l0_3 l0_4 l0_5 a0_6 a0_7 a0_0 a0_1 l0_2 l0_3 l0_4))) else (privitylaw21_ProductProofZeroKnowledge.j0 k true a0_0 a0_1 l0_2 l0_3 l0_4 l0_5 a0_6 a0_7 a0_0 a0_1 l0_2 l0_3 l0_4)) else (privitylaw21_ProductProofZeroKnowledge.j0 k true a0_0 a0_1 l0_2 l0_3 l0_4 l0_5 a0_6 a0_7 a0_0 a0_1 l0_2 l0_3 l0_4))
theorem privitylaw21_ProductProofZeroKnowledge.mono_l : ∀ k, (∀ y0 y1 y2 y3 y4 y5 y6 y7 y8 y9 y10 y11 y12 y13, LeO (privitylaw21_ProductProofZeroKnowledge.j0 k y0 y1 y2 y3 y4 y5 y6 y7 y8 y9 y10 y11 y12 y13) (privitylaw21_ProductProofZeroKnowledge.j0 (k + 1) y0 y1 y2 y3 y4 y5 y6 y7 y8 y9 y10 y11 y12 y13)) ∧ (∀ y0 y1 y2 y3 y4 y5 y6 y7 y8 y9 y10 y11 y12 y13, LeO (privitylaw21_ProductProofZeroKnowledge.l0 k y0 y1 y2 y3 y4 y5 y6 y7 y8 y9 y10 y11 y12 y13) (privitylaw21_ProductProofZeroKnowledge.l0 (k + 1) y0 y1 y2 y3 y4 y5 y6 y7 y8 y9 y10 y11 y12 y13)) ∧ (∀ y0 y1 y2 y3 y4 y5 y6 y7 y8 y9 y10 y11 y12 y13 y14 y15 y16 y17 y18 y19 y20 y21 y22 y23, LeO (privitylaw21_ProductProofZeroKnowledge.j2 k y0 y1 y2 y3 y4 y5 y6 y7 y8 y9 y10 y11 y12 y13 y14 y15 y16 y17 y18 y19 y20 y21 y22 y23) (privitylaw21_ProductProofZeroKnowledge.j2 (k + 1) y0 y1 y2 y3 y4 y5 y6 y7 y8 y9 y10 y11 y12 y13 y14 y15 y16 y17 y18 y19 y20 y21 y22 y23)) ∧ (∀ y0 y1 y2 y3 y4 y5 y6 y7 y8 y9 y10 y11 y12 y13 y14 y15 y16 y17 y18 y19 y20 y21 y22 y23, LeO (privitylaw21_ProductProofZeroKnowledge.l1 k y0 y1 y2 y3 y4 y5 y6 y7 y8 y9 y10 y11 y12 y13 y14 y15 y16 y17 y18 y19 y20 y21 y22 y23) (privitylaw21_ProductProofZeroKnowledge.l1 (k + 1) y0 y1 y2 y3 y4 y5 y6 y7 y8 y9 y10 y11 y12 y13 y14 y15 y16 y17 y18 y19 y20 y21 y22 y23))
 | 0 => ⟨fun _ _ _ _ _ _ _ _ _ _ _ _ _ _ r h => by simp [privitylaw21_ProductProofZeroKnowledge.j0] at h, fun _ _ _ _ _ _ _ _ _ _ _ _ _ _ r h => by simp [privitylaw21_ProductProofZeroKnowledge.l0] at h, fun _ _ _ _ _ _ _ _ _ _ _ _ _ _ _ _ _ _ _ _ _ _ _ _ r h => by simp [privitylaw21_ProductProofZeroKnowledge.j2] at h, fun _ _ _ _ _ _ _ _ _ _ _ _ _ _ _ _ _ _ _ _ _ _ _ _ r h => by simp [privitylaw21_ProductProofZeroKnowledge.l1] at h⟩
 | k + 1 => by
  obtain ⟨ih0, ih1, ih2, ih3⟩ := privitylaw21_ProductProofZeroKnowledge.mono_l k
  refine ⟨?_, ?_, ?_, ?_⟩
  ·intro y0 y1 y2 y3 y4 y5 y6 y7 y8 y9 y10 y11 y12 y13
   unfold privitylaw21_ProductProofZeroKnowledge.j0
   repeat' first
   | (with_reducible exact ih0 _ _ _ _ _ _ _ _ _ _ _ _ _ _)
   | (with_reducible exact ih1 _ _ _ _ _ _ _ _ _ _ _ _ _ _)
   | (with_reducible exact ih2 _ _ _ _ _ _ _ _ _ _ _ _ _ _ _ _ _ _ _ _ _ _ _ _)
   | (with_reducible exact ih3 _ _ _ _ _ _ _ _ _ _ _ _ _ _ _ _ _ _ _ _ _ _ _ _)
   | (with_reducible exact poly_Eval.mono _ _ _ _)
   | (with_reducible exact privitylaw21_awake.mono _)
   | (with_reducible exact privitylaw21_validCase.mono _ _ _ _ _ _)
   | (with_reducible exact privitylaw21_valuesAt.mono _ _ _ _)
   | (with_reducible exact privityref06_Below.mono _ _ _ _)
   | (with_reducible exact privityref06_SameList.mono _ _ _)
   | (with_reducible exact privityref10_Unlike.mono _ _)
   | (with_reducible exact privityref10_Vanish.mono _ _ _)
   | (with_reducible exact privityref21_Moved.mono _ _ _ _ _ _ _ _ _)
   | (with_reducible exact LeO.refl _)
   | (with_reducible exact LeO.none _)
   | (with_reducible refine LeO.ite ?_ ?_)
   | (with_reducible refine LeO.bind ?_ (fun _ => ?_))
   | exact ih0 _ _ _ _ _ _ _ _ _ _ _ _ _ _
   | exact ih1 _ _ _ _ _ _ _ _ _ _ _ _ _ _
   | exact ih2 _ _ _ _ _ _ _ _ _ _ _ _ _ _ _ _ _ _ _ _ _ _ _ _
   | exact ih3 _ _ _ _ _ _ _ _ _ _ _ _ _ _ _ _ _ _ _ _ _ _ _ _
   | exact poly_Eval.mono _ _ _ _
   | exact privitylaw21_awake.mono _
   | exact privitylaw21_validCase.mono _ _ _ _ _ _
   | exact privitylaw21_valuesAt.mono _ _ _ _
   | exact privityref06_Below.mono _ _ _ _
   | exact privityref06_SameList.mono _ _ _
   | exact privityref10_Unlike.mono _ _
   | exact privityref10_Vanish.mono _ _ _
   | exact privityref21_Moved.mono _ _ _ _ _ _ _ _ _
   | exact LeO.none _
   | refine LeO.ite ?_ ?_
   | refine LeO.bind ?_ (fun _ => ?_)
  ·intro y0 y1 y2 y3 y4 y5 y6 y7 y8 y9 y10 y11 y12 y13
   unfold privitylaw21_ProductProofZeroKnowledge.l0
   repeat' first
   | (with_reducible exact ih0 _ _ _ _ _ _ _ _ _ _ _ _ _ _)
   | (with_reducible exact ih1 _ _ _ _ _ _ _ _ _ _ _ _ _ _)
   | (with_reducible exact ih2 _ _ _ _ _ _ _ _ _ _ _ _ _ _ _ _ _ _ _ _ _ _ _ _)
   | (with_reducible exact ih3 _ _ _ _ _ _ _ _ _ _ _ _ _ _ _ _ _ _ _ _ _ _ _ _)
   | (with_reducible exact poly_Eval.mono _ _ _ _)
   | (with_reducible exact privitylaw21_awake.mono _)
   | (with_reducible exact privitylaw21_validCase.mono _ _ _ _ _ _)
   | (with_reducible exact privitylaw21_valuesAt.mono _ _ _ _)
   | (with_reducible exact privityref06_Below.mono _ _ _ _)
   | (with_reducible exact privityref06_SameList.mono _ _ _)
   | (with_reducible exact privityref10_Unlike.mono _ _)
   | (with_reducible exact privityref10_Vanish.mono _ _ _)
   | (with_reducible exact privityref21_Moved.mono _ _ _ _ _ _ _ _ _)
   | (with_reducible exact LeO.refl _)
   | (with_reducible exact LeO.none _)
   | (with_reducible refine LeO.ite ?_ ?_)
   | (with_reducible refine LeO.bind ?_ (fun _ => ?_))
   | exact ih0 _ _ _ _ _ _ _ _ _ _ _ _ _ _
   | exact ih1 _ _ _ _ _ _ _ _ _ _ _ _ _ _
   | exact ih2 _ _ _ _ _ _ _ _ _ _ _ _ _ _ _ _ _ _ _ _ _ _ _ _
   | exact ih3 _ _ _ _ _ _ _ _ _ _ _ _ _ _ _ _ _ _ _ _ _ _ _ _
   | exact poly_Eval.mono _ _ _ _
   | exact privitylaw21_awake.mono _
   | exact privitylaw21_validCase.mono _ _ _ _ _ _
   | exact privitylaw21_valuesAt.mono _ _ _ _
   | exact privityref06_Below.mono _ _ _ _
   | exact privityref06_SameList.mono _ _ _
   | exact privityref10_Unlike.mono _ _
   | exact privityref10_Vanish.mono _ _ _
   | exact privityref21_Moved.mono _ _ _ _ _ _ _ _ _
   | exact LeO.none _
   | refine LeO.ite ?_ ?_
   | refine LeO.bind ?_ (fun _ => ?_)
  ·intro y0 y1 y2 y3 y4 y5 y6 y7 y8 y9 y10 y11 y12 y13 y14 y15 y16 y17 y18 y19 y20 y21 y22 y23
   unfold privitylaw21_ProductProofZeroKnowledge.j2
   repeat' first
   | (with_reducible exact ih0 _ _ _ _ _ _ _ _ _ _ _ _ _ _)
   | (with_reducible exact ih1 _ _ _ _ _ _ _ _ _ _ _ _ _ _)
   | (with_reducible exact ih2 _ _ _ _ _ _ _ _ _ _ _ _ _ _ _ _ _ _ _ _ _ _ _ _)
   | (with_reducible exact ih3 _ _ _ _ _ _ _ _ _ _ _ _ _ _ _ _ _ _ _ _ _ _ _ _)
   | (with_reducible exact poly_Eval.mono _ _ _ _)
   | (with_reducible exact privitylaw21_awake.mono _)
   | (with_reducible exact privitylaw21_validCase.mono _ _ _ _ _ _)
   | (with_reducible exact privitylaw21_valuesAt.mono _ _ _ _)
   | (with_reducible exact privityref06_Below.mono _ _ _ _)
   | (with_reducible exact privityref06_SameList.mono _ _ _)
   | (with_reducible exact privityref10_Unlike.mono _ _)
   | (with_reducible exact privityref10_Vanish.mono _ _ _)
   | (with_reducible exact privityref21_Moved.mono _ _ _ _ _ _ _ _ _)
   | (with_reducible exact LeO.refl _)
   | (with_reducible exact LeO.none _)
   | (with_reducible refine LeO.ite ?_ ?_)
   | (with_reducible refine LeO.bind ?_ (fun _ => ?_))
   | exact ih0 _ _ _ _ _ _ _ _ _ _ _ _ _ _
   | exact ih1 _ _ _ _ _ _ _ _ _ _ _ _ _ _
   | exact ih2 _ _ _ _ _ _ _ _ _ _ _ _ _ _ _ _ _ _ _ _ _ _ _ _
   | exact ih3 _ _ _ _ _ _ _ _ _ _ _ _ _ _ _ _ _ _ _ _ _ _ _ _
   | exact poly_Eval.mono _ _ _ _
   | exact privitylaw21_awake.mono _
   | exact privitylaw21_validCase.mono _ _ _ _ _ _
   | exact privitylaw21_valuesAt.mono _ _ _ _
   | exact privityref06_Below.mono _ _ _ _
   | exact privityref06_SameList.mono _ _ _
   | exact privityref10_Unlike.mono _ _
   | exact privityref10_Vanish.mono _ _ _
   | exact privityref21_Moved.mono _ _ _ _ _ _ _ _ _
   | exact LeO.none _
   | refine LeO.ite ?_ ?_
   | refine LeO.bind ?_ (fun _ => ?_)
  ·intro y0 y1 y2 y3 y4 y5 y6 y7 y8 y9 y10 y11 y12 y13 y14 y15 y16 y17 y18 y19 y20 y21 y22 y23
   unfold privitylaw21_ProductProofZeroKnowledge.l1
   repeat' first
   | (with_reducible exact ih0 _ _ _ _ _ _ _ _ _ _ _ _ _ _)
   | (with_reducible exact ih1 _ _ _ _ _ _ _ _ _ _ _ _ _ _)
   | (with_reducible exact ih2 _ _ _ _ _ _ _ _ _ _ _ _ _ _ _ _ _ _ _ _ _ _ _ _)
   | (with_reducible exact ih3 _ _ _ _ _ _ _ _ _ _ _ _ _ _ _ _ _ _ _ _ _ _ _ _)
   | (with_reducible exact poly_Eval.mono _ _ _ _)
   | (with_reducible exact privitylaw21_awake.mono _)
   | (with_reducible exact privitylaw21_validCase.mono _ _ _ _ _ _)
   | (with_reducible exact privitylaw21_valuesAt.mono _ _ _ _)
   | (with_reducible exact privityref06_Below.mono _ _ _ _)
   | (with_reducible exact privityref06_SameList.mono _ _ _)
   | (with_reducible exact privityref10_Unlike.mono _ _)
   | (with_reducible exact privityref10_Vanish.mono _ _ _)
   | (with_reducible exact privityref21_Moved.mono _ _ _ _ _ _ _ _ _)
   | (with_reducible exact LeO.refl _)
   | (with_reducible exact LeO.none _)
   | (with_reducible refine LeO.ite ?_ ?_)
   | (with_reducible refine LeO.bind ?_ (fun _ => ?_))
   | exact ih0 _ _ _ _ _ _ _ _ _ _ _ _ _ _
   | exact ih1 _ _ _ _ _ _ _ _ _ _ _ _ _ _
   | exact ih2 _ _ _ _ _ _ _ _ _ _ _ _ _ _ _ _ _ _ _ _ _ _ _ _
   | exact ih3 _ _ _ _ _ _ _ _ _ _ _ _ _ _ _ _ _ _ _ _ _ _ _ _
   | exact poly_Eval.mono _ _ _ _
   | exact privitylaw21_awake.mono _
   | exact privitylaw21_validCase.mono _ _ _ _ _ _
   | exact privitylaw21_valuesAt.mono _ _ _ _
   | exact privityref06_Below.mono _ _ _ _
   | exact privityref06_SameList.mono _ _ _
   | exact privityref10_Unlike.mono _ _
   | exact privityref10_Vanish.mono _ _ _
   | exact privityref21_Moved.mono _ _ _ _ _ _ _ _ _
   | exact LeO.none _
   | refine LeO.ite ?_ ?_
   | refine LeO.bind ?_ (fun _ => ?_)
theorem privitylaw21_ProductProofZeroKnowledge.mono : ∀ a0 a1 a2 a3 a4 a5 a6 a7 k, LeO (privitylaw21_ProductProofZeroKnowledge.f k a0 a1 a2 a3 a4 a5 a6 a7) (privitylaw21_ProductProofZeroKnowledge.f (k + 1) a0 a1 a2 a3 a4 a5 a6 a7) := by
 intro a0 a1 a2 a3 a4 a5 a6 a7 k
 obtain ⟨ih0, ih1, ih2, ih3⟩ := privitylaw21_ProductProofZeroKnowledge.mono_l k
 unfold privitylaw21_ProductProofZeroKnowledge.f
 repeat' first
   | (with_reducible exact ih0 _ _ _ _ _ _ _ _ _ _ _ _ _ _)
   | (with_reducible exact ih1 _ _ _ _ _ _ _ _ _ _ _ _ _ _)
   | (with_reducible exact ih2 _ _ _ _ _ _ _ _ _ _ _ _ _ _ _ _ _ _ _ _ _ _ _ _)
   | (with_reducible exact ih3 _ _ _ _ _ _ _ _ _ _ _ _ _ _ _ _ _ _ _ _ _ _ _ _)
   | (with_reducible exact poly_Eval.mono _ _ _ _)
   | (with_reducible exact privitylaw21_awake.mono _)
   | (with_reducible exact privitylaw21_validCase.mono _ _ _ _ _ _)
   | (with_reducible exact privitylaw21_valuesAt.mono _ _ _ _)
   | (with_reducible exact privityref06_Below.mono _ _ _ _)
   | (with_reducible exact privityref06_SameList.mono _ _ _)
   | (with_reducible exact privityref10_Unlike.mono _ _)
   | (with_reducible exact privityref10_Vanish.mono _ _ _)
   | (with_reducible exact privityref21_Moved.mono _ _ _ _ _ _ _ _ _)
   | (with_reducible exact LeO.refl _)
   | (with_reducible exact LeO.none _)
   | (with_reducible refine LeO.ite ?_ ?_)
   | (with_reducible refine LeO.bind ?_ (fun _ => ?_))
   | exact ih0 _ _ _ _ _ _ _ _ _ _ _ _ _ _
   | exact ih1 _ _ _ _ _ _ _ _ _ _ _ _ _ _
   | exact ih2 _ _ _ _ _ _ _ _ _ _ _ _ _ _ _ _ _ _ _ _ _ _ _ _
   | exact ih3 _ _ _ _ _ _ _ _ _ _ _ _ _ _ _ _ _ _ _ _ _ _ _ _
   | exact poly_Eval.mono _ _ _ _
   | exact privitylaw21_awake.mono _
   | exact privitylaw21_validCase.mono _ _ _ _ _ _
   | exact privitylaw21_valuesAt.mono _ _ _ _
   | exact privityref06_Below.mono _ _ _ _
   | exact privityref06_SameList.mono _ _ _
   | exact privityref10_Unlike.mono _ _
   | exact privityref10_Vanish.mono _ _ _
   | exact privityref21_Moved.mono _ _ _ _ _ _ _ _ _
   | exact LeO.none _
   | refine LeO.ite ?_ ?_
   | refine LeO.bind ?_ (fun _ => ?_)
def privitylaw21_ProductProofZeroKnowledge.T9 : Bool × List (List Nat × List Nat) := (true, [([], []), ([0], [0]), ([], []), ([2], [2]), ([1, 3], [1, 3]), ([], []), ([5], [5]), ([], []), ([7], [7]), ([6, 8], [6, 8]), ([4, 0, 1, 2, 3, 4], [4]), ([9, 10, 0, 1, 2, 3, 4, 5, 6, 7, 8, 9, 10], [9])])
def privitylaw21_ProductProofZeroKnowledge.B9 : List Nat := [0, 1, 0, 4, 15, 0, 32, 0, 128, 480, 31, 2047]
theorem privitylaw21_ProductProofZeroKnowledge.tab9 : rtab .any (opsOf Try.f4 9) = privitylaw21_ProductProofZeroKnowledge.T9 := by kernel_rfl
theorem privitylaw21_ProductProofZeroKnowledge.bits9 : waitsOk privitylaw21_ProductProofZeroKnowledge.T9.2 privitylaw21_ProductProofZeroKnowledge.B9 = true := by kernel_rfl
def privitylaw21_ProductProofZeroKnowledge.T20 : Bool × List (List Nat × List Nat) := (true, [([], []), ([0], [0]), ([], []), ([], []), ([1, 2, 3], [1, 2, 3]), ([], []), ([5], [5]), ([], []), ([], []), ([6, 7, 8, 4], [6, 7, 8]), ([4, 9, 9], [4, 9]), ([10], [10]), ([11, 10], [11]), ([12], [12]), ([13, 12], [12, 13]), ([12], [12]), ([12], [12]), ([14, 15, 16, 12, 12], [12, 14, 15, 16]), ([12], [12]), ([18, 12], [12, 18]), ([12], [12]), ([12], [12]), ([19, 20, 21, 17, 12], [12, 19, 20, 21]), ([17, 22, 12], [12, 17, 22]), ([12, 23], [12, 23]), ([24, 22], [24]), ([25], [25]), ([26, 25], [25, 26]), ([25], [25]), ([25], [25]), ([27, 28, 29, 25, 25], [25, 27, 28, 29]), ([25], [25]), ([31, 25], [25, 31]), ([25], [25]), ([33, 25], [25, 33]), ([25], [25]), ([32, 34, 35, 30, 25], [25, 32, 34, 35]), ([30, 36, 25], [25, 30, 36]), ([25, 37], [25, 37]), ([38, 36], [38]), ([39], [39]), ([40, 39], [39, 40]), ([39], [39]), ([39], [39]), ([41, 42, 43, 39, 39], [39, 41, 42, 43]), ([39], [39]), ([45, 39], [39, 45]), ([39], [39]), ([47, 39], [39, 47]), ([39], [39]), ([46, 48, 49, 44, 39], [39, 46, 48, 49]), ([44, 50, 39], [39, 44, 50]), ([39, 51], [39, 51])])
def privitylaw21_ProductProofZeroKnowledge.B20 : List Nat := [0, 1, 0, 0, 15, 0, 32, 0, 0, 511, 1023, 2047, 4095, 8191, 16383, 8191, 8191, 131071, 8191, 270335, 8191, 8191, 4194303, 8388607, 16777215, 33554431, 67108863, 134217727, 67108863, 67108863, 1073741823, 67108863, 2214592511, 67108863, 8657043455, 67108863, 68719476735, 137438953471, 274877906943, 549755813887, 1099511627775, 2199023255551, 1099511627775, 1099511627775, 17592186044415, 1099511627775, 36283883716607, 1099511627775, 141836999983103, 1099511627775, 1125899906842623, 2251799813685247, 4503599627370495]
theorem privitylaw21_ProductProofZeroKnowledge.tab20 : rtab .any (opsOf Try.f4 20) = privitylaw21_ProductProofZeroKnowledge.T20 := by kernel_rfl
theorem privitylaw21_ProductProofZeroKnowledge.bits20 : waitsOk privitylaw21_ProductProofZeroKnowledge.T20.2 privitylaw21_ProductProofZeroKnowledge.B20 = true := by kernel_rfl
def privitylaw21_ProductProofZeroKnowledge.T22 : Bool × List (List Nat × List Nat) := (true, [([], []), ([0], [0]), ([], []), ([2], [2]), ([], []), ([], []), ([], []), ([], []), ([], []), ([8], [8]), ([], []), ([9, 10], [9, 10]), ([], []), ([12], [12]), ([], []), ([13, 14, 11], [13, 14]), ([1, 3, 4, 5, 6, 7, 11, 15, 15], [1, 3, 4, 5, 6, 7, 11, 15]), ([16], [16]), ([17], [17]), ([17], [17]), ([17], [17]), ([18, 16, 0, 1, 2, 3, 4, 5, 6, 7, 8, 9, 10, 11, 12, 13, 14, 15, 16, 17, 18], [18]), ([19, 21, 0, 1, 2, 3, 4, 5, 6, 7, 8, 9, 10, 11, 12, 13, 14, 15, 16, 17, 18, 19, 21], [19]), ([20, 22, 0, 1, 2, 3, 4, 5, 6, 7, 8, 9, 10, 11, 12, 13, 14, 15, 16, 17, 18, 19, 20, 21, 22], [20])])
def privitylaw21_ProductProofZeroKnowledge.B22 : List Nat := [0, 1, 0, 4, 0, 0, 0, 0, 0, 256, 0, 1792, 0, 4096, 0, 32512, 65535, 131071, 262143, 262143, 262143, 524287, 3145727, 8388607]
theorem privitylaw21_ProductProofZeroKnowledge.tab22 : rtab .any (opsOf Try.f4 22) = privitylaw21_ProductProofZeroKnowledge.T22 := by kernel_rfl
theorem privitylaw21_ProductProofZeroKnowledge.bits22 : waitsOk privitylaw21_ProductProofZeroKnowledge.T22.2 privitylaw21_ProductProofZeroKnowledge.B22 = true := by kernel_rfl
def privitylaw21_ProductProofZeroKnowledge.T23 : Bool × List (List Nat × List Nat) := (true, [([], []), ([0], [0]), ([], []), ([2], [2]), ([], []), ([4], [4]), ([5], [5]), ([6], [6]), ([], []), ([3, 7, 8], [3, 7, 8]), ([], []), ([10], [10]), ([], []), ([12], [12]), ([13], [13]), ([14], [14]), ([], []), ([11, 15, 16, 9], [11, 15, 16]), ([1, 9, 17, 17], [1, 9, 17]), ([18, 18, 0, 1, 2, 3, 4, 5, 6, 7, 8, 9, 10, 11, 12, 13, 14, 15, 16, 17, 18], [18])])
def privitylaw21_ProductProofZeroKnowledge.B23 : List Nat := [0, 1, 0, 4, 0, 16, 48, 112, 0, 508, 0, 1024, 0, 4096, 12288, 28672, 0, 131068, 262143, 524287]
theorem privitylaw21_ProductProofZeroKnowledge.tab23 : rtab .any (opsOf Try.f4 23) = privitylaw21_ProductProofZeroKnowledge.T23 := by kernel_rfl
theorem privitylaw21_ProductProofZeroKnowledge.bits23 : waitsOk privitylaw21_ProductProofZeroKnowledge.T23.2 privitylaw21_ProductProofZeroKnowledge.B23 = true := by kernel_rfl
end Go.Proofs.Ytkcjhcjlaefgmaa.Q
