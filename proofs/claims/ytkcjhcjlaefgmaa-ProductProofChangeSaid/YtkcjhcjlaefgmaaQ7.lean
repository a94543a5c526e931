/- Functions of the program as plain Lean functions, each with a proof that its call does what the function says; written by a program of this session. -/
import Derived.Test.YtkcjhcjlaefgmaaQ0
import Derived.Test.YtkcjhcjlaefgmaaBase
import Derived.Test.YtkcjhcjlaefgmaaMul
import Derived.Test.YtkcjhcjlaefgmaaProve
import Derived.Test.YtkcjhcjlaefgmaaQ1
import Derived.Test.YtkcjhcjlaefgmaaQ2
import Derived.Test.YtkcjhcjlaefgmaaQ3
import Derived.Test.YtkcjhcjlaefgmaaQ6
namespace Go.Proofs.Ytkcjhcjlaefgmaa.Q
open Go.RowKit Go.Proofs.YtkcjhcjlaefgmaaW.PrintWords Go.Proofs.YtkcjhcjlaefgmaaW.PrintLast Go.Proofs.YtkcjhcjlaefgmaaW.PrintMore
attribute [local go_sem] max2_int min2_int max_two min_two max_three min_three max_four min_four   -- for this text's walks alone
set_option linter.unusedVariables false
set_option linter.unusedSimpArgs false

/-! ### privitylaw21_ProductProofChange: function 7 -/
mutual
def privitylaw21_ProductProofChange.j0 : Nat → Bool → Int → Int → List Int → List Int → List Int → List Int → Int → Int → Int → Int → List Int → List Int → List Int → Option (Bool)
 | 0, _, _, _, _, _, _, _, _, _, _, _, _, _, _ => none
 | k + 1, x43, x304000, x304001, x304002, x304003, x304004, x304005, x304006, x304007, x305000, x305001, x305002, x305003, x305004 => if x43 = true then ((privitylaw21_awake.f k).bind fun t308 => (some t308)) else (privitylaw21_ProductProofChange.l0 k 0 x304000 x304001 x304002 x304003 x304004 x304005 x304006 x304007 x305000 x305001 x305002 x305003 x305004)
def privitylaw21_ProductProofChange.l0 : Nat → Int → Int → Int → List Int → List Int → List Int → List Int → Int → Int → Int → Int → List Int → List Int → List Int → Option (Bool)
 | 0, _, _, _, _, _, _, _, _, _, _, _, _, _, _ => none
 | k + 1, x4, x304000, x304001, x304002, x304003, x304004, x304005, x304006, x304007, x305000, x305001, x305002, x305003, x305004 => if x4 < (x304005.length : Int) then (if 0 ≤ x4 then (if (rd x304005 x4) = 0 then ((privitylaw21_awake.f k).bind fun t310 => (some t310)) else (privitylaw21_ProductProofChange.l0 k (wrap64 (x4 + 1)) x304000 x304001 x304002 x304003 x304004 x304005 x304006 x304007 x305000 x305001 x305002 x305003 x305004)) else (none)) else (if x305000 = 0 then (none) else ((privityref10_Vanish.f k x305000 x304005).bind fun t311 => ((privityref21_Moved.f k x305000 x305001 x305002 x305003 x305004 t311 (Int.tmod x304006 x305000) (Int.tmod x304007 x305000)).bind fun bt314 => ((productproof_Prove.f x305000 x305001 x305002 x305003 x305004).bind fun bt323 => ((productproof_Prove.f x305000 x305001 bt314.1 bt314.2.1 bt314.2.2).bind fun bt329 => ((poly_Scale.f k x305000 (Int.tmod x304006 x305000) x305003).bind fun t335 => ((poly_Scale.f k x305000 (Int.tmod x304007 x305000) x305002).bind fun t338 => ((poly_Add.f x305000 t335 t338).bind fun t341 => ((field_Mul.f x305000 (Int.tmod x304006 x305000) (Int.tmod x304007 x305000)).bind fun t344 => ((poly_Scale.f k x305000 t344 t311).bind fun t345 => ((poly_Add.f x305000 t341 t345).bind fun t348 => (if (bt323.1.length : Int) = x305001 then (privitylaw21_ProductProofChange.j2 k t311 bt323.1 bt323.2 bt329.1 bt329.2 t348 ((bt329.1.length : Int) != x305001) x305000 x305001 x305002 x305003 x305004) else (privitylaw21_ProductProofChange.j2 k t311 bt323.1 bt323.2 bt329.1 bt329.2 t348 true x305000 x305001 x305002 x305003 x305004)))))))))))))
def privitylaw21_ProductProofChange.j2 : Nat → List Int → List (List Int) → List Int → List (List Int) → List Int → List Int → Bool → Int → Int → List Int → List Int → List Int → Option (Bool)
 | 0, _, _, _, _, _, _, _, _, _, _, _, _ => none
 | k + 1, x7, x11, x12, x13, x14, x15, x155, x305000, x305001, x305002, x305003, x305004 => if x155 = true then (none) else (privitylaw21_ProductProofChange.l1 k x7 x11 x12 x13 x14 x15 1 x305000 x305001 x305002 x305003 x305004)
def privitylaw21_ProductProofChange.l1 : Nat → List Int → List (List Int) → List Int → List (List Int) → List Int → List Int → Int → Int → Int → List Int → List Int → List Int → Option (Bool)
 | 0, _, _, _, _, _, _, _, _, _, _, _, _ => none
 | k + 1, x7, x11, x12, x13, x14, x15, x16, x305000, x305001, x305002, x305003, x305004 => if x16 ≤ x305001 then (if 0 ≤ (wrap64 (x16 - 1)) then (if (wrap64 (x16 - 1)) < (x13.length : Int) then ((poly_Trim.f (rd_L2 x13 (wrap64 (x16 - 1)))).bind fun t352 => (if (wrap64 (x16 - 1)) < (x11.length : Int) then ((poly_Coefficient.f x15 x16).bind fun t356 => ((poly_Scale.f k x305000 t356 x7).bind fun t357 => ((poly_Add.f x305000 (rd_L2 x11 (wrap64 (x16 - 1))) t357).bind fun t360 => ((privityref06_SameList.f k t352 t360).bind fun t363 => (if t363 = true then (privitylaw21_ProductProofChange.l1 k x7 x11 x12 x13 x14 x15 (wrap64 (x16 + 1)) x305000 x305001 x305002 x305003 x305004) else (none)))))) else (none))) else (none)) else (none)) else ((privitylaw21_awake.f k).bind fun t364 => (if t364 = true then ((poly_Trim.f x14).bind fun t365 => ((poly_Coefficient.f x15 0).bind fun t368 => ((poly_Scale.f k x305000 t368 x7).bind fun t369 => ((poly_Add.f x305000 x12 t369).bind fun t372 => ((privityref06_SameList.f k t365 t372).bind fun t375 => (some t375)))))) else (none)))
end
def privitylaw21_ProductProofChange.f (k : Nat) (a0_0 : Int) (a0_1 : Int) (l0_2 : List Int) (l0_3 : List Int) (l0_4 : List Int) (l0_5 : List Int) (a0_6 : Int) (a0_7 : Int) : Option (Bool) := (privitylaw21_validCase.f k a0_0 a0_1 l0_2 l0_3 l0_4).bind fun t305 => (if t305 = true then (if (l0_5.length : Int) = a0_1 then ((privityref06_Below.f k a0_0 l0_5 4).bind fun t306 => (if t306 = true then ((privityref10_Unlike.f k l0_5).bind fun t307 => (privitylaw21_ProductProofChange.j0 k (!t307) a0_0 a0_1 l0_2 l0_3 l0_4 l0_5 a0_6 a0_7 a0_0 a0_1 l0_2 l0_3 l0_4)) else (privitylaw21_ProductProofChange.j0 k true a0_0 a0_1 l0_2 l0_3 l0_4 l0_5 a0_6 a0_7 a0_0 a0_1 l0_2 l0_3 l0_4))) else (privitylaw21_ProductProofChange.j0 k true a0_0 a0_1 l0_2 l0_3 l0_4 l0_5 a0_6 a0_7 a0_0 a0_1 l0_2 l0_3 l0_4)) else (privitylaw21_ProductProofChange.j0 k true a0_0 a0_1 l0_2 l0_3 l0_4 l0_5 a0_6 a0_7 a0_0 a0_1 l0_2 l0_3 l0_4))
theorem privitylaw21_ProductProofChange.mono_l : ∀ k, (∀ y0 y1 y2 y3 y4 y5 y6 y7 y8 y9 y10 y11 y12 y13, LeO (privitylaw21_ProductProofChange.j0 k y0 y1 y2 y3 y4 y5 y6 y7 y8 y9 y10 y11 y12 y13) (privitylaw21_ProductProofChange.j0 (k + 1) y0 y1 y2 y3 y4 y5 y6 y7 y8 y9 y10 y11 y12 y13)) ∧ (∀ y0 y1 y2 y3 y4 y5 y6 y7 y8 y9 y10 y11 y12 y13, LeO (privitylaw21_ProductProofChange.l0 k y0 y1 y2 y3 y4 y5 y6 y7 y8 y9 y10 y11 y12 y13) (privitylaw21_ProductProofChange.l0 (k + 1) y0 y1 y2 y3 y4 y5 y6 y7 y8 y9 y10 y11 y12 y13)) ∧ (∀ y0 y1 y2 y3 y4 y5 y6 y7 y8 y9 y10 y11, LeO (privitylaw21_ProductProofChange.j2 k y0 y1 y2 y3 y4 y5 y6 y7 y8 y9 y10 y11) (privitylaw21_ProductProofChange.j2 (k + 1) y0 y1 y2 y3 y4 y5 y6 y7 y8 y9 y10 y11)) ∧ (∀ y0 y1 y2 y3 y4 y5 y6 y7 y8 y9 y10 y11, LeO (privitylaw21_ProductProofChange.l1 k y0 y1 y2 y3 y4 y5 y6 y7 y8 y9 y10 y11) (privitylaw21_ProductProofChange.l1 (k + 1) y0 y1 y2 y3 y4 y5 y6 y7 y8 y9 y10 y11))
 | 0 => ⟨fun _ _ _ _ _ _ _ _ _ _ _ _ _ _ r h => by simp [privitylaw21_ProductProofChange.j0] at h, fun _ _ _ _ _ _ _ _ _ _ _ _ _ _ r h => by simp [privitylaw21_ProductProofChange.l0] at h, fun _ _ _ _ _ _ _ _ _ _ _ _ r h => by simp [privitylaw21_ProductProofChange.j2] at h, fun _ _ _ _ _ _ _ _ _ _ _ _ r h => by simp [privitylaw21_ProductProofChange.l1] at h⟩
 | k + 1 => by
  obtain ⟨ih0, ih1, ih2, ih3⟩ := privitylaw21_ProductProofChange.mono_l k
  refine ⟨?_, ?_, ?_, ?_⟩
  ·intro y0 y1 y2 y3 y4 y5 y6 y7 y8 y9 y10 y11 y12 y13
   unfold privitylaw21_ProductProofChange.j0
   repeat' first
   | (with_reducible exact ih0 _ _ _ _ _ _ _ _ _ _ _ _ _ _)
   | (with_reducible exact ih1 _ _ _ _ _ _ _ _ _ _ _ _ _ _)
   | (with_reducible exact ih2 _ _ _ _ _ _ _ _ _ _ _ _)
   | (with_reducible exact ih3 _ _ _ _ _ _ _ _ _ _ _ _)
   | (with_reducible exact poly_Scale.mono _ _ _ _)
   | (with_reducible exact privitylaw21_awake.mono _)
   | (with_reducible exact privitylaw21_validCase.mono _ _ _ _ _ _)
   | (with_reducible exact privityref06_Below.mono _ _ _ _)
   | (with_reducible exact privityref06_SameList.mono _ _ _)
   | (with_reducible exact privityref10_Unlike.mono _ _)
   | (with_reducible exact privityref10_Vanish.mono _ _ _)
   | (with_reducible exact privityref21_Moved.mono _ _ _ _ _ _ _ _ _)
   | (with_reducible exact LeO.refl _)
   | (with_reducible exact LeO.none _)
   | (with_reducible refine LeO.ite ?_ ?_)
   | (with_reducible refine LeO.bind ?_ (fun _ => ?_))
   | exact ih0 _ _ _ _ _ _ _ _ _ _ _ _ _ _
   | exact ih1 _ _ _ _ _ _ _ _ _ _ _ _ _ _
   | exact ih2 _ _ _ _ _ _ _ _ _ _ _ _
   | exact ih3 _ _ _ _ _ _ _ _ _ _ _ _
   | exact poly_Scale.mono _ _ _ _
   | exact privitylaw21_awake.mono _
   | exact privitylaw21_validCase.mono _ _ _ _ _ _
   | exact privityref06_Below.mono _ _ _ _
   | exact privityref06_SameList.mono _ _ _
   | exact privityref10_Unlike.mono _ _
   | exact privityref10_Vanish.mono _ _ _
   | exact privityref21_Moved.mono _ _ _ _ _ _ _ _ _
   | exact LeO.none _
   | refine LeO.ite ?_ ?_
   | refine LeO.bind ?_ (fun _ => ?_)
  ·intro y0 y1 y2 y3 y4 y5 y6 y7 y8 y9 y10 y11 y12 y13
   unfold privitylaw21_ProductProofChange.l0
   repeat' first
   | (with_reducible exact ih0 _ _ _ _ _ _ _ _ _ _ _ _ _ _)
   | (with_reducible exact ih1 _ _ _ _ _ _ _ _ _ _ _ _ _ _)
   | (with_reducible exact ih2 _ _ _ _ _ _ _ _ _ _ _ _)
   | (with_reducible exact ih3 _ _ _ _ _ _ _ _ _ _ _ _)
   | (with_reducible exact poly_Scale.mono _ _ _ _)
   | (with_reducible exact privitylaw21_awake.mono _)
   | (with_reducible exact privitylaw21_validCase.mono _ _ _ _ _ _)
   | (with_reducible exact privityref06_Below.mono _ _ _ _)
   | (with_reducible exact privityref06_SameList.mono _ _ _)
   | (with_reducible exact privityref10_Unlike.mono _ _)
   | (with_reducible exact privityref10_Vanish.mono _ _ _)
   | (with_reducible exact privityref21_Moved.mono _ _ _ _ _ _ _ _ _)
   | (with_reducible exact LeO.refl _)
   | (with_reducible exact LeO.none _)
   | (with_reducible refine LeO.ite ?_ ?_)
   | (with_reducible refine LeO.bind ?_ (fun _ => ?_))
   | exact ih0 _ _ _ _ _ _ _ _ _ _ _ _ _ _
   | exact ih1 _ _ _ _ _ _ _ _ _ _ _ _ _ _
   | exact ih2 _ _ _ _ _ _ _ _ _ _ _ _
   | exact ih3 _ _ _ _ _ _ _ _ _ _ _ _
   | exact poly_Scale.mono _ _ _ _
   | exact privitylaw21_awake.mono _
   | exact privitylaw21_validCase.mono _ _ _ _ _ _
   | exact privityref06_Below.mono _ _ _ _
   | exact privityref06_SameList.mono _ _ _
   | exact privityref10_Unlike.mono _ _
   | exact privityref10_Vanish.mono _ _ _
   | exact privityref21_Moved.mono _ _ _ _ _ _ _ _ _
   | exact LeO.none _
   | refine LeO.ite ?_ ?_
   | refine LeO.bind ?_ (fun _ => ?_)
  ·intro y0 y1 y2 y3 y4 y5 y6 y7 y8 y9 y10 y11
   unfold privitylaw21_ProductProofChange.j2
   repeat' first
   | (with_reducible exact ih0 _ _ _ _ _ _ _ _ _ _ _ _ _ _)
   | (with_reducible exact ih1 _ _ _ _ _ _ _ _ _ _ _ _ _ _)
   | (with_reducible exact ih2 _ _ _ _ _ _ _ _ _ _ _ _)
   | (with_reducible exact ih3 _ _ _ _ _ _ _ _ _ _ _ _)
   | (with_reducible exact poly_Scale.mono _ _ _ _)
   | (with_reducible exact privitylaw21_awake.mono _)
   | (with_reducible exact privitylaw21_validCase.mono _ _ _ _ _ _)
   | (with_reducible exact privityref06_Below.mono _ _ _ _)
   | (with_reducible exact privityref06_SameList.mono _ _ _)
   | (with_reducible exact privityref10_Unlike.mono _ _)
   | (with_reducible exact privityref10_Vanish.mono _ _ _)
   | (with_reducible exact privityref21_Moved.mono _ _ _ _ _ _ _ _ _)
   | (with_reducible exact LeO.refl _)
   | (with_reducible exact LeO.none _)
   | (with_reducible refine LeO.ite ?_ ?_)
   | (with_reducible refine LeO.bind ?_ (fun _ => ?_))
   | exact ih0 _ _ _ _ _ _ _ _ _ _ _ _ _ _
   | exact ih1 _ _ _ _ _ _ _ _ _ _ _ _ _ _
   | exact ih2 _ _ _ _ _ _ _ _ _ _ _ _
   | exact ih3 _ _ _ _ _ _ _ _ _ _ _ _
   | exact poly_Scale.mono _ _ _ _
   | exact privitylaw21_awake.mono _
   | exact privitylaw21_validCase.mono _ _ _ _ _ _
   | exact privityref06_Below.mono _ _ _ _
   | exact privityref06_SameList.mono _ _ _
   | exact privityref10_Unlike.mono _ _
   | exact privityref10_Vanish.mono _ _ _
   | exact privityref21_Moved.mono _ _ _ _ _ _ _ _ _
   | exact LeO.none _
   | refine LeO.ite ?_ ?_
   | refine LeO.bind ?_ (fun _ => ?_)
  ·intro y0 y1 y2 y3 y4 y5 y6 y7 y8 y9 y10 y11
   unfold privitylaw21_ProductProofChange.l1
   repeat' first
   | (with_reducible exact ih0 _ _ _ _ _ _ _ _ _ _ _ _ _ _)
   | (with_reducible exact ih1 _ _ _ _ _ _ _ _ _ _ _ _ _ _)
   | (with_reducible exact ih2 _ _ _ _ _ _ _ _ _ _ _ _)
   | (with_reducible exact ih3 _ _ _ _ _ _ _ _ _ _ _ _)
   | (with_reducible exact poly_Scale.mono _ _ _ _)
   | (with_reducible exact privitylaw21_awake.mono _)
   | (with_reducible exact privitylaw21_validCase.mono _ _ _ _ _ _)
   | (with_reducible exact privityref06_Below.mono _ _ _ _)
   | (with_reducible exact privityref06_SameList.mono _ _ _)
   | (with_reducible exact privityref10_Unlike.mono _ _)
   | (with_reducible exact privityref10_Vanish.mono _ _ _)
   | (with_reducible exact privityref21_Moved.mono _ _ _ _ _ _ _ _ _)
   | (with_reducible exact LeO.refl _)
   | (with_reducible exact LeO.none _)
   | (with_reducible refine LeO.ite ?_ ?_)
   | (with_reducible refine LeO.bind ?_ (fun _ => ?_))
   | exact ih0 _ _ _ _ _ _ _ _ _ _ _ _ _ _
   | exact ih1 _ _ _ _ _ _ _ _ _ _ _ _ _ _
   | exact ih2 _ _ _ _ _ _ _ _ _ _ _ _
   | exact ih3 _ _ _ _ _ _ _ _ _ _ _ _
   | exact poly_Scale.mono _ _ _ _
   | exact privitylaw21_awake.mono _
   | exact privitylaw21_validCase.mono _ _ _ _ _ _
   | exact privityref06_Below.mono _ _ _ _
   | exact privityref06_SameList.mono _ _ _
   | exact privityref10_Unlike.mono _ _
   | exact privityref10_Vanish.mono _ _ _
   | exact privityref21_Moved.mono _ _ _ _ _ _ _ _ _
   | exact LeO.none _
   | refine LeO.ite ?_ ?_
   | refine LeO.bind ?_ (fun _ => ?_)
theorem privitylaw21_ProductProofChange.mono : ∀ a0 a1 a2 a3 a4 a5 a6 a7 k, LeO (privitylaw21_ProductProofChange.f k a0 a1 a2 a3 a4 a5 a6 a7) (privitylaw21_ProductProofChange.f (k + 1) a0 a1 a2 a3 a4 a5 a6 a7) := by
 intro a0 a1 a2 a3 a4 a5 a6 a7 k
 obtain ⟨ih0, ih1, ih2, ih3⟩ := privitylaw21_ProductProofChange.mono_l k
 unfold privitylaw21_ProductProofChange.f
 repeat' first
   | (with_reducible exact ih0 _ _ _ _ _ _ _ _ _ _ _ _ _ _)
   | (with_reducible exact ih1 _ _ _ _ _ _ _ _ _ _ _ _ _ _)
   | (with_reducible exact ih2 _ _ _ _ _ _ _ _ _ _ _ _)
   | (with_reducible exact ih3 _ _ _ _ _ _ _ _ _ _ _ _)
   | (with_reducible exact poly_Scale.mono _ _ _ _)
   | (with_reducible exact privitylaw21_awake.mono _)
   | (with_reducible exact privitylaw21_validCase.mono _ _ _ _ _ _)
   | (with_reducible exact privityref06_Below.mono _ _ _ _)
   | (with_reducible exact privityref06_SameList.mono _ _ _)
   | (with_reducible exact privityref10_Unlike.mono _ _)
   | (with_reducible exact privityref10_Vanish.mono _ _ _)
   | (with_reducible exact privityref21_Moved.mono _ _ _ _ _ _ _ _ _)
   | (with_reducible exact LeO.refl _)
   | (with_reducible exact LeO.none _)
   | (with_reducible refine LeO.ite ?_ ?_)
   | (with_reducible refine LeO.bind ?_ (fun _ => ?_))
   | exact ih0 _ _ _ _ _ _ _ _ _ _ _ _ _ _
   | exact ih1 _ _ _ _ _ _ _ _ _ _ _ _ _ _
   | exact ih2 _ _ _ _ _ _ _ _ _ _ _ _
   | exact ih3 _ _ _ _ _ _ _ _ _ _ _ _
   | exact poly_Scale.mono _ _ _ _
   | exact privitylaw21_awake.mono _
   | exact privitylaw21_validCase.mono _ _ _ _ _ _
   | exact privityref06_Below.mono _ _ _ _
   | exact privityref06_SameList.mono _ _ _
   | exact privityref10_Unlike.mono _ _
   | exact privityref10_Vanish.mono _ _ _
   | exact privityref21_Moved.mono _ _ _ _ _ _ _ _ _
   | exact LeO.none _
   | refine LeO.ite ?_ ?_
   | refine LeO.bind ?_ (fun _ => ?_)
def privitylaw21_ProductProofChange.T9 : Bool × List (List Nat × List Nat) := (true, [([], []), ([0], [0]), ([], []), ([2], [2]), ([1, 3], [1, 3]), ([], []), ([5], [5]), ([], []), ([7], [7]), ([6, 8], [6, 8]), ([4, 0, 1, 2, 3, 4], [4]), ([9, 10, 0, 1, 2, 3, 4, 5, 6, 7, 8, 9, 10], [9])])
def privitylaw21_ProductProofChange.B9 : List Nat := [0, 1, 0, 4, 15, 0, 32, 0, 128, 480, 31, 2047]
theorem privitylaw21_ProductProofChange.tab9 : rtab .any (opsOf Try.f7 9) = privitylaw21_ProductProofChange.T9 := by kernel_rfl
theorem privitylaw21_ProductProofChange.bits9 : waitsOk privitylaw21_ProductProofChange.T9.2 privitylaw21_ProductProofChange.B9 = true := by kernel_rfl
def privitylaw21_ProductProofChange.T14 : Bool × List (List Nat × List Nat) := (true, [([], []), ([0], [0]), ([], []), ([2], [2]), ([], []), ([4], [4]), ([], []), ([], []), ([7], [7]), ([5, 6, 8], [5, 6, 8]), ([], []), ([10], [10]), ([], []), ([], []), ([13], [13]), ([11, 12, 14, 9], [11, 12, 14]), ([3, 9, 15, 15], [3, 9, 15]), ([], []), ([17], [17]), ([], []), ([19], [19]), ([], []), ([], []), ([20, 21, 22, 16], [20, 21, 22]), ([], []), ([18, 23, 24, 23], [18, 23, 24]), ([1, 16, 25, 25], [1, 16, 25]), ([26, 26, 0, 1, 2, 3, 4, 5, 6, 7, 8, 9, 10, 11, 12, 13, 14, 15, 16, 17, 18, 19, 20, 21, 22, 23, 24, 25, 26], [26])])
def privitylaw21_ProductProofChange.B14 : List Nat := [0, 1, 0, 4, 0, 16, 0, 0, 128, 496, 0, 1024, 0, 0, 8192, 32752, 65532, 0, 131072, 0, 524288, 0, 0, 7995388, 0, 33554428, 67108863, 134217727]
theorem privitylaw21_ProductProofChange.tab14 : rtab .any (opsOf Try.f7 14) = privitylaw21_ProductProofChange.T14 := by kernel_rfl
theorem privitylaw21_ProductProofChange.bits14 : waitsOk privitylaw21_ProductProofChange.T14.2 privitylaw21_ProductProofChange.B14 = true := by kernel_rfl
def privitylaw21_ProductProofChange.T20 : Bool × List (List Nat × List Nat) := (true, [([], []), ([], []), ([1], [1]), ([0, 2], [0, 2]), ([3], [3]), ([4], [4]), ([], []), ([6], [6]), ([], []), ([], []), ([9], [9]), ([8, 10], [8, 10]), ([11], [11]), ([], []), ([13], [13]), ([], []), ([], []), ([15, 16, 5], [15, 16]), ([], []), ([14, 17, 18, 17], [14, 17, 18]), ([7, 12, 19, 19], [7, 12, 19]), ([5, 20, 20], [5, 20]), ([21], [21])])
def privitylaw21_ProductProofChange.B20 : List Nat := [0, 0, 2, 7, 15, 31, 0, 64, 0, 0, 512, 1792, 3840, 0, 8192, 0, 0, 98367, 0, 516159, 1048575, 2097151, 4194303]
theorem privitylaw21_ProductProofChange.tab20 : rtab .any (opsOf Try.f7 20) = privitylaw21_ProductProofChange.T20 := by kernel_rfl
theorem privitylaw21_ProductProofChange.bits20 : waitsOk privitylaw21_ProductProofChange.T20.2 privitylaw21_ProductProofChange.B20 = true := by kernel_rfl
def privitylaw21_ProductProofChange.T22 : Bool × List (List Nat × List Nat) := (true, [([], []), ([0, 0], [0]), ([1], [1]), ([2, 1, 1], [1, 2]), ([1], [1]), ([4, 1], [1, 4]), ([1], [1]), ([1], [1]), ([7, 1], [1, 7]), ([1], [1]), ([9, 3, 1], [1, 9]), ([1], [1]), ([8, 10, 11, 10, 1], [1, 8, 10, 11]), ([5, 6, 12, 12, 1], [1, 5, 6, 12]), ([3, 13, 13, 1], [1, 3, 13]), ([1, 14], [1, 14]), ([15, 14, 0, 1, 2, 3, 4, 5, 6, 7, 8, 9, 10, 11, 12, 13, 14, 15], [15])])
def privitylaw21_ProductProofChange.B22 : List Nat := [0, 1, 3, 7, 3, 19, 3, 3, 131, 3, 527, 3, 3983, 8191, 16383, 32767, 65535]
theorem privitylaw21_ProductProofChange.tab22 : rtab .any (opsOf Try.f7 22) = privitylaw21_ProductProofChange.T22 := by kernel_rfl
theorem privitylaw21_ProductProofChange.bits22 : waitsOk privitylaw21_ProductProofChange.T22.2 privitylaw21_ProductProofChange.B22 = true := by kernel_rfl
end Go.Proofs.Ytkcjhcjlaefgmaa.Q
