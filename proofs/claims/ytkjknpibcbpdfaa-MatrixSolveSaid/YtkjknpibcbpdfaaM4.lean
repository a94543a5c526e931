/- Functions of the program as plain Lean functions, each with a proof that its call does what the function says; written by a program of this session. -/
import Derived.Test.YtkjknpibcbpdfaaM0
import Derived.Test.YtkjknpibcbpdfaaBase
import Derived.Test.YtkjknpibcbpdfaaMat10
namespace Go.Proofs.Ytkjknpibcbpdfaa.M
open Go.RowKit Go.Proofs.YtkjknpibcbpdfaaW.PrintWords Go.Proofs.YtkjknpibcbpdfaaW.PrintLast Go.Proofs.YtkjknpibcbpdfaaW.PrintMore
attribute [local go_sem] max2_int min2_int max_two min_two max_three min_three max_four min_four   -- for this text's walks alone
set_option linter.unusedVariables false
set_option linter.unusedSimpArgs false

/-! ### privityref06_Reduced: function 54 -/
mutual
def privityref06_Reduced.l0 : Nat → Int → List (List Int) → Int → List (List Int) → Int → Option ((List (List Int)) × List Int × Int)
 | 0, _, _, _, _, _ => none
 | k + 1, x0, x1, x2, x9, x10 => if x10 < (x1.length : Int) then ((some (([] : List Int) : List Int)).bind fun y218 => (if 0 ≤ x10 then (if y218.length + (rd_L1 x1 x10).length < 17592186044416 then (if x9.length < 5864062014805 then (privityref06_Reduced.l0 k x0 x1 x2 (x9 ++ [(y218 ++ (rd_L1 x1 x10))]) (wrap64 (x10 + 1))) else (none)) else (none)) else (none))) else (privityref06_Reduced.l1 k x0 x2 x9 ([] : List Int) 1 0)
def privityref06_Reduced.l1 : Nat → Int → Int → List (List Int) → List Int → Int → Int → Option ((List (List Int)) × List Int × Int)
 | 0, _, _, _, _, _, _ => none
 | k + 1, x0, x2, x9, x11, x12, x13 => if x13 < x2 then (privityref06_Reduced.l2 k x0 x2 x9 x11 x12 x13 (x11.length : Int)) else (some (x9, x11, x12))
def privityref06_Reduced.j3 : Nat → Int → Int → List (List Int) → List Int → Int → Int → Int → Option ((List (List Int)) × List Int × Int)
 | 0, _, _, _, _, _, _, _ => none
 | k + 1, x0, x2, x9, x11, x12, x13, x14 => if x14 = (x9.length : Int) then (privityref06_Reduced.l1 k x0 x2 x9 x11 x12 (wrap64 (x13 + 1))) else (if x14 = (x11.length : Int) then (privityref06_Reduced.j4 k x0 x2 x9 x11 x12 x13 (x11.length : Int)) else (if 0 ≤ x14 then (if x14 < (x9.length : Int) then (if 0 ≤ (x11.length : Int) then (if (x11.length : Int) < (x9.length : Int) then ((privityref01_Sub.f x0 0 x12).bind fun t234 => (privityref06_Reduced.j4 k x0 x2 (swapL [] x9 x14 (x11.length : Int)) x11 t234 x13 (x11.length : Int))) else (none)) else (none)) else (none)) else (none)))
def privityref06_Reduced.j4 : Nat → Int → Int → List (List Int) → List Int → Int → Int → Int → Option ((List (List Int)) × List Int × Int)
 | 0, _, _, _, _, _, _, _ => none
 | k + 1, x0, x2, x9, x11, x12, x13, x15 => if 0 ≤ x15 then (if x15 < (x9.length : Int) then (if 0 ≤ x13 then (if x13 < ((rd_L1 x9 x15).length : Int) then ((privityref01_Mul.f x0 x12 (rd (rd_L1 x9 x15) x13)).bind fun t237 => ((privityref01_Inverse.f x0 (rd (rd_L1 x9 x15) x13)).bind fun bt240 => (privityref06_Reduced.l3 k x0 x2 x9 x11 t237 x13 x15 bt240.1 0))) else (none)) else (none)) else (none)) else (none)
def privityref06_Reduced.l3 : Nat → Int → Int → List (List Int) → List Int → Int → Int → Int → Int → Int → Option ((List (List Int)) × List Int × Int)
 | 0, _, _, _, _, _, _, _, _, _ => none
 | k + 1, x0, x2, x9, x11, x12, x13, x15, x16, x18 => if 0 ≤ x15 then (if x15 < (x9.length : Int) then (if x18 < ((rd_L1 x9 x15).length : Int) then (if 0 ≤ x18 then ((privityref01_Mul.f x0 (rd (rd_L1 x9 x15) x18) x16).bind fun t246 => (privityref06_Reduced.l3 k x0 x2 (x9.set (x15 : Int).toNat ((rd_L1 x9 x15).set (x18 : Int).toNat t246)) x11 x12 x13 x15 x16 (wrap64 (x18 + 1)))) else (none)) else (privityref06_Reduced.l4 k x0 x2 x9 x11 x12 x13 x15 0)) else (none)) else (none)
def privityref06_Reduced.l4 : Nat → Int → Int → List (List Int) → List Int → Int → Int → Int → Int → Option ((List (List Int)) × List Int × Int)
 | 0, _, _, _, _, _, _, _, _ => none
 | k + 1, x0, x2, x9, x11, x12, x13, x15, x19 => if x19 < (x9.length : Int) then (if 0 ≤ x19 then (if 0 ≤ x13 then (if x13 < ((rd_L1 x9 x19).length : Int) then (if x19 = x15 then (privityref06_Reduced.j7 k x0 x2 x9 x11 x12 x13 x15 x19 (rd (rd_L1 x9 x19) x13) false) else (privityref06_Reduced.j7 k x0 x2 x9 x11 x12 x13 x15 x19 (rd (rd_L1 x9 x19) x13) ((rd (rd_L1 x9 x19) x13) != 0))) else (none)) else (none)) else (none)) else (if x11.length < 17592186044416 then (privityref06_Reduced.l1 k x0 x2 x9 (x11 ++ [x13]) x12 (wrap64 (x13 + 1))) else (none))
def privityref06_Reduced.j7 : Nat → Int → Int → List (List Int) → List Int → Int → Int → Int → Int → Int → Bool → Option ((List (List Int)) × List Int × Int)
 | 0, _, _, _, _, _, _, _, _, _, _ => none
 | k + 1, x0, x2, x9, x11, x12, x13, x15, x19, x20, x152 => if x152 = true then (privityref06_Reduced.l5 k x0 x2 x9 x11 x12 x13 x15 x19 x20 0) else (privityref06_Reduced.l4 k x0 x2 x9 x11 x12 x13 x15 (wrap64 (x19 + 1)))
def privityref06_Reduced.l5 : Nat → Int → Int → List (List Int) → List Int → Int → Int → Int → Int → Int → Int → Option ((List (List Int)) × List Int × Int)
 | 0, _, _, _, _, _, _, _, _, _, _ => none
 | k + 1, x0, x2, x9, x11, x12, x13, x15, x19, x20, x21 => if 0 ≤ x19 then (if x19 < (x9.length : Int) then (if x21 < ((rd_L1 x9 x19).length : Int) then (if 0 ≤ x21 then (if 0 ≤ x15 then (if x15 < (x9.length : Int) then (if x21 < ((rd_L1 x9 x15).length : Int) then ((privityref01_Mul.f x0 x20 (rd (rd_L1 x9 x15) x21)).bind fun t261 => ((privityref01_Sub.f x0 (rd (rd_L1 x9 x19) x21) t261).bind fun t262 => (privityref06_Reduced.l5 k x0 x2 (x9.set (x19 : Int).toNat ((rd_L1 x9 x19).set (x21 : Int).toNat t262)) x11 x12 x13 x15 x19 x20 (wrap64 (x21 + 1))))) else (none)) else (none)) else (none)) else (none)) else (privityref06_Reduced.l4 k x0 x2 x9 x11 x12 x13 x15 (wrap64 (x19 + 1)))) else (none)) else (none)
def privityref06_Reduced.l2 : Nat → Int → Int → List (List Int) → List Int → Int → Int → Int → Option ((List (List Int)) × List Int × Int)
 | 0, _, _, _, _, _, _, _ => none
 | k + 1, x0, x2, x9, x11, x12, x13, x14 => if x14 < (x9.length : Int) then (if 0 ≤ x14 then (if 0 ≤ x13 then (if x13 < ((rd_L1 x9 x14).length : Int) then (if (rd (rd_L1 x9 x14) x13) = 0 then (privityref06_Reduced.l2 k x0 x2 x9 x11 x12 x13 (wrap64 (x14 + 1))) else (privityref06_Reduced.j3 k x0 x2 x9 x11 x12 x13 x14)) else (none)) else (none)) else (none)) else (privityref06_Reduced.j3 k x0 x2 x9 x11 x12 x13 x14)
end
def privityref06_Reduced.f (k : Nat) (a0 : Int) (l1 : List (List Int)) (a2 : Int) : Option ((List (List Int)) × List Int × Int) := privityref06_Reduced.l0 k a0 l1 a2 ([] : List (List Int)) 0
theorem privityref06_Reduced.mono_l : ∀ k, (∀ y0 y1 y2 y3 y4, LeO (privityref06_Reduced.l0 k y0 y1 y2 y3 y4) (privityref06_Reduced.l0 (k + 1) y0 y1 y2 y3 y4)) ∧ (∀ y0 y1 y2 y3 y4 y5, LeO (privityref06_Reduced.l1 k y0 y1 y2 y3 y4 y5) (privityref06_Reduced.l1 (k + 1) y0 y1 y2 y3 y4 y5)) ∧ (∀ y0 y1 y2 y3 y4 y5 y6, LeO (privityref06_Reduced.j3 k y0 y1 y2 y3 y4 y5 y6) (privityref06_Reduced.j3 (k + 1) y0 y1 y2 y3 y4 y5 y6)) ∧ (∀ y0 y1 y2 y3 y4 y5 y6, LeO (privityref06_Reduced.j4 k y0 y1 y2 y3 y4 y5 y6) (privityref06_Reduced.j4 (k + 1) y0 y1 y2 y3 y4 y5 y6)) ∧ (∀ y0 y1 y2 y3 y4 y5 y6 y7 y8, LeO (privityref06_Reduced.l3 k y0 y1 y2 y3 y4 y5 y6 y7 y8) (privityref06_Reduced.l3 (k + 1) y0 y1 y2 y3 y4 y5 y6 y7 y8)) ∧ (∀ y0 y1 y2 y3 y4 y5 y6 y7, LeO (privityref06_Reduced.l4 k y0 y1 y2 y3 y4 y5 y6 y7) (privityref06_Reduced.l4 (k + 1) y0 y1 y2 y3 y4 y5 y6 y7)) ∧ (∀ y0 y1 y2 y3 y4 y5 y6 y7 y8 y9, LeO (privityref06_Reduced.j7 k y0 y1 y2 y3 y4 y5 y6 y7 y8 y9) (privityref06_Reduced.j7 (k + 1) y0 y1 y2 y3 y4 y5 y6 y7 y8 y9)) ∧ (∀ y0 y1 y2 y3 y4 y5 y6 y7 y8 y9, LeO (privityref06_Reduced.l5 k y0 y1 y2 y3 y4 y5 y6 y7 y8 y9) (privityref06_Reduced.l5 (k + 1) y0 y1 y2 y3 y4 y5 y6 y7 y8 y9)) ∧ (∀ y0 y1 y2 y3 y4 y5 y6, LeO (privityref06_Reduced.l2 k y0 y1 y2 y3 y4 y5 y6) (privityref06_Reduced.l2 (k + 1) y0 y1 y2 y3 y4 y5 y6))
 | 0 => ⟨fun _ _ _ _ _ r h => by simp [privityref06_Reduced.l0] at h, fun _ _ _ _ _ _ r h => by simp [privityref06_Reduced.l1] at h, fun _ _ _ _ _ _ _ r h => by simp [privityref06_Reduced.j3] at h, fun _ _ _ _ _ _ _ r h => by simp [privityref06_Reduced.j4] at h, fun _ _ _ _ _ _ _ _ _ r h => by simp [privityref06_Reduced.l3] at h, fun _ _ _ _ _ _ _ _ r h => by simp [privityref06_Reduced.l4] at h, fun _ _ _ _ _ _ _ _ _ _ r h => by simp [privityref06_Reduced.j7] at h, fun _ _ _ _ _ _ _ _ _ _ r h => by simp [privityref06_Reduced.l5] at h, fun _ _ _ _ _ _ _ r h => by simp [privityref06_Reduced.l2] at h⟩
 | k + 1 => by
  obtain ⟨ih0, ih1, ih2, ih3, ih4, ih5, ih6, ih7, ih8⟩ := privityref06_Reduced.mono_l k
  refine ⟨?_, ?_, ?_, ?_, ?_, ?_, ?_, ?_, ?_⟩
  ·intro y0 y1 y2 y3 y4
   unfold privityref06_Reduced.l0
   repeat' first
   | (with_reducible exact ih0 _ _ _ _ _)
   | (with_reducible exact ih1 _ _ _ _ _ _)
   | (with_reducible exact ih2 _ _ _ _ _ _ _)
   | (with_reducible exact ih3 _ _ _ _ _ _ _)
   | (with_reducible exact ih4 _ _ _ _ _ _ _ _ _)
   | (with_reducible exact ih5 _ _ _ _ _ _ _ _)
   | (with_reducible exact ih6 _ _ _ _ _ _ _ _ _ _)
   | (with_reducible exact ih7 _ _ _ _ _ _ _ _ _ _)
   | (with_reducible exact ih8 _ _ _ _ _ _ _)
   | (with_reducible exact LeO.refl _)
   | (with_reducible exact LeO.none _)
   | (with_reducible refine LeO.ite ?_ ?_)
   | (with_reducible refine LeO.bind ?_ (fun _ => ?_))
   | exact ih0 _ _ _ _ _
   | exact ih1 _ _ _ _ _ _
   | exact ih2 _ _ _ _ _ _ _
   | exact ih3 _ _ _ _ _ _ _
   | exact ih4 _ _ _ _ _ _ _ _ _
   | exact ih5 _ _ _ _ _ _ _ _
   | exact ih6 _ _ _ _ _ _ _ _ _ _
   | exact ih7 _ _ _ _ _ _ _ _ _ _
   | exact ih8 _ _ _ _ _ _ _
   | exact LeO.none _
   | refine LeO.ite ?_ ?_
   | refine LeO.bind ?_ (fun _ => ?_)
  ·intro y0 y1 y2 y3 y4 y5
   unfold privityref06_Reduced.l1
   repeat' first
   | (with_reducible exact ih0 _ _ _ _ _)
   | (with_reducible exact ih1 _ _ _ _ _ _)
   | (with_reducible exact ih2 _ _ _ _ _ _ _)
   | (with_reducible exact ih3 _ _ _ _ _ _ _)
   | (with_reducible exact ih4 _ _ _ _ _ _ _ _ _)
   | (with_reducible exact ih5 _ _ _ _ _ _ _ _)
   | (with_reducible exact ih6 _ _ _ _ _ _ _ _ _ _)
   | (with_reducible exact ih7 _ _ _ _ _ _ _ _ _ _)
   | (with_reducible exact ih8 _ _ _ _ _ _ _)
   | (with_reducible exact LeO.refl _)
   | (with_reducible exact LeO.none _)
   | (with_reducible refine LeO.ite ?_ ?_)
   | (with_reducible refine LeO.bind ?_ (fun _ => ?_))
   | exact ih0 _ _ _ _ _
   | exact ih1 _ _ _ _ _ _
   | exact ih2 _ _ _ _ _ _ _
   | exact ih3 _ _ _ _ _ _ _
   | exact ih4 _ _ _ _ _ _ _ _ _
   | exact ih5 _ _ _ _ _ _ _ _
   | exact ih6 _ _ _ _ _ _ _ _ _ _
   | exact ih7 _ _ _ _ _ _ _ _ _ _
   | exact ih8 _ _ _ _ _ _ _
   | exact LeO.none _
   | refine LeO.ite ?_ ?_
   | refine LeO.bind ?_ (fun _ => ?_)
  ·intro y0 y1 y2 y3 y4 y5 y6
   unfold privityref06_Reduced.j3
   repeat' first
   | (with_reducible exact ih0 _ _ _ _ _)
   | (with_reducible exact ih1 _ _ _ _ _ _)
   | (with_reducible exact ih2 _ _ _ _ _ _ _)
   | (with_reducible exact ih3 _ _ _ _ _ _ _)
   | (with_reducible exact ih4 _ _ _ _ _ _ _ _ _)
   | (with_reducible exact ih5 _ _ _ _ _ _ _ _)
   | (with_reducible exact ih6 _ _ _ _ _ _ _ _ _ _)
   | (with_reducible exact ih7 _ _ _ _ _ _ _ _ _ _)
   | (with_reducible exact ih8 _ _ _ _ _ _ _)
   | (with_reducible exact LeO.refl _)
   | (with_reducible exact LeO.none _)
   | (with_reducible refine LeO.ite ?_ ?_)
   | (with_reducible refine LeO.bind ?_ (fun _ => ?_))
   | exact ih0 _ _ _ _ _
   | exact ih1 _ _ _ _ _ _
   | exact ih2 _ _ _ _ _ _ _
   | exact ih3 _ _ _ _ _ _ _
   | exact ih4 _ _ _ _ _ _ _ _ _
   | exact ih5 _ _ _ _ _ _ _ _
   | exact ih6 _ _ _ _ _ _ _ _ _ _
   | exact ih7 _ _ _ _ _ _ _ _ _ _
   | exact ih8 _ _ _ _ _ _ _
   | exact LeO.none _
   | refine LeO.ite ?_ ?_
   | refine LeO.bind ?_ (fun _ => ?_)
  ·intro y0 y1 y2 y3 y4 y5 y6
   unfold privityref06_Reduced.j4
   repeat' first
   | (with_reducible exact ih0 _ _ _ _ _)
   | (with_reducible exact ih1 _ _ _ _ _ _)
   | (with_reducible exact ih2 _ _ _ _ _ _ _)
   | (with_reducible exact ih3 _ _ _ _ _ _ _)
   | (with_reducible exact ih4 _ _ _ _ _ _ _ _ _)
   | (with_reducible exact ih5 _ _ _ _ _ _ _ _)
   | (with_reducible exact ih6 _ _ _ _ _ _ _ _ _ _)
   | (with_reducible exact ih7 _ _ _ _ _ _ _ _ _ _)
   | (with_reducible exact ih8 _ _ _ _ _ _ _)
   | (with_reducible exact LeO.refl _)
   | (with_reducible exact LeO.none _)
   | (with_reducible refine LeO.ite ?_ ?_)
   | (with_reducible refine LeO.bind ?_ (fun _ => ?_))
   | exact ih0 _ _ _ _ _
   | exact ih1 _ _ _ _ _ _
   | exact ih2 _ _ _ _ _ _ _
   | exact ih3 _ _ _ _ _ _ _
   | exact ih4 _ _ _ _ _ _ _ _ _
   | exact ih5 _ _ _ _ _ _ _ _
   | exact ih6 _ _ _ _ _ _ _ _ _ _
   | exact ih7 _ _ _ _ _ _ _ _ _ _
   | exact ih8 _ _ _ _ _ _ _
   | exact LeO.none _
   | refine LeO.ite ?_ ?_
   | refine LeO.bind ?_ (fun _ => ?_)
  ·intro y0 y1 y2 y3 y4 y5 y6 y7 y8
   unfold privityref06_Reduced.l3
   repeat' first
   | (with_reducible exact ih0 _ _ _ _ _)
   | (with_reducible exact ih1 _ _ _ _ _ _)
   | (with_reducible exact ih2 _ _ _ _ _ _ _)
   | (with_reducible exact ih3 _ _ _ _ _ _ _)
   | (with_reducible exact ih4 _ _ _ _ _ _ _ _ _)
   | (with_reducible exact ih5 _ _ _ _ _ _ _ _)
   | (with_reducible exact ih6 _ _ _ _ _ _ _ _ _ _)
   | (with_reducible exact ih7 _ _ _ _ _ _ _ _ _ _)
   | (with_reducible exact ih8 _ _ _ _ _ _ _)
   | (with_reducible exact LeO.refl _)
   | (with_reducible exact LeO.none _)
   | (with_reducible refine LeO.ite ?_ ?_)
   | (with_reducible refine LeO.bind ?_ (fun _ => ?_))
   | exact ih0 _ _ _ _ _
   | exact ih1 _ _ _ _ _ _
   | exact ih2 _ _ _ _ _ _ _
   | exact ih3 _ _ _ _ _ _ _
   | exact ih4 _ _ _ _ _ _ _ _ _
   | exact ih5 _ _ _ _ _ _ _ _
   | exact ih6 _ _ _ _ _ _ _ _ _ _
   | exact ih7 _ _ _ _ _ _ _ _ _ _
   | exact ih8 _ _ _ _ _ _ _
   | exact LeO.none _
   | refine LeO.ite ?_ ?_
   | refine LeO.bind ?_ (fun _ => ?_)
  ·intro y0 y1 y2 y3 y4 y5 y6 y7
   unfold privityref06_Reduced.l4
   repeat' first
   | (with_reducible exact ih0 _ _ _ _ _)
   | (with_reducible exact ih1 _ _ _ _ _ _)
   | (with_reducible exact ih2 _ _ _ _ _ _ _)
   | (with_reducible exact ih3 _ _ _ _ _ _ _)
   | (with_reducible exact ih4 _ _ _ _ _ _ _ _ _)
   | (with_reducible exact ih5 _ _ _ _ _ _ _ _)
   | (with_reducible exact ih6 _ _ _ _ _ _ _ _ _ _)
   | (with_reducible exact ih7 _ _ _ _ _ _ _ _ _ _)
   | (with_reducible exact ih8 _ _ _ _ _ _ _)
   | (with_reducible exact LeO.refl _)
   | (with_reducible exact LeO.none _)
   | (with_reducible refine LeO.ite ?_ ?_)
   | (with_reducible refine LeO.bind ?_ (fun _ => ?_))
   | exact ih0 _ _ _ _ _
   | exact ih1 _ _ _ _ _ _
   | exact ih2 _ _ _ _ _ _ _
   | exact ih3 _ _ _ _ _ _ _
   | exact ih4 _ _ _ _ _ _ _ _ _
   | exact ih5 _ _ _ _ _ _ _ _
   | exact ih6 _ _ _ _ _ _ _ _ _ _
   | exact ih7 _ _ _ _ _ _ _ _ _ _
   | exact ih8 _ _ _ _ _ _ _
   | exact LeO.none _
   | refine LeO.ite ?_ ?_
   | refine LeO.bind ?_ (fun _ => ?_)
  ·intro y0 y1 y2 y3 y4 y5 y6 y7 y8 y9
   unfold privityref06_Reduced.j7
   repeat' first
   | (with_reducible exact ih0 _ _ _ _ _)
   | (with_reducible exact ih1 _ _ _ _ _ _)
   | (with_reducible exact ih2 _ _ _ _ _ _ _)
   | (with_reducible exact ih3 _ _ _ _ _ _ _)
   | (with_reducible exact ih4 _ _ _ _ _ _ _ _ _)
   | (with_reducible exact ih5 _ _ _ _ _ _ _ _)
   | (with_reducible exact ih6 _ _ _ _ _ _ _ _ _ _)
   | (with_reducible exact ih7 _ _ _ _ _ _ _ _ _ _)
   | (with_reducible exact ih8 _ _ _ _ _ _ _)
   | (with_reducible exact LeO.refl _)
   | (with_reducible exact LeO.none _)
   | (with_reducible refine LeO.ite ?_ ?_)
   | (with_reducible refine LeO.bind ?_ (fun _ => ?_))
   | exact ih0 _ _ _ _ _
   | exact ih1 _ _ _ _ _ _
   | exact ih2 _ _ _ _ _ _ _
   | exact ih3 _ _ _ _ _ _ _
   | exact ih4 _ _ _ _ _ _ _ _ _
   | exact ih5 _ _ _ _ _ _ _ _
   | exact ih6 _ _ _ _ _ _ _ _ _ _
   | exact ih7 _ _ _ _ _ _ _ _ _ _
   | exact ih8 _ _ _ _ _ _ _
   | exact LeO.none _
   | refine LeO.ite ?_ ?_
   | refine LeO.bind ?_ (fun _ => ?_)
  ·intro y0 y1 y2 y3 y4 y5 y6 y7 y8 y9
   unfold privityref06_Reduced.l5
   repeat' first
   | (with_reducible exact ih0 _ _ _ _ _)
   | (with_reducible exact ih1 _ _ _ _ _ _)
   | (with_reducible exact ih2 _ _ _ _ _ _ _)
   | (with_reducible exact ih3 _ _ _ _ _ _ _)
   | (with_reducible exact ih4 _ _ _ _ _ _ _ _ _)
   | (with_reducible exact ih5 _ _ _ _ _ _ _ _)
   | (with_reducible exact ih6 _ _ _ _ _ _ _ _ _ _)
   | (with_reducible exact ih7 _ _ _ _ _ _ _ _ _ _)
   | (with_reducible exact ih8 _ _ _ _ _ _ _)
   | (with_reducible exact LeO.refl _)
   | (with_reducible exact LeO.none _)
   | (with_reducible refine LeO.ite ?_ ?_)
   | (with_reducible refine LeO.bind ?_ (fun _ => ?_))
   | exact ih0 _ _ _ _ _
   | exact ih1 _ _ _ _ _ _
   | exact ih2 _ _ _ _ _ _ _
   | exact ih3 _ _ _ _ _ _ _
   | exact ih4 _ _ _ _ _ _ _ _ _
   | exact ih5 _ _ _ _ _ _ _ _
   | exact ih6 _ _ _ _ _ _ _ _ _ _
   | exact ih7 _ _ _ _ _ _ _ _ _ _
   | exact ih8 _ _ _ _ _ _ _
   | exact LeO.none _
   | refine LeO.ite ?_ ?_
   | refine LeO.bind ?_ (fun _ => ?_)
  ·intro y0 y1 y2 y3 y4 y5 y6
   unfold privityref06_Reduced.l2
   repeat' first
   | (with_reducible exact ih0 _ _ _ _ _)
   | (with_reducible exact ih1 _ _ _ _ _ _)
   | (with_reducible exact ih2 _ _ _ _ _ _ _)
   | (with_reducible exact ih3 _ _ _ _ _ _ _)
   | (with_reducible exact ih4 _ _ _ _ _ _ _ _ _)
   | (with_reducible exact ih5 _ _ _ _ _ _ _ _)
   | (with_reducible exact ih6 _ _ _ _ _ _ _ _ _ _)
   | (with_reducible exact ih7 _ _ _ _ _ _ _ _ _ _)
   | (with_reducible exact ih8 _ _ _ _ _ _ _)
   | (with_reducible exact LeO.refl _)
   | (with_reducible exact LeO.none _)
   | (with_reducible refine LeO.ite ?_ ?_)
   | (with_reducible refine LeO.bind ?_ (fun _ => ?_))
   | exact ih0 _ _ _ _ _
   | exact ih1 _ _ _ _ _ _
   | exact ih2 _ _ _ _ _ _ _
   | exact ih3 _ _ _ _ _ _ _
   | exact ih4 _ _ _ _ _ _ _ _ _
   | exact ih5 _ _ _ _ _ _ _ _
   | exact ih6 _ _ _ _ _ _ _ _ _ _
   | exact ih7 _ _ _ _ _ _ _ _ _ _
   | exact ih8 _ _ _ _ _ _ _
   | exact LeO.none _
   | refine LeO.ite ?_ ?_
   | refine LeO.bind ?_ (fun _ => ?_)
theorem privityref06_Reduced.mono : ∀ a0 a1 a2 k, LeO (privityref06_Reduced.f k a0 a1 a2) (privityref06_Reduced.f (k + 1) a0 a1 a2) := by
 intro a0 a1 a2 k
 obtain ⟨ih0, ih1, ih2, ih3, ih4, ih5, ih6, ih7, ih8⟩ := privityref06_Reduced.mono_l k
 unfold privityref06_Reduced.f
 repeat' first
   | (with_reducible exact ih0 _ _ _ _ _)
   | (with_reducible exact ih1 _ _ _ _ _ _)
   | (with_reducible exact ih2 _ _ _ _ _ _ _)
   | (with_reducible exact ih3 _ _ _ _ _ _ _)
   | (with_reducible exact ih4 _ _ _ _ _ _ _ _ _)
   | (with_reducible exact ih5 _ _ _ _ _ _ _ _)
   | (with_reducible exact ih6 _ _ _ _ _ _ _ _ _ _)
   | (with_reducible exact ih7 _ _ _ _ _ _ _ _ _ _)
   | (with_reducible exact ih8 _ _ _ _ _ _ _)
   | (with_reducible exact LeO.refl _)
   | (with_reducible exact LeO.none _)
   | (with_reducible refine LeO.ite ?_ ?_)
   | (with_reducible refine LeO.bind ?_ (fun _ => ?_))
   | exact ih0 _ _ _ _ _
   | exact ih1 _ _ _ _ _ _
   | exact ih2 _ _ _ _ _ _ _
   | exact ih3 _ _ _ _ _ _ _
   | exact ih4 _ _ _ _ _ _ _ _ _
   | exact ih5 _ _ _ _ _ _ _ _
   | exact ih6 _ _ _ _ _ _ _ _ _ _
   | exact ih7 _ _ _ _ _ _ _ _ _ _
   | exact ih8 _ _ _ _ _ _ _
   | exact LeO.none _
   | refine LeO.ite ?_ ?_
   | refine LeO.bind ?_ (fun _ => ?_)
def privityref06_Reduced.T24 : Bool × List (List Nat × List Nat) := (true, [([], []), ([], []), ([0, 1], [0, 1]), ([2], [2]), ([], []), ([], []), ([], []), ([], []), ([6, 7], [6, 7]), ([8], [8]), ([], []), ([9, 10], [9, 10]), ([11], [11]), ([], []), ([5, 12, 13], [5, 12, 13]), ([3, 4, 0, 1, 2, 3, 4, 5, 6, 7, 8, 9, 10, 11, 12, 13, 14], [3, 4]), ([15, 14, 14, 0, 1, 2, 3, 4, 5, 6, 7, 8, 9, 10, 11, 12, 13, 14], [14, 15])])
def privityref06_Reduced.B24 : List Nat := [0, 0, 3, 7, 0, 0, 0, 0, 192, 448, 0, 1984, 4032, 0, 16352, 32767, 65535]
theorem privityref06_Reduced.tab24 : rtab .any (opsOf Try.f54 24) = privityref06_Reduced.T24 := by kernel_rfl
theorem privityref06_Reduced.bits24 : waitsOk privityref06_Reduced.T24.2 privityref06_Reduced.B24 = true := by kernel_rfl
def privityref06_Reduced.T33 : Bool × List (List Nat × List Nat) := (true, [([], []), ([], []), ([0, 1], [0, 1]), ([2], [2]), ([], []), ([], []), ([], []), ([], []), ([6, 7], [6, 7]), ([8], [8]), ([], []), ([9, 10], [9, 10]), ([11], [11]), ([], []), ([], []), ([], []), ([], []), ([15, 16], [15, 16]), ([17], [17]), ([], []), ([18, 19], [18, 19]), ([20], [20]), ([13, 14, 21], [13, 14, 21]), ([5, 12, 22, 22], [5, 12, 22]), ([3, 4, 0, 1, 2, 3, 4, 5, 6, 7, 8, 9, 10, 11, 12, 13, 14, 15, 16, 17, 18, 19, 20, 21, 22, 23], [3, 4]), ([24, 23, 23, 0, 1, 2, 3, 4, 5, 6, 7, 8, 9, 10, 11, 12, 13, 14, 15, 16, 17, 18, 19, 20, 21, 22, 23], [23, 24])])
def privityref06_Reduced.B33 : List Nat := [0, 0, 3, 7, 0, 0, 0, 0, 192, 448, 0, 1984, 4032, 0, 0, 0, 0, 98304, 229376, 0, 1015808, 2064384, 4186112, 8388576, 16777215, 33554431]
theorem privityref06_Reduced.tab33 : rtab .any (opsOf Try.f54 33) = privityref06_Reduced.T33 := by kernel_rfl
theorem privityref06_Reduced.bits33 : waitsOk privityref06_Reduced.T33.2 privityref06_Reduced.B33 = true := by kernel_rfl
set_option maxHeartbeats 8000000 in
set_option maxRecDepth 100000 in
theorem privityref06_Reduced.calls (k : Nat) (a0 : Int) (A1 : Option Addr) (c1 : Nat) (l1 : List (List Int)) (a2 : Int) (r1 : List (List Int)) (r2 : List Int) (r3 : Int) (w : World) (hr1 : Kd.C (Kd.slice 22 (Kd.int .u64)) w A1 l1.length l1) (hc1 : l1.length ≤ c1) (h : privityref06_Reduced.f k a0 l1 a2 = some (r1, r2, r3)) :
  Calls Try.prog 54 #[.int .u64 a0, .slice A1 l1.length c1, .int .i64 a2] w fun e w' => ∃ v0_ v1_ : Value, e = .returned (.tuple #[v0_, v1_, .int .u64 r3]) ∧ Kd.S (Kd.slice 22 (Kd.int .u64)) 32 w' w.heap.size (fun _ => True) v0_ r1 ∧ Kd.R (Kd.int .i64) 3 w' w.heap.size (fun _ => True) v1_ r2 ∧ Below w.heap.size w w' := by
 have HR1 := Aside0.mk hr1
 have HC1 := Aside0.mk hc1
 clear hr1 hc1
 have HB := Aside0.mk (Below.refl w.heap.size w)
 have H : (privityref06_Reduced.l0 k a0 l1 a2 ([] : List (List Int)) 0) = some (r1, r2, r3) := h
 clear h
 have H' := Aside0.mk H
 clear H
 go_enter Try.func54, Try.ntmps54
 go_wp2
 go_loopg [9, 10] k (fun kq v9 v10 w' => ∃ (x9_1 : List (List Int)) (x10_1 : Int), v10 = .int .i64 x10_1 ∧ Aside0 (privityref06_Reduced.l0 kq a0 l1 a2 x9_1 x10_1 = some (r1, r2, r3)) ∧ Aside0 (kq ≤ k) ∧ Aside0 (Kd.S (Kd.slice 22 (Kd.int .u64)) 32 w' w.heap.size (fun _ => True) v9 x9_1) ∧ Aside0 (Below w.heap.size w w'))
 case atStart => exact ⟨(([] : List (List Int))), (0), (by first | rfl | (simp; done) | (simp [*]; done)), H', ⟨Nat.le_refl _⟩, ⟨by first | exact Kd.S_nil _ _ _ _ _ | exact Kd.N_nil _ _ _ _ _ | exact Kd.V_nil _ _ _ _ _ | exact Kd.Q_nil _ _ _ _ _ | exact Kd.R_nil _ _ _ _ _⟩, ⟨by repeat (first | (with_reducible first | exact HB.out | apply below_alloc | apply pw_below_drewN | apply below_drew1) | exact HB.out)⟩⟩
 case round => as_aux_lemma =>
  clear H'
  try clear c1; try clear p2
  obtain ⟨x9_1, x10_1, rfl, HA, HK1, HO_9, HB⟩ := hrel
  cases gk with
  | zero => exact absurd HA.out (by simp [privityref06_Reduced.l0])
  | succ k1 =>
   have H := HA.out
   clear HA
   simp only [privityref06_Reduced.l0] at H
   by_cases c4 : x10_1 < (l1.length : Int)
   ·rw [if_pos c4] at H
    have c4b0 : decide (x10_1 < (l1.length : Int)) = true := decide_eq_true c4
    clear c4
    obtain ⟨y218, hy218⟩ : ∃ y_ : List Int, y_ = (([] : List Int)) := ⟨_, rfl⟩
    replace H : (if 0 ≤ x10_1 then (if y218.length + (rd_L1 l1 x10_1).length < 17592186044416 then (if x9_1.length < 5864062014805 then (privityref06_Reduced.l0 k1 a0 l1 a2 (x9_1 ++ [(y218 ++ (rd_L1 l1 x10_1))]) (wrap64 (x10_1 + 1))) else (none)) else (none)) else (none)) = some (r1, r2, r3) := by first | (rw [hy218]; with_reducible exact H) | (have H2_ := (Option.bind_some _ _).symm.trans H; rw [hy218]; with_reducible exact H2_) | (have H2_ := (Option.bind_some _ _).symm.trans H; with_reducible exact H2_) | with_reducible exact H | (rw [hy218]; exact H) | exact H
    have Ny218 := Aside0.mk hy218
    clear hy218
    by_cases c5 : 0 ≤ x10_1
    ·rw [if_pos c5] at H
     have c5b0 : decide (0 ≤ x10_1) = true := decide_eq_true c5
     clear c5
     by_cases c6 : y218.length + (rd_L1 l1 x10_1).length < 17592186044416
     ·rw [if_pos c6] at H
      have LMc6 := Aside0.mk c6
      clear c6
      obtain ⟨y222, hy222⟩ : ∃ y_ : List Int, y_ = (y218 ++ (rd_L1 l1 x10_1)) := ⟨_, rfl⟩
      replace H : (if x9_1.length < 5864062014805 then (privityref06_Reduced.l0 k1 a0 l1 a2 (x9_1 ++ [y222]) (wrap64 (x10_1 + 1))) else (none)) = some (r1, r2, r3) := by first | (rw [hy222]; with_reducible exact H) | (have H2_ := (Option.bind_some _ _).symm.trans H; rw [hy222]; with_reducible exact H2_) | (have H2_ := (Option.bind_some _ _).symm.trans H; with_reducible exact H2_) | with_reducible exact H | (rw [hy222]; exact H) | exact H
      have Ny222 := Aside0.mk hy222
      clear hy222
      by_cases c7 : x9_1.length < 5864062014805
      ·rw [if_pos c7] at H
       have LMc7 := Aside0.mk c7
       clear c7
       obtain ⟨y225, hy225⟩ : ∃ y_ : List (List Int), y_ = (x9_1 ++ [y222]) := ⟨_, rfl⟩
       replace H : (privityref06_Reduced.l0 k1 a0 l1 a2 y225 (wrap64 (x10_1 + 1))) = some (r1, r2, r3) := by first | (rw [hy225]; with_reducible exact H) | (have H2_ := (Option.bind_some _ _).symm.trans H; rw [hy225]; with_reducible exact H2_) | (have H2_ := (Option.bind_some _ _).symm.trans H; with_reducible exact H2_) | with_reducible exact H | (rw [hy225]; exact H) | exact H
       have Ny225 := Aside0.mk hy225
       clear hy225
       have H' := Aside0.mk H
       clear H
       go_wp2_with (first | ((with_reducible refine gate_dst (N := 29) rfl ?_); refine Kd.R_lit (Kd.int .u64) _ 22 ?hg (N := 29) ?hd (xs := ([] : List Int)) (inner := []) (ok := fun _ => True) (okp := fun _ => True) ?hr ?hp (fun _ hk => hk) trivial (Below.refl _ _) (Nat.le_refl _) (by simp) ?_; (case hd => rfl); (case hg => rfl); (case hr => first | (go_simp; done) | (go_simp; rfl)); (case hp => exact (Reps.none _ _)); intro v219 w8 ho9 hb hg_ hnew_; clear hg_ hnew_; (first | rw [← Ny218.out] at ho9 | (simp only [Int.reduceToNat] at ho9; rw [← Ny218.out] at ho9)); have n0_ := Aside0.mk (Kd.S_elder' (by (with_reducible repeat (first | apply Kd.S_alloc | apply Kd.S_drewN | apply Kd.S_drew)); exact HO_9.out) (Kd.R_base ho9) hb); have n1_ := Aside0.mk (Kd.R_lower ho9 (below_size (by repeat (first | (with_reducible first | exact HB.out | apply below_alloc | apply pw_below_drewN | apply below_drew1) | exact HB.out)))); have n2_ := Aside0.mk (below_step (by repeat (first | (with_reducible first | exact HB.out | apply below_alloc | apply pw_below_drewN | apply below_drew1) | exact HB.out)) hb); clear HO_9; clear HB; have HO_9 := n0_; have HO220 := n1_; have HB := n2_; clear n0_ n1_ n2_; clear hb ho9; have p221 : 0 ≤ (x10_1 : Int) := of_decide_eq_true (by first | (with_reducible assumption) | assumption); have q221 : x10_1 < (l1.length : Int) := of_decide_eq_true (by first | (with_reducible assumption) | assumption); obtain ⟨ad221, A221_0, c221_0, e221, hx221_0, hl221_0, hi221_0⟩ := at_L1 HR1.out x10_1 p221 q221; cases e221; replace hx221_0 := (HB.out.cell (World.block_lt_of_cell? w _ hx221_0)).trans hx221_0; have HR221_0 := Aside0.mk hi221_0; have HC221_0 := Aside0.mk hl221_0; clear hi221_0 hl221_0; replace p221 := eq_true p221; replace q221 := eq_true q221) | ((with_reducible refine gate_builtin (b := .append) (xs := #[.tmp 29, .tmp 33]) rfl ?_); at_builtin; refine Kd.R_append_rows (Kd.int .u64) (w0 := w) w.heap.size rfl (.tmp 29) (.tmp 33) 32 22 (.int .u64 0) 8 rfl Try.underlying32 info22 rfl (by decide) (by omega) v219 y218 (rd_L1 l1 x10_1) _ _ _ (fun _ => True) (fun _ => False) rfl rfl ?aO ?aR (fun _ _ h => h) (fun _ h => h.elim) ?aF ?aB ?aS ?aL ?_; (case aR => repeat (first | exact (Kd.C_below HR221_0.out HB.out) | (with_reducible refine Kd.C_alloc ?_ _) | (with_reducible refine Kd.C_drewN ?_ _) | (with_reducible refine Kd.C_drew ?_))); (case aB => exact (by repeat (first | (with_reducible first | exact HB.out | apply below_alloc | apply pw_below_drewN | apply below_drew1) | exact HB.out))); (case aF => exact (fun _ _ => trivial)); (case aO => exact (by (with_reducible repeat (first | apply Kd.R_alloc | apply Kd.R_drewN | apply Kd.R_drew)); exact HO220.out)); (case aS => exact (below_size (by repeat (first | (with_reducible first | exact HB.out | apply below_alloc | apply pw_below_drewN | apply below_drew1) | exact HB.out)))); (case aL => have := LMc6.out; omega); intro v223 w10 ho hb hg hat; rw [← Ny222.out] at ho; have n0_ := Aside0.mk (Kd.S_after (ok := (fun _ => True)) (by (with_reducible repeat (first | apply Kd.S_alloc | apply Kd.S_drewN | apply Kd.S_drew)); exact HO_9.out) hg hat); have n1_ := Aside0.mk (hb); have n2_ := Aside0.mk (ho); clear HO_9; clear HB; clear HO220; have HO_9 := n0_; have HB := n1_; have HO224 := n2_; clear n0_ n1_ n2_; clear ho hb hg hat; obtain ⟨Ao12, co12, eo12⟩ := Kd.R_slice HO224.out; subst eo12) | ((with_reducible refine gate_builtin (b := .append) (xs := #[.tmp 28, .tmp 35]) rfl ?_); at_builtin; refine Kd.S_append (Kd.slice 22 (Kd.int .u64)) (w0 := w) w.heap.size rfl (.tmp 28) (.tmp 35) 23 32 (.slice none 0 0) 24 rfl Try.underlying23 info32 rfl (by decide) (by omega) u9 x9_1 y222 [.slice Ao12 y222.length co12] (fun _ => True) (fun k_ => some k_ = (.slice Ao12 y222.length co12 : Value).ownBlock) rfl rfl ?aP (fun k_ hk_ => ((Kd.R_mono (ok' := fun k_ => ((fun _ => True)) k_ ∧ some k_ ≠ (u9 : Value).ownBlock) (Kd.R_apart' (HO224.out) (Kd.S_typed HO_9.out) (by decide)) (fun k_ hk => ⟨trivial, hk.2⟩))).1 k_ hk_.symm) ?aF ?aO ?aB ?aS ?aL ?_; (case aP => exact Kd.M_row (Kd.R_mono (Kd.R_tight rfl (Kd.R_mono (ok' := fun k_ => ((fun _ => True)) k_ ∧ some k_ ≠ (u9 : Value).ownBlock) (Kd.R_apart' (HO224.out) (Kd.S_typed HO_9.out) (by decide)) (fun k_ hk => ⟨trivial, hk.2⟩))) (fun _ h_ => h_))); (case aB => exact (by repeat (first | (with_reducible first | exact HB.out | apply below_alloc | apply pw_below_drewN | apply below_drew1) | exact HB.out))); (case aF => exact (fun _ _ => trivial)); (case aO => exact (by (with_reducible repeat (first | apply Kd.S_alloc | apply Kd.S_drewN | apply Kd.S_drew)); exact Kd.S_mono HO_9.out (fun k_ hk => ⟨trivial, fun e_ => hk.2 e_⟩))); (case aS => exact (below_size (by repeat (first | (with_reducible first | exact HB.out | apply below_alloc | apply pw_below_drewN | apply below_drew1) | exact HB.out)))); (case aL => have := LMc7.out; omega); intro v226 w11 ho hb hg hat; rw [← Ny225.out] at ho; have n0_ := Aside0.mk (hb); have n1_ := Aside0.mk (ho); clear HB; clear HO_9; clear HO224; have HB := n0_; have HO227 := n1_; clear n0_ n1_; clear ho hb hg hat))
       go_roundg k1
       case measure => have := HK1.out; omega
       case rel => exact ⟨(y225), (wrap64 (x10_1 + 1)), (by first | rfl | (simp; done) | (simp [*]; done)), H', ⟨by have := HK1.out; omega⟩, ⟨by (with_reducible repeat (first | apply Kd.S_alloc | apply Kd.S_drewN | apply Kd.S_drew)); exact HO227.out⟩, ⟨by repeat (first | (with_reducible first | exact HB.out | apply below_alloc | apply pw_below_drewN | apply below_drew1) | exact HB.out)⟩⟩
      ·rw [if_neg c7] at H
       exact absurd H (by simp)
     ·rw [if_neg c6] at H
      exact absurd H (by simp)
    ·rw [if_neg c5] at H
     exact absurd H (by simp)
   ·rw [if_neg c4] at H
    have c4b0 : decide (x10_1 < (l1.length : Int)) = false := decide_eq_false c4
    clear c4
    have H' := Aside0.mk H
    clear H
    go_wp2
    go_loopg [11, 12, 13] k1 (fun kq v11 v12 v13 w' => ∃ (x9_2 : List (List Int)) (x11_2 : List Int) (x12_2 : Int) (x13_2 : Int), v12 = .int .u64 x12_2 ∧ v13 = .int .i64 x13_2 ∧ Aside0 (privityref06_Reduced.l1 kq a0 a2 x9_2 x11_2 x12_2 x13_2 = some (r1, r2, r3)) ∧ Aside0 (kq ≤ k1) ∧ Aside0 (Kd.S (Kd.slice 22 (Kd.int .u64)) 32 w' w.heap.size (fun _ => True) u9 x9_2) ∧ Aside0 (Kd.R (Kd.int .i64) 3 w' w.heap.size (fun _ => True) v11 x11_2) ∧ Aside0 (Below w.heap.size w w'))
    case atStart => exact ⟨(x9_1), (([] : List Int)), (1), (0), (by first | rfl | (simp; done) | (simp [*]; done)), (by first | rfl | (simp; done) | (simp [*]; done)), H', ⟨Nat.le_refl _⟩, ⟨by (with_reducible repeat (first | apply Kd.S_alloc | apply Kd.S_drewN | apply Kd.S_drew)); exact HO_9.out⟩, ⟨by first | exact Kd.R_nil _ _ _ _ _ | exact Kd.N_nil _ _ _ _ _ | exact Kd.V_nil _ _ _ _ _ | exact Kd.Q_nil _ _ _ _ _ | exact Kd.S_nil _ _ _ _ _⟩, ⟨by repeat (first | (with_reducible first | exact HB.out | apply below_alloc | apply pw_below_drewN | apply below_drew1) | exact HB.out)⟩⟩
    case round => as_aux_lemma =>
     clear H'
     try clear c1; try clear c2; try clear p2; try clear q2; try clear hx2; try clear c4; try clear c4b0; try clear c5; try clear c5b0; try clear c6; try clear p6; try clear c7; try clear hx221_0; try clear p2; try clear p221; try clear q221
     obtain ⟨x9_2, x11_2, x12_2, x13_2, rfl, rfl, HA, HK2, HO_9, HO_11, HB⟩ := hrel
     cases gk with
     | zero => exact absurd HA.out (by simp [privityref06_Reduced.l1])
     | succ k2 =>
      have H := HA.out
      clear HA
      simp only [privityref06_Reduced.l1] at H
      by_cases c13 : x13_2 < a2
      ·rw [if_pos c13] at H
       have c13b0 : decide (x13_2 < a2) = true := decide_eq_true c13
       clear c13
       have HC14 := Aside0.mk H
       clear H
       obtain ⟨Ao15, co15, eo15⟩ := Kd.R_slice HO_11.out
       subst eo15
       go_upto_block 4 with (fail)
       go_cut [14] (fun v14 wc => ∃ (kq : Nat) (x14_13 : Int), v14 = .int .i64 x14_13 ∧ Aside0 (privityref06_Reduced.j3 kq a0 a2 x9_2 x11_2 x12_2 x13_2 x14_13 = some (r1, r2, r3)) ∧ Aside0 (kq ≤ k2) ∧ Aside0 (Kd.S (Kd.slice 22 (Kd.int .u64)) 32 wc w.heap.size (fun _ => True) u9 x9_2) ∧ Aside0 (Kd.R (Kd.int .i64) 3 wc w.heap.size (fun _ => True) (.slice Ao15 x11_2.length co15) x11_2) ∧ Aside0 (Below w.heap.size w wc))
       case first => as_aux_lemma =>
        have H := HC14.out
        clear HC14
        have H' := Aside0.mk H
        clear H
        go_wp2
        go_loopg [14] k2 (fun kq v14 w' => ∃ (x14_3 : Int), v14 = .int .i64 x14_3 ∧ Aside0 (privityref06_Reduced.l2 kq a0 a2 x9_2 x11_2 x12_2 x13_2 x14_3 = some (r1, r2, r3)) ∧ Aside0 (kq ≤ k2) ∧ Aside0 (Kd.S (Kd.slice 22 (Kd.int .u64)) 32 w' w.heap.size (fun _ => True) u9 x9_2) ∧ Aside0 (Kd.R (Kd.int .i64) 3 w' w.heap.size (fun _ => True) (.slice Ao15 x11_2.length co15) x11_2) ∧ Aside0 (Below w.heap.size w w'))
        case atStart => exact ⟨((x11_2.length : Int)), (by first | rfl | (simp; done) | (simp [*]; done)), H', ⟨Nat.le_refl _⟩, ⟨by (with_reducible repeat (first | apply Kd.S_alloc | apply Kd.S_drewN | apply Kd.S_drew)); exact HO_9.out⟩, ⟨by (with_reducible repeat (first | apply Kd.R_alloc | apply Kd.R_drewN | apply Kd.R_drew)); exact HO_11.out⟩, ⟨by repeat (first | (with_reducible first | exact HB.out | apply below_alloc | apply pw_below_drewN | apply below_drew1) | exact HB.out)⟩⟩
        case round => as_aux_lemma =>
         clear H'
         try clear c1; try clear c2; try clear p2; try clear q2; try clear hx2; try clear c4; try clear c4b0; try clear c5; try clear c5b0; try clear c6; try clear p6; try clear c7; try clear c13; try clear c13b0; try clear hx221_0; try clear p2; try clear p221; try clear p6; try clear q2; try clear q221
         obtain ⟨x14_3, rfl, HA, HK3, HO_9, HO_11, HB⟩ := hrel
         cases gk with
         | zero => exact absurd HA.out (by simp [privityref06_Reduced.l2])
         | succ k3 =>
          have H := HA.out
          clear HA
          simp only [privityref06_Reduced.l2] at H
          by_cases c16 : x14_3 < (x9_2.length : Int)
          ·rw [if_pos c16] at H
           have c16b0 : decide (x14_3 < (x9_2.length : Int)) = true := decide_eq_true c16
           clear c16
           (first | rw [c16b0] | (simp only [i64_w, i32_w]; rw [c16b0]) | skip)
           by_cases c17 : 0 ≤ x14_3
           ·rw [if_pos c17] at H
            have c17b0 : decide (0 ≤ x14_3) = true := decide_eq_true c17
            clear c17
            by_cases c18 : 0 ≤ x13_2
            ·rw [if_pos c18] at H
             have c18b0 : decide (0 ≤ x13_2) = true := decide_eq_true c18
             clear c18
             by_cases c19 : x13_2 < ((rd_L1 x9_2 x14_3).length : Int)
             ·rw [if_pos c19] at H
              have c19b0 : decide (x13_2 < ((rd_L1 x9_2 x14_3).length : Int)) = true := decide_eq_true c19
              clear c19
              by_cases c20 : (rd (rd_L1 x9_2 x14_3) x13_2) = 0
              ·rw [if_pos c20] at H
               have c20b0 : ((rd (rd_L1 x9_2 x14_3) x13_2) == 0) = true := beq_iff_eq.mpr c20
               have c20b1 : ((rd (rd_L1 x9_2 x14_3) x13_2) != 0) = false := bne_eq_false_iff_eq.mpr c20
               clear c20
               have H' := Aside0.mk H
               clear H
               obtain ⟨Ao21, co21, eo21⟩ := Kd.S_slice HO_9.out
               subst eo21
               have p228 : 0 ≤ (x14_3 : Int) := of_decide_eq_true (by first | (with_reducible assumption) | assumption)
               have q228 : x14_3 < (x9_2.length : Int) := of_decide_eq_true (by first | (with_reducible assumption) | assumption)
               obtain ⟨ad228, A228_0, c228_0, e228, hx228_0, hl228_0, hi228_0⟩ := at_L1 (Kd.S_reads' HO_9.out).2.2 x14_3 p228 q228
               cases e228
               obtain ⟨ce228, hce228, hMe228, hcc228⟩ := Kd.S_get HO_9.out [] x14_3 p228 (by first | exact q228 | exact of_decide_eq_true (by first | (with_reducible assumption) | assumption) | (have e_ := (Kd.S_reads' HO_9.out).1; omega))
               obtain ⟨ve228_0, rfl, ge228_0⟩ := hMe228
               have hv228_0 := hcc228 0 _ rfl
               rw [Nat.add_zero, show ((Kd.slice 22 (Kd.int .u64))).sz = 1 from rfl, Nat.mul_one] at hv228_0
               replace hv228_0 := Option.some.inj (hv228_0.symm.trans hx228_0)
               rw [hv228_0] at ge228_0
               have HL228_0 := Aside0.mk (show Kd.R (Kd.int .u64) 22 _ _ _ _ (rd_L1 x9_2 x14_3) from ge228_0)
               clear hv228_0 ge228_0
               have HX228_0 := Aside0.mk hx228_0
               clear hcc228 hce228
               have HR228_0 := Aside0.mk hi228_0
               have HC228_0 := Aside0.mk hl228_0
               clear hi228_0 hl228_0
               replace p228 := eq_true p228
               replace q228 := eq_true q228
               have p229 : 0 ≤ (x13_2 : Int) := of_decide_eq_true (by first | (with_reducible assumption) | assumption)
               have q229 : x13_2 < ((rd_L1 x9_2 x14_3).length : Int) := of_decide_eq_true (by first | (with_reducible assumption) | assumption)
               obtain ⟨ad229, e229, hx229_0⟩ := Kd.at_int (by repeat (first | (with_reducible exact HR228_0.out) | (with_reducible refine Kd.C_alloc ?_ _) | (with_reducible refine Kd.C_drewN ?_ _) | (with_reducible refine Kd.C_drew ?_) | exact HR228_0.out)) x13_2 p229 q229
               cases e229
               replace p229 := eq_true p229
               replace q229 := eq_true q229
               go_wp2
               go_roundg k3
               case measure => have := HK1.out; have := HK2.out; have := HK3.out; omega
               case rel => exact ⟨(wrap64 (x14_3 + 1)), (by first | rfl | (simp; done) | (simp [*]; done)), H', ⟨by have := HK1.out; have := HK2.out; have := HK3.out; omega⟩, ⟨by (with_reducible repeat (first | apply Kd.S_alloc | apply Kd.S_drewN | apply Kd.S_drew)); exact HO_9.out⟩, ⟨by (with_reducible repeat (first | apply Kd.R_alloc | apply Kd.R_drewN | apply Kd.R_drew)); exact HO_11.out⟩, ⟨by repeat (first | (with_reducible first | exact HB.out | apply below_alloc | apply pw_below_drewN | apply below_drew1) | exact HB.out)⟩⟩
              ·rw [if_neg c20] at H
               have c20b0 : ((rd (rd_L1 x9_2 x14_3) x13_2) == 0) = false := beq_eq_false_iff_ne.mpr c20
               have c20b1 : ((rd (rd_L1 x9_2 x14_3) x13_2) != 0) = true := bne_iff_ne.mpr c20
               have H' := Aside0.mk H
               clear H
               obtain ⟨Ao22, co22, eo22⟩ := Kd.S_slice HO_9.out
               subst eo22
               have p228 : 0 ≤ (x14_3 : Int) := of_decide_eq_true (by first | (with_reducible assumption) | assumption)
               have q228 : x14_3 < (x9_2.length : Int) := of_decide_eq_true (by first | (with_reducible assumption) | assumption)
               obtain ⟨ad228, A228_0, c228_0, e228, hx228_0, hl228_0, hi228_0⟩ := at_L1 (Kd.S_reads' HO_9.out).2.2 x14_3 p228 q228
               cases e228
               obtain ⟨ce228, hce228, hMe228, hcc228⟩ := Kd.S_get HO_9.out [] x14_3 p228 (by first | exact q228 | exact of_decide_eq_true (by first | (with_reducible assumption) | assumption) | (have e_ := (Kd.S_reads' HO_9.out).1; omega))
               obtain ⟨ve228_0, rfl, ge228_0⟩ := hMe228
               have hv228_0 := hcc228 0 _ rfl
               rw [Nat.add_zero, show ((Kd.slice 22 (Kd.int .u64))).sz = 1 from rfl, Nat.mul_one] at hv228_0
               replace hv228_0 := Option.some.inj (hv228_0.symm.trans hx228_0)
               rw [hv228_0] at ge228_0
               have HL228_0 := Aside0.mk (show Kd.R (Kd.int .u64) 22 _ _ _ _ (rd_L1 x9_2 x14_3) from ge228_0)
               clear hv228_0 ge228_0
               have HX228_0 := Aside0.mk hx228_0
               clear hcc228 hce228
               have HR228_0 := Aside0.mk hi228_0
               have HC228_0 := Aside0.mk hl228_0
               clear hi228_0 hl228_0
               replace p228 := eq_true p228
               replace q228 := eq_true q228
               have p229 : 0 ≤ (x13_2 : Int) := of_decide_eq_true (by first | (with_reducible assumption) | assumption)
               have q229 : x13_2 < ((rd_L1 x9_2 x14_3).length : Int) := of_decide_eq_true (by first | (with_reducible assumption) | assumption)
               obtain ⟨ad229, e229, hx229_0⟩ := Kd.at_int (by repeat (first | (with_reducible exact HR228_0.out) | (with_reducible refine Kd.C_alloc ?_ _) | (with_reducible refine Kd.C_drewN ?_ _) | (with_reducible refine Kd.C_drew ?_) | exact HR228_0.out)) x13_2 p229 q229
               cases e229
               replace p229 := eq_true p229
               replace q229 := eq_true q229
               go_wp2
               go_meet
               case rel => exact ⟨_, (x14_3), (by first | rfl | (simp; done) | (simp [*]; done)), H', ⟨by have := HK1.out; have := HK2.out; have := HK3.out; first | omega | exact Nat.le_refl _⟩, ⟨by (with_reducible repeat (first | apply Kd.S_alloc | apply Kd.S_drewN | apply Kd.S_drew)); exact HO_9.out⟩, ⟨by (with_reducible repeat (first | apply Kd.R_alloc | apply Kd.R_drewN | apply Kd.R_drew)); exact HO_11.out⟩, ⟨by repeat (first | (with_reducible first | exact HB.out | apply below_alloc | apply pw_below_drewN | apply below_drew1) | exact HB.out)⟩⟩
             ·rw [if_neg c19] at H
              exact absurd H (by simp)
            ·rw [if_neg c18] at H
             exact absurd H (by simp)
           ·rw [if_neg c17] at H
            exact absurd H (by simp)
          ·rw [if_neg c16] at H
           have c16b0 : decide (x14_3 < (x9_2.length : Int)) = false := decide_eq_false c16
           clear c16
           (first | rw [c16b0] | (simp only [i64_w, i32_w]; rw [c16b0]) | skip)
           have H' := Aside0.mk H
           clear H
           obtain ⟨Ao23, co23, eo23⟩ := Kd.S_slice HO_9.out
           subst eo23
           go_wp2
           go_meet
           case rel => exact ⟨_, (x14_3), (by first | rfl | (simp; done) | (simp [*]; done)), H', ⟨by have := HK1.out; have := HK2.out; have := HK3.out; first | omega | exact Nat.le_refl _⟩, ⟨by (with_reducible repeat (first | apply Kd.S_alloc | apply Kd.S_drewN | apply Kd.S_drew)); exact HO_9.out⟩, ⟨by (with_reducible repeat (first | apply Kd.R_alloc | apply Kd.R_drewN | apply Kd.R_drew)); exact HO_11.out⟩, ⟨by repeat (first | (with_reducible first | exact HB.out | apply below_alloc | apply pw_below_drewN | apply below_drew1) | exact HB.out)⟩⟩
       case rest => as_aux_lemma =>
        clear HC14
        try clear c1; try clear c2; try clear p2; try clear q2; try clear hx2; try clear c4; try clear c4b0; try clear c5; try clear c5b0; try clear c6; try clear p6; try clear c7; try clear c13; try clear c13b0; try clear c16; try clear c16b0; try clear c17; try clear c17b0; try clear c18; try clear c18b0; try clear c19; try clear c19b0; try clear c20; try clear c20b0; try clear c20b1; try clear c22; try clear p22; try clear q22; try clear hx22; try clear hx221_0; try clear hx228_0; try clear hx229_0; try clear p2; try clear p221; try clear p228; try clear p229; try clear p6; try clear q2; try clear q221; try clear q228
        try clear q229
        obtain ⟨kq, x14_13, rfl, HA, HJ13, HO_9, HO_11, HB⟩ := hcut
        cases kq with
        | zero => exact absurd HA.out (by simp [privityref06_Reduced.j3])
        | succ kj13 =>
         have H := HA.out
         clear HA
         simp only [privityref06_Reduced.j3] at H
         by_cases c24 : x14_13 = (x9_2.length : Int)
         ·rw [if_pos c24] at H
          have c24b0 : (x14_13 == (x9_2.length : Int)) = true := beq_iff_eq.mpr c24
          have c24b1 : (x14_13 != (x9_2.length : Int)) = false := bne_eq_false_iff_eq.mpr c24
          clear c24
          have H' := Aside0.mk H
          clear H
          obtain ⟨Ao25, co25, eo25⟩ := Kd.S_slice HO_9.out
          subst eo25
          go_wp2
          go_roundg kj13
          case measure => have := HK1.out; have := HK2.out; have := HJ13.out; omega
          case rel => exact ⟨(x9_2), (x11_2), (x12_2), (wrap64 (x13_2 + 1)), (by first | rfl | (simp; done) | (simp [*]; done)), (by first | rfl | (simp; done) | (simp [*]; done)), H', ⟨by have := HK1.out; have := HK2.out; have := HJ13.out; omega⟩, ⟨by (with_reducible repeat (first | apply Kd.S_alloc | apply Kd.S_drewN | apply Kd.S_drew)); exact HO_9.out⟩, ⟨by (with_reducible repeat (first | apply Kd.R_alloc | apply Kd.R_drewN | apply Kd.R_drew)); exact HO_11.out⟩, ⟨by repeat (first | (with_reducible first | exact HB.out | apply below_alloc | apply pw_below_drewN | apply below_drew1) | exact HB.out)⟩⟩
         ·rw [if_neg c24] at H
          have c24b0 : (x14_13 == (x9_2.length : Int)) = false := beq_eq_false_iff_ne.mpr c24
          have c24b1 : (x14_13 != (x9_2.length : Int)) = true := bne_iff_ne.mpr c24
          have HC26 := Aside0.mk H
          clear H
          obtain ⟨Ao27, co27, eo27⟩ := Kd.S_slice HO_9.out
          subst eo27
          go_upto_if 68 with (fail)
          go_cut [12] (fun v12 wc => ∃ (kq : Nat) (x9_25 : List (List Int)) (x12_25 : Int), v12 = .int .u64 x12_25 ∧ Aside0 (privityref06_Reduced.j4 kq a0 a2 x9_25 x11_2 x12_25 x13_2 (x11_2.length : Int) = some (r1, r2, r3)) ∧ Aside0 (kq ≤ kj13) ∧ Aside0 (Kd.S (Kd.slice 22 (Kd.int .u64)) 32 wc w.heap.size (fun _ => True) (.slice Ao27 x9_2.length co27) x9_25) ∧ Aside0 (Kd.R (Kd.int .i64) 3 wc w.heap.size (fun _ => True) (.slice Ao15 x11_2.length co15) x11_2) ∧ Aside0 (Below w.heap.size w wc))
          case first => as_aux_lemma =>
           have H := HC26.out
           clear HC26
           by_cases c28 : x14_13 = (x11_2.length : Int)
           ·rw [if_pos c28] at H
            have c28b0 : (x14_13 == (x11_2.length : Int)) = true := beq_iff_eq.mpr c28
            have c28b1 : (x14_13 != (x11_2.length : Int)) = false := bne_eq_false_iff_eq.mpr c28
            clear c28
            (first | rw [c28b0] | (simp only [i64_w, i32_w]; rw [c28b0]) | skip)
            have H' := Aside0.mk H
            clear H
            go_wp2
            go_meet
            case rel => exact ⟨_, (x9_2), (x12_2), (by first | rfl | (simp; done) | (simp [*]; done)), H', ⟨by have := HK1.out; have := HK2.out; have := HJ13.out; first | omega | exact Nat.le_refl _⟩, ⟨by (with_reducible repeat (first | apply Kd.S_alloc | apply Kd.S_drewN | apply Kd.S_drew)); exact HO_9.out⟩, ⟨by (with_reducible repeat (first | apply Kd.R_alloc | apply Kd.R_drewN | apply Kd.R_drew)); exact HO_11.out⟩, ⟨by repeat (first | (with_reducible first | exact HB.out | apply below_alloc | apply pw_below_drewN | apply below_drew1) | exact HB.out)⟩⟩
           ·rw [if_neg c28] at H
            have c28b0 : (x14_13 == (x11_2.length : Int)) = false := beq_eq_false_iff_ne.mpr c28
            have c28b1 : (x14_13 != (x11_2.length : Int)) = true := bne_iff_ne.mpr c28
            (first | rw [c28b0] | (simp only [i64_w, i32_w]; rw [c28b0]) | skip)
            by_cases c29 : 0 ≤ x14_13
            ·rw [if_pos c29] at H
             have c29b0 : decide (0 ≤ x14_13) = true := decide_eq_true c29
             clear c29
             by_cases c30 : x14_13 < (x9_2.length : Int)
             ·rw [if_pos c30] at H
              have c30b0 : decide (x14_13 < (x9_2.length : Int)) = true := decide_eq_true c30
              clear c30
              by_cases c31 : 0 ≤ (x11_2.length : Int)
              ·rw [if_pos c31] at H
               have c31b0 : decide (0 ≤ (x11_2.length : Int)) = true := decide_eq_true c31
               have c31b1 : decide (0 ≤ x11_2.length) = true := decide_eq_true (by omega)
               clear c31
               by_cases c32 : (x11_2.length : Int) < (x9_2.length : Int)
               ·rw [if_pos c32] at H
                have c32b0 : decide ((x11_2.length : Int) < (x9_2.length : Int)) = true := decide_eq_true c32
                have c32b1 : decide (x11_2.length < x9_2.length) = true := decide_eq_true (Int.ofNat_lt.mp c32)
                clear c32
                obtain ⟨y233, hy233⟩ : ∃ y_ : List (List Int), y_ = (swapL [] x9_2 x14_13 (x11_2.length : Int)) := ⟨_, rfl⟩
                replace H : ((privityref01_Sub.f a0 0 x12_2).bind fun t234 => (privityref06_Reduced.j4 kj13 a0 a2 y233 x11_2 t234 x13_2 (x11_2.length : Int))) = some (r1, r2, r3) := by first | (rw [hy233]; with_reducible exact H) | (have H2_ := (Option.bind_some _ _).symm.trans H; rw [hy233]; with_reducible exact H2_) | (have H2_ := (Option.bind_some _ _).symm.trans H; with_reducible exact H2_) | with_reducible exact H | (rw [hy233]; exact H) | exact H
                have Ny233 := Aside0.mk hy233
                clear hy233
                replace H := Option.bind_eq_some_iff.mp H
                obtain ⟨t234, A340, H⟩ := H
                replace H : (privityref06_Reduced.j4 kj13 a0 a2 y233 x11_2 t234 x13_2 (x11_2.length : Int)) = some (r1, r2, r3) := H
                have A34 := Aside0.mk A340
                clear A340
                have H' := Aside0.mk H
                clear H
                have pI : 0 ≤ (x14_13 : Int) := of_decide_eq_true (by first | (with_reducible assumption) | assumption)
                have qI : x14_13 < (x9_2.length : Int) := of_decide_eq_true (by first | (with_reducible assumption) | assumption)
                have pR : 0 ≤ (x11_2.length : Int) := Int.natCast_nonneg _
                have qR : (x11_2.length : Int) < (x9_2.length : Int) := of_decide_eq_true (by first | (with_reducible assumption) | assumption)
                have nIR : ¬ x14_13 = (x11_2.length : Int) := beq_eq_false_iff_ne.mp (by first | (with_reducible assumption) | assumption)
                obtain ⟨gq, cq, eq_, gb_, gl_, _⟩ := Kd.S_form HO_9.out (by omega)
                (first | cases eq_ | (injection eq_ with ea_ en_ ec_; (first | subst ea_ | (injection ea_ with ea_; subst ea_)); subst ec_; clear en_))
                obtain ⟨_, _, _, hMI, hccI, hfrI, _, _⟩ := Kd.S_elem HO_9.out [] (x14_13 : Int) pI qI
                obtain ⟨vI, rfl, hRI⟩ := hMI
                obtain ⟨AI, cI, rfl⟩ := Kd.R_slice hRI
                obtain ⟨_, _, _, hMR, hccR, hfrR, _, _⟩ := Kd.S_elem HO_9.out [] (x11_2.length : Int) pR qR
                obtain ⟨vR, rfl, hRR⟩ := hMR
                obtain ⟨AR, cR, rfl⟩ := Kd.R_slice hRR
                have hxI := hccI 0 _ rfl
                have hxR := hccR 0 _ rfl
                have hfI := hfrI 0
                have hfR := hfrR 0
                clear hccI hccR hfrI hfrR hRI hRR
                rw [Nat.add_zero, show ((Kd.slice 22 (Kd.int .u64))).sz = 1 from rfl, Nat.mul_one] at hxI hxR hfI hfR
                have HSW := S_swap (Kd.S_drew HO_9.out) (x14_13 : Int) (x11_2.length : Int) pI qI pR qR (show wc.drew.cell? _ = _ from hxI) (show wc.drew.cell? _ = _ from hxR)
                rw [← Ny233.out] at HSW
                rw [Int.toNat_natCast] at hxR hfR HSW
                generalize (x9_2.getD (x14_13 : Int).toNat []).length = lI at hxI HSW
                generalize (x9_2.getD x11_2.length []).length = lR at hxR HSW
                have HSW1 := Aside0.mk HSW.1
                have HSW2 := Aside0.mk HSW.2
                clear HSW
                have HP_ := Aside0.mk (Kd.R_over' (e' := 32) (Kd.R_drew HO_11.out) (Kd.S_typed (Kd.S_drew HO_9.out)) (by decide) HSW2.out)
                have HBN := Aside0.mk (((below_drew1 HB.out).setCell (p := ⟨gq, (x14_13 : Int).toNat, none⟩) gb_ (.slice AR lR cR)).setCell (p := ⟨gq, x11_2.length, none⟩) gb_ (.slice AI lI cI))
                have qRn : (x11_2.length < x9_2.length) = True := eq_true (by omega)
                have hneA : (⟨gq, x11_2.length, none⟩ : Addr) ≠ ⟨gq, (x14_13 : Int).toNat, none⟩ := by intro e_; injection e_ with _ e_; omega
                have hz1 : (wc.drew.setCell ⟨gq, (x14_13 : Int).toNat, none⟩ (.slice AR lR cR)).cell? ⟨gq, x11_2.length, none⟩ = some (.slice AR lR cR) := (World.cell?_setCell_other _ _ _ _ (by first | exact hneA | exact hneA.symm)).trans hxR
                have hz2 : (wc.drew.setCell ⟨gq, (x14_13 : Int).toNat, none⟩ (.slice AR lR cR)).frozen? ⟨gq, x11_2.length, none⟩ = false := (World.frozen?_setCell _ _ _ _).trans hfR
                have hz5 : (wc.setCell ⟨gq, (x14_13 : Int).toNat, none⟩ (.slice AR lR cR)).cell? ⟨gq, x11_2.length, none⟩ = some (.slice AR lR cR) := (World.cell?_setCell_other _ _ _ _ (by first | exact hneA | exact hneA.symm)).trans hxR
                have hz6 : wc.frozen? ⟨gq, x11_2.length, none⟩ = false := hfR
                have hz3 : wc.drew.frozen? ⟨gq, (x14_13 : Int).toNat, none⟩ = false := hfI
                have hz4 : wc.drew.cell? ⟨gq, (x14_13 : Int).toNat, none⟩ = some (.slice AI lI cI) := hxI
                clear hfI hfR
                clear HO_9 HO_11 HB
                have HO_9 := HSW1
                have HO_11 := HP_
                have HB := HBN
                clear HSW1 HSW2 HP_ HBN hneA pR qR nIR
                replace pI := eq_true pI
                replace qI := eq_true qI
                try go_wp2
                refine start_ (n := 16) (S := fun w' => w'.cell? ⟨gq, (x14_13 : Int).toNat, none⟩ = some (.slice AI lI cI) ∧ w'.cell? ⟨gq, x11_2.length, none⟩ = some (.slice AR lR cR)) (ds := [13, 15]) #[false, false, false, false, false, false, false, false, false, false, false, false, false, false, false, false] (by kernel_rfl) rfl rfl ⟨hxI, hxR⟩ (fun hHeld => ?_)
                refine pure_ (i := 0) (N := some 69) (v := ?_) (a' := ?_) #[true, false, false, false, false, false, false, false, false, false, false, false, false, false, false, false] rfl rfl (by kernel_rfl) (fun _ _ _ h => h) (Or.inl ⟨by rfl, ?_⟩) ?_ ?_; rotate_left; (intro w'; go_simp; with_reducible rfl); rotate_left; (simp only [Act.put, List.setIfInBounds_toArray, List.set_cons_zero, List.set_cons_succ, i64_w, i32_w]; rfl)
                refine pure_ (i := 1) (N := some 70) (v := ?_) (a' := ?_) #[true, true, false, false, false, false, false, false, false, false, false, false, false, false, false, false] rfl rfl (by kernel_rfl) (fun _ _ _ h => h) (Or.inl ⟨by rfl, ?_⟩) ?_ ?_; rotate_left; (intro w'; go_simp; with_reducible rfl); rotate_left; (simp only [Act.put, List.setIfInBounds_toArray, List.set_cons_zero, List.set_cons_succ, i64_w, i32_w]; rfl)
                refine pure_ (i := 2) (N := some 71) (v := ?_) (a' := ?_) #[true, true, true, false, false, false, false, false, false, false, false, false, false, false, false, false] rfl rfl (by kernel_rfl) (fun _ _ _ h => h) (Or.inl ⟨by rfl, ?_⟩) ?_ ?_; rotate_left; (intro w'; go_simp; with_reducible rfl); rotate_left; (simp only [Act.put, List.setIfInBounds_toArray, List.set_cons_zero, List.set_cons_succ, i64_w, i32_w]; rfl)
                refine pure_ (i := 3) (N := some 72) (v := ?_) (a' := ?_) #[true, true, true, true, false, false, false, false, false, false, false, false, false, false, false, false] rfl rfl (by kernel_rfl) (fun _ _ _ h => h) (Or.inl ⟨by rfl, ?_⟩) ?_ ?_; rotate_left; (intro w'; go_simp; with_reducible rfl); rotate_left; (simp only [Act.put, List.setIfInBounds_toArray, List.set_cons_zero, List.set_cons_succ, i64_w, i32_w]; rfl)
                refine pure_ (i := 4) (N := some 73) (v := ?_) (a' := ?_) #[true, true, true, true, true, false, false, false, false, false, false, false, false, false, false, false] rfl rfl (by kernel_rfl) (fun _ _ _ h => h) (Or.inl ⟨by rfl, ?_⟩) ?_ ?_; rotate_left; (intro w'; go_simp; with_reducible rfl); rotate_left; (simp only [Act.put, List.setIfInBounds_toArray, List.set_cons_zero, List.set_cons_succ, i64_w, i32_w]; rfl)
                refine pure_ (i := 5) (N := some 74) (v := ?_) (a' := ?_) #[true, true, true, true, true, true, false, false, false, false, false, false, false, false, false, false] rfl rfl (by kernel_rfl) (fun _ _ _ h => h) (Or.inl ⟨by rfl, ?_⟩) ?_ ?_; rotate_left; (intro w'; go_simp; with_reducible rfl); rotate_left; (simp only [Act.put, List.setIfInBounds_toArray, List.set_cons_zero, List.set_cons_succ, i64_w, i32_w]; rfl)
                refine pure_ (i := 8) (N := some 77) (v := ?_) (a' := ?_) #[true, true, true, true, true, true, false, false, true, false, false, false, false, false, false, false] rfl rfl (by kernel_rfl) (fun _ _ _ h => h) (Or.inl ⟨by rfl, ?_⟩) ?_ ?_; rotate_left; (intro w'; go_simp; with_reducible rfl); rotate_left; (simp only [Act.put, List.setIfInBounds_toArray, List.set_cons_zero, List.set_cons_succ, i64_w, i32_w]; rfl)
                refine pure_ (i := 9) (N := some 78) (v := ?_) (a' := ?_) #[true, true, true, true, true, true, false, false, true, true, false, false, false, false, false, false] rfl rfl (by kernel_rfl) (fun _ _ _ h => h) (Or.inl ⟨by rfl, ?_⟩) ?_ ?_; rotate_left; (intro w'; go_simp; with_reducible rfl); rotate_left; (simp only [Act.put, List.setIfInBounds_toArray, List.set_cons_zero, List.set_cons_succ, i64_w, i32_w]; rfl)
                refine pure_ (i := 6) (N := some 75) (v := ?_) (a' := ?_) #[true, true, true, true, true, true, true, false, true, true, false, false, false, false, false, false] rfl rfl (by kernel_rfl) (fun _ _ _ h => h) (Or.inl ⟨by rfl, ?_⟩) ?_ ?_; rotate_left; (intro w'; go_simp; with_reducible rfl); rotate_left; (simp only [Act.put, List.setIfInBounds_toArray, List.set_cons_zero, List.set_cons_succ, i64_w, i32_w]; rfl)
                refine pure_ (i := 10) (N := some 79) (v := ?_) (a' := ?_) #[true, true, true, true, true, true, true, false, true, true, true, false, false, false, false, false] rfl rfl (by kernel_rfl) (fun _ _ _ h => h) (Or.inl ⟨by rfl, ?_⟩) ?_ ?_; rotate_left; (intro w'; go_simp; with_reducible rfl); rotate_left; (simp only [Act.put, List.setIfInBounds_toArray, List.set_cons_zero, List.set_cons_succ, i64_w, i32_w]; rfl)
                refine take_ (i := 7) (N := some 76) (v := ?_) (a' := ?_) #[true, true, true, true, true, true, true, true, true, true, true, false, false, false, false, false] rfl rfl (by kernel_rfl) (fun _ _ _ h => h) (Or.inl ⟨by rfl, ?_⟩) hHeld ?_ ?_; rotate_left; (rintro w' ⟨s0, s1⟩; go_simp; with_reducible rfl); rotate_left; (simp only [Act.put, List.setIfInBounds_toArray, List.set_cons_zero, List.set_cons_succ, i64_w, i32_w]; rfl)
                refine take_ (i := 11) (N := some 80) (v := ?_) (a' := ?_) #[true, true, true, true, true, true, true, true, true, true, true, true, false, false, false, false] rfl rfl (by kernel_rfl) (fun _ _ _ h => h) (Or.inl ⟨by rfl, ?_⟩) hHeld ?_ ?_; rotate_left; (rintro w' ⟨s0, s1⟩; go_simp; with_reducible rfl); rotate_left; (simp only [Act.put, List.setIfInBounds_toArray, List.set_cons_zero, List.set_cons_succ, i64_w, i32_w]; rfl)
                refine pure_ (i := 12) (N := some 81) (v := ?_) (a' := ?_) #[true, true, true, true, true, true, true, true, true, true, true, true, true, false, false, false] rfl rfl (by kernel_rfl) (fun _ _ _ h => h) (Or.inl ⟨by rfl, ?_⟩) ?_ ?_; rotate_left; (intro w'; go_simp; with_reducible rfl); rotate_left; (simp only [Act.put, List.setIfInBounds_toArray, List.set_cons_zero, List.set_cons_succ, i64_w, i32_w]; rfl)
                refine last_ (i := 13) (N := none) #[true, true, true, true, true, true, true, true, true, true, true, true, true, true, false, false] rfl rfl (by kernel_rfl) (by decide) (fun K hK => ?_)
                refine skip_ (w1 := wc.drew.setCell ⟨gq, (x14_13 : Int).toNat, none⟩ (.slice AR lR cR)) (by rfl) rfl ?_ ?_
                ·go_simp
                refine hK.out _ _ ?_
                clear hK K hHeld hz3 hz4
                refine pure_ (i := 14) (N := some 82) (v := ?_) (a' := ?_) #[true, true, true, true, true, true, true, true, true, true, true, true, true, true, true, false] rfl rfl (by kernel_rfl) (fun _ _ _ h => h) (Or.inl ⟨by rfl, ?_⟩) ?_ ?_; rotate_left; (intro w'; go_simp; with_reducible rfl); rotate_left; (simp only [Act.put, List.setIfInBounds_toArray, List.set_cons_zero, List.set_cons_succ, i64_w, i32_w]; rfl)
                refine last_ (i := 15) (N := none) #[true, true, true, true, true, true, true, true, true, true, true, true, true, true, true, true] rfl rfl (by kernel_rfl) (by decide) (fun K hK => ?_)
                refine skip_ (w1 := (wc.drew.setCell ⟨gq, (x14_13 : Int).toNat, none⟩ (.slice AR lR cR)).setCell ⟨gq, x11_2.length, none⟩ (.slice AI lI cI)) (by rfl) rfl ?_ ?_
                ·go_simp
                refine hK.out _ _ ?_
                clear hK K hz1 hz2 hz5 hz6
                generalize (wc.drew.setCell ⟨gq, (x14_13 : Int).toNat, none⟩ (.slice AR lR cR)).setCell ⟨gq, x11_2.length, none⟩ (.slice AI lI cI) = wsw at HO_9 HO_11 HB ⊢
                refine done_ (by kernel_rfl) ?_
                go_wp2_with (first | ((with_reducible refine gate_callee (f := 80) rfl ?_); refine goesL_ (some 85) rfl rfl Try.func80 (by kernel_rfl) rfl #[.int .u64 a0, .int .u64 0, .int .u64 x12_2] rfl (by (try simp only [List.map_toArray, List.map_cons, List.map_nil]); first | done | rfl | (simp only [List.length_drop, List.length_take]; rfl)) ?_; (with_reducible refine (privityref01_Sub.calls a0 0 x12_2 t234 _ A34.out).mono ?_); rintro e w' ⟨rfl, ⟨nd, rfl⟩⟩; refine ⟨_, rfl, ?_⟩))
                go_meet
                case rel => exact ⟨_, (y233), (t234), (by first | rfl | (simp; done) | (simp [*]; done)), H', ⟨by have := HK1.out; have := HK2.out; have := HJ13.out; first | omega | exact Nat.le_refl _⟩, ⟨by (with_reducible repeat (first | apply Kd.S_alloc | apply Kd.S_drewN | apply Kd.S_drew)); exact HO_9.out⟩, ⟨by (with_reducible repeat (first | apply Kd.R_alloc | apply Kd.R_drewN | apply Kd.R_drew)); exact HO_11.out⟩, ⟨by repeat (first | (with_reducible first | exact HB.out | apply below_alloc | apply pw_below_drewN | apply below_drew1) | exact HB.out)⟩⟩
               ·rw [if_neg c32] at H
                exact absurd H (by simp)
              ·rw [if_neg c31] at H
               exact absurd H (by simp)
             ·rw [if_neg c30] at H
              exact absurd H (by simp)
            ·rw [if_neg c29] at H
             exact absurd H (by simp)
          case rest => as_aux_lemma =>
           clear HC26
           try clear c1; try clear c2; try clear p2; try clear q2; try clear hx2; try clear c3; try clear p3; try clear q3; try clear hx3; try clear hf3; try clear c4; try clear c4b0; try clear c5; try clear c5b0; try clear c6; try clear p6; try clear c7; try clear c8; try clear c13; try clear c13b0; try clear c16; try clear c16b0; try clear c17; try clear c17b0; try clear c18; try clear c18b0; try clear c19; try clear c19b0; try clear c20; try clear c20b0; try clear c20b1; try clear c22; try clear p22; try clear q22; try clear hx22; try clear c23; try clear p23; try clear q23; try clear hx23; try clear c24
           try clear c24b0; try clear c24b1; try clear c28; try clear c28b0; try clear c28b1; try clear c29; try clear c29b0; try clear c30; try clear c30b0; try clear c31; try clear c31b0; try clear c31b1; try clear c32; try clear c32b0; try clear c32b1; try clear p33; try clear q33; try clear hx33; try clear hf33; try clear c35; try clear q35; try clear hx221_0; try clear hx228_0; try clear hx229_0; try clear hx230_0; try clear hx33_0; try clear p2; try clear p22; try clear p221; try clear p228; try clear p229; try clear p230; try clear p33; try clear p6; try clear q2; try clear q22; try clear q221; try clear q228; try clear q229; try clear q230
           try clear q33
           obtain ⟨kq, x9_25, x12_25, rfl, HA, HJ25, HO_9, HO_11, HB⟩ := hcut
           have hl9_25 := (Kd.S_reads' HO_9.out).1
           rw [hl9_25] at HO_9
           (try simp only [hl9_25])
           (try simp only [hl9_25] at HO_11)
           cases kq with
           | zero => exact absurd HA.out (by simp [privityref06_Reduced.j4])
           | succ kj25 =>
            have H := HA.out
            clear HA
            simp only [privityref06_Reduced.j4] at H
            by_cases c37 : 0 ≤ (x11_2.length : Int)
            ·rw [if_pos c37] at H
             have c37b0 : decide (0 ≤ (x11_2.length : Int)) = true := decide_eq_true c37
             have c37b1 : decide (0 ≤ x11_2.length) = true := decide_eq_true (by omega)
             clear c37
             by_cases c38 : (x11_2.length : Int) < (x9_25.length : Int)
             ·rw [if_pos c38] at H
              have c38b0 : decide ((x11_2.length : Int) < (x9_25.length : Int)) = true := decide_eq_true c38
              have c38b1 : decide (x11_2.length < x9_25.length) = true := decide_eq_true (Int.ofNat_lt.mp c38)
              clear c38
              by_cases c39 : 0 ≤ x13_2
              ·rw [if_pos c39] at H
               have c39b0 : decide (0 ≤ x13_2) = true := decide_eq_true c39
               clear c39
               by_cases c40 : x13_2 < ((rd_L1 x9_25 (x11_2.length : Int)).length : Int)
               ·rw [if_pos c40] at H
                have c40b0 : decide (x13_2 < ((rd_L1 x9_25 (x11_2.length : Int)).length : Int)) = true := decide_eq_true c40
                clear c40
                replace H := Option.bind_eq_some_iff.mp H
                obtain ⟨t237, A410, H⟩ := H
                replace H : ((privityref01_Inverse.f a0 (rd (rd_L1 x9_25 (x11_2.length : Int)) x13_2)).bind fun bt240 => (privityref06_Reduced.l3 kj25 a0 a2 x9_25 x11_2 t237 x13_2 (x11_2.length : Int) bt240.1 0)) = some (r1, r2, r3) := H
                have A41 := Aside0.mk A410
                clear A410
                replace H := Option.bind_eq_some_iff.mp H
                obtain ⟨⟨t240, t241⟩, A420, H⟩ := H
                replace H : (privityref06_Reduced.l3 kj25 a0 a2 x9_25 x11_2 t237 x13_2 (x11_2.length : Int) t240 0) = some (r1, r2, r3) := H
                have A42 := Aside0.mk A420
                clear A420
                have H' := Aside0.mk H
                clear H
                have p235 : 0 ≤ ((x11_2.length : Int) : Int) := of_decide_eq_true (by first | (with_reducible assumption) | assumption)
                have q235 : (x11_2.length : Int) < (x9_25.length : Int) := of_decide_eq_true (by first | (with_reducible assumption) | assumption)
                obtain ⟨ad235, A235_0, c235_0, e235, hx235_0, hl235_0, hi235_0⟩ := at_L1 (Kd.S_reads' HO_9.out).2.2 (x11_2.length : Int) p235 q235
                (try rw [Int.toNat_natCast] at hx235_0)
                cases e235
                obtain ⟨ce235, hce235, hMe235, hcc235⟩ := Kd.S_get HO_9.out [] (x11_2.length : Int) p235 (by first | exact q235 | exact of_decide_eq_true (by first | (with_reducible assumption) | assumption) | (have e_ := (Kd.S_reads' HO_9.out).1; omega))
                obtain ⟨ve235_0, rfl, ge235_0⟩ := hMe235
                have hv235_0 := hcc235 0 _ rfl
                rw [Nat.add_zero, show ((Kd.slice 22 (Kd.int .u64))).sz = 1 from rfl, Nat.mul_one] at hv235_0
                replace hv235_0 := Option.some.inj (hv235_0.symm.trans hx235_0)
                rw [hv235_0] at ge235_0
                have HL235_0 := Aside0.mk (show Kd.R (Kd.int .u64) 22 _ _ _ _ (rd_L1 x9_25 (x11_2.length : Int)) from ge235_0)
                clear hv235_0 ge235_0
                have HX235_0 := Aside0.mk hx235_0
                clear hcc235 hce235
                have HR235_0 := Aside0.mk hi235_0
                have HC235_0 := Aside0.mk hl235_0
                clear hi235_0 hl235_0
                (try simp only [Go.IntWalk.toNatUp] at hx235_0)
                (try simp only [hl9_25] at p235)
                (try simp only [hl9_25] at q235)
                (try simp only [hl9_25] at hx235_0)
                replace p235 := eq_true p235
                replace q235 := eq_true q235
                have p236 : 0 ≤ (x13_2 : Int) := of_decide_eq_true (by first | (with_reducible assumption) | assumption)
                have q236 : x13_2 < ((rd_L1 x9_25 (x11_2.length : Int)).length : Int) := of_decide_eq_true (by first | (with_reducible assumption) | assumption)
                obtain ⟨ad236, e236, hx236_0⟩ := Kd.at_int (by repeat (first | (with_reducible exact HR235_0.out) | (with_reducible refine Kd.C_alloc ?_ _) | (with_reducible refine Kd.C_drewN ?_ _) | (with_reducible refine Kd.C_drew ?_) | exact HR235_0.out)) x13_2 p236 q236
                cases e236
                replace p236 := eq_true p236
                replace q236 := eq_true q236
                go_wp2_with (first | ((with_reducible refine gate_callee (f := 62) rfl ?_); refine goesL_ (some 95) rfl rfl Try.func62 (by kernel_rfl) rfl #[.int .u64 a0, .int .u64 x12_25, .int .u64 (rd (rd_L1 x9_25 (x11_2.length : Int)) x13_2)] rfl (by (try simp only [List.map_toArray, List.map_cons, List.map_nil]); first | done | rfl | (simp only [List.length_drop, List.length_take]; rfl)) ?_; (with_reducible refine (privityref01_Mul.calls a0 x12_25 (rd (rd_L1 x9_25 (x11_2.length : Int)) x13_2) t237 _ A41.out).mono ?_); rintro e w' ⟨rfl, ⟨nd, rfl⟩⟩; refine ⟨_, rfl, ?_⟩; have p238 : 0 ≤ ((x11_2.length : Int) : Int) := of_decide_eq_true (by first | (with_reducible assumption) | assumption); have q238 : (x11_2.length : Int) < (x9_25.length : Int) := of_decide_eq_true (by first | (with_reducible assumption) | assumption); obtain ⟨ad238, A238_0, c238_0, e238, hx238_0, hl238_0, hi238_0⟩ := at_L1 (Kd.S_reads' HO_9.out).2.2 (x11_2.length : Int) p238 q238; obtain rfl : ad235 = ad238 := (by injection e238); obtain ⟨ce238, hce238, hMe238, hcc238⟩ := Kd.S_get HO_9.out [] (x11_2.length : Int) p238 (by first | exact q238 | exact of_decide_eq_true (by first | (with_reducible assumption) | assumption) | (have e_ := (Kd.S_reads' HO_9.out).1; omega)); obtain ⟨ve238_0, rfl, ge238_0⟩ := hMe238; have hv238_0 := hcc238 0 _ rfl; rw [Nat.add_zero, show ((Kd.slice 22 (Kd.int .u64))).sz = 1 from rfl, Nat.mul_one] at hv238_0; replace hv238_0 := Option.some.inj (hv238_0.symm.trans hx238_0); rw [hv238_0] at ge238_0; have HL238_0 := Aside0.mk (show Kd.R (Kd.int .u64) 22 _ _ _ _ (rd_L1 x9_25 (x11_2.length : Int)) from ge238_0); clear hv238_0 ge238_0; have HX238_0 := Aside0.mk hx238_0; clear hcc238 hce238; have HR238_0 := Aside0.mk hi238_0; have HC238_0 := Aside0.mk hl238_0; clear hi238_0 hl238_0; (try simp only [Go.IntWalk.toNatUp] at hx238_0); (try simp only [hl9_25] at p238); (try simp only [hl9_25] at q238); (try simp only [hl9_25] at hx238_0); replace p238 := eq_true p238; replace q238 := eq_true q238; have ea_ := Option.some.inj (hx235_0.symm.trans hx238_0); injection ea_ with ea_ en_ ec_; subst ea_; subst ec_; clear en_; have p239 : 0 ≤ (x13_2 : Int) := of_decide_eq_true (by first | (with_reducible assumption) | assumption); have q239 : x13_2 < ((rd_L1 x9_25 (x11_2.length : Int)).length : Int) := of_decide_eq_true (by first | (with_reducible assumption) | assumption); obtain ⟨ad239, e239, hx239_0⟩ := Kd.at_int (by repeat (first | (with_reducible exact HR238_0.out) | (with_reducible refine Kd.C_alloc ?_ _) | (with_reducible refine Kd.C_drewN ?_ _) | (with_reducible refine Kd.C_drew ?_) | exact HR238_0.out)) x13_2 p239 q239; cases e239; replace p239 := eq_true p239; replace q239 := eq_true q239) | ((with_reducible refine gate_callee (f := 81) rfl ?_); refine goesL_ (some 105) rfl rfl Try.func81 (by kernel_rfl) rfl #[.int .u64 a0, .int .u64 (rd (rd_L1 x9_25 (x11_2.length : Int)) x13_2)] rfl (by (try simp only [List.map_toArray, List.map_cons, List.map_nil]); first | done | rfl | (simp only [List.length_drop, List.length_take]; rfl)) ?_; (with_reducible refine (privityref01_Inverse.calls a0 (rd (rd_L1 x9_25 (x11_2.length : Int)) x13_2) t240 t241 _ A42.out).mono ?_); rintro e w' ⟨rfl, ⟨nd, rfl⟩⟩; refine ⟨_, rfl, ?_⟩))
                go_loopg [18] kj25 (fun kq v18 w' => ∃ (x9_5 : List (List Int)) (x18_5 : Int), v18 = .int .i64 x18_5 ∧ Aside0 (privityref06_Reduced.l3 kq a0 a2 x9_5 x11_2 t237 x13_2 (x11_2.length : Int) t240 x18_5 = some (r1, r2, r3)) ∧ Aside0 (kq ≤ kj25) ∧ Aside0 (Kd.S (Kd.slice 22 (Kd.int .u64)) 32 w' w.heap.size (fun _ => True) (.slice (some ad235) x9_25.length co27) x9_5) ∧ Aside0 (Kd.R (Kd.int .i64) 3 w' w.heap.size (fun _ => True) (.slice Ao15 x11_2.length co15) x11_2) ∧ Aside0 (Below w.heap.size w w'))
                case atStart => exact ⟨(x9_25), (0), (by first | rfl | (simp; done) | (simp [*]; done)), H', ⟨Nat.le_refl _⟩, ⟨by (try simp only [hl9_25]); (with_reducible repeat (first | apply Kd.S_alloc | apply Kd.S_drewN | apply Kd.S_drew)); exact HO_9.out⟩, ⟨by (try simp only [hl9_25]); (with_reducible repeat (first | apply Kd.R_alloc | apply Kd.R_drewN | apply Kd.R_drew)); exact HO_11.out⟩, ⟨by repeat (first | (with_reducible first | exact HB.out | apply below_alloc | apply pw_below_drewN | apply below_drew1) | exact HB.out)⟩⟩
                case round => as_aux_lemma =>
                 clear H'
                 try clear c1; try clear c2; try clear p2; try clear q2; try clear hx2; try clear c3; try clear p3; try clear q3; try clear hx3; try clear hf3; try clear c4; try clear c4b0; try clear c5; try clear c5b0; try clear c6; try clear p6; try clear c7; try clear c8; try clear c13; try clear c13b0; try clear c16; try clear c16b0; try clear c17; try clear c17b0; try clear c18; try clear c18b0; try clear c19; try clear c19b0; try clear c20; try clear c20b0; try clear c20b1; try clear c22; try clear p22; try clear q22; try clear hx22; try clear c23; try clear p23; try clear q23; try clear hx23; try clear c24
                 try clear c24b0; try clear c24b1; try clear c28; try clear c28b0; try clear c28b1; try clear c29; try clear c29b0; try clear c30; try clear c30b0; try clear c31; try clear c31b0; try clear c31b1; try clear c32; try clear c32b0; try clear c32b1; try clear p33; try clear q33; try clear hx33; try clear hf33; try clear c35; try clear q35; try clear c37; try clear c37b0; try clear c37b1; try clear c38; try clear c38b0; try clear c38b1; try clear c39; try clear c39b0; try clear c40; try clear c40b0; try clear hx221_0; try clear hx228_0; try clear hx229_0; try clear hx230_0; try clear hx235_0; try clear hx236_0; try clear hx238_0; try clear hx239_0; try clear hx33_0
                 try clear p2; try clear p22; try clear p221; try clear p228; try clear p229; try clear p23; try clear p230; try clear p235; try clear p236; try clear p238; try clear p239; try clear p3; try clear p33; try clear p6; try clear q2; try clear q22; try clear q221; try clear q228; try clear q229; try clear q23; try clear q230; try clear q235; try clear q236; try clear q238; try clear q239; try clear q3; try clear q33; try clear q35
                 obtain ⟨x9_5, x18_5, rfl, HA, HK5, HO_9, HO_11, HB⟩ := hrel
                 have hl9_5 := (Kd.S_reads' HO_9.out).1
                 rw [hl9_5] at HO_9
                 (try simp only [hl9_5])
                 (try simp only [hl9_5] at HO_11)
                 cases gk with
                 | zero => exact absurd HA.out (by simp [privityref06_Reduced.l3])
                 | succ k5 =>
                  have H := HA.out
                  clear HA
                  simp only [privityref06_Reduced.l3] at H
                  by_cases c43 : 0 ≤ (x11_2.length : Int)
                  ·rw [if_pos c43] at H
                   have c43b0 : decide (0 ≤ (x11_2.length : Int)) = true := decide_eq_true c43
                   have c43b1 : decide (0 ≤ x11_2.length) = true := decide_eq_true (by omega)
                   clear c43
                   by_cases c44 : (x11_2.length : Int) < (x9_5.length : Int)
                   ·rw [if_pos c44] at H
                    have c44b0 : decide ((x11_2.length : Int) < (x9_5.length : Int)) = true := decide_eq_true c44
                    have c44b1 : decide (x11_2.length < x9_5.length) = true := decide_eq_true (Int.ofNat_lt.mp c44)
                    clear c44
                    by_cases c45 : x18_5 < ((rd_L1 x9_5 (x11_2.length : Int)).length : Int)
                    ·rw [if_pos c45] at H
                     have c45b0 : decide (x18_5 < ((rd_L1 x9_5 (x11_2.length : Int)).length : Int)) = true := decide_eq_true c45
                     clear c45
                     by_cases c46 : 0 ≤ x18_5
                     ·rw [if_pos c46] at H
                      have c46b0 : decide (0 ≤ x18_5) = true := decide_eq_true c46
                      clear c46
                      replace H := Option.bind_eq_some_iff.mp H
                      obtain ⟨t246, A470, H⟩ := H
                      replace H : (privityref06_Reduced.l3 k5 a0 a2 (x9_5.set ((x11_2.length : Int) : Int).toNat ((rd_L1 x9_5 (x11_2.length : Int)).set (x18_5 : Int).toNat t246)) x11_2 t237 x13_2 (x11_2.length : Int) t240 (wrap64 (x18_5 + 1))) = some (r1, r2, r3) := H
                      have A47 := Aside0.mk A470
                      clear A470
                      obtain ⟨y247, hy247⟩ : ∃ y_ : List Int, y_ = ((rd_L1 x9_5 (x11_2.length : Int)).set (x18_5 : Int).toNat t246) := ⟨_, rfl⟩
                      replace H : (privityref06_Reduced.l3 k5 a0 a2 (x9_5.set ((x11_2.length : Int) : Int).toNat y247) x11_2 t237 x13_2 (x11_2.length : Int) t240 (wrap64 (x18_5 + 1))) = some (r1, r2, r3) := by first | (rw [hy247]; with_reducible exact H) | (have H2_ := (Option.bind_some _ _).symm.trans H; rw [hy247]; with_reducible exact H2_) | (have H2_ := (Option.bind_some _ _).symm.trans H; with_reducible exact H2_) | with_reducible exact H | (rw [hy247]; exact H) | exact H
                      have Ny247 := Aside0.mk hy247
                      clear hy247
                      obtain ⟨y249, hy249⟩ : ∃ y_ : List (List Int), y_ = (x9_5.set ((x11_2.length : Int) : Int).toNat y247) := ⟨_, rfl⟩
                      replace H : (privityref06_Reduced.l3 k5 a0 a2 y249 x11_2 t237 x13_2 (x11_2.length : Int) t240 (wrap64 (x18_5 + 1))) = some (r1, r2, r3) := by first | (rw [hy249]; with_reducible exact H) | (have H2_ := (Option.bind_some _ _).symm.trans H; rw [hy249]; with_reducible exact H2_) | (have H2_ := (Option.bind_some _ _).symm.trans H; with_reducible exact H2_) | with_reducible exact H | (rw [hy249]; exact H) | exact H
                      have Ny249 := Aside0.mk hy249
                      clear hy249
                      have H' := Aside0.mk H
                      clear H
                      have p242 : 0 ≤ ((x11_2.length : Int) : Int) := of_decide_eq_true (by first | (with_reducible assumption) | assumption)
                      have q242 : (x11_2.length : Int) < (x9_5.length : Int) := of_decide_eq_true (by first | (with_reducible assumption) | assumption)
                      obtain ⟨ad242, A242_0, c242_0, e242, hx242_0, hl242_0, hi242_0⟩ := at_L1 (Kd.S_reads' HO_9.out).2.2 (x11_2.length : Int) p242 q242
                      (try rw [Int.toNat_natCast] at hx242_0)
                      obtain rfl : ad235 = ad242 := (by injection e242)
                      obtain ⟨ce242, hce242, hMe242, hcc242⟩ := Kd.S_get HO_9.out [] (x11_2.length : Int) p242 (by first | exact q242 | exact of_decide_eq_true (by first | (with_reducible assumption) | assumption) | (have e_ := (Kd.S_reads' HO_9.out).1; omega))
                      obtain ⟨ve242_0, rfl, ge242_0⟩ := hMe242
                      have hv242_0 := hcc242 0 _ rfl
                      rw [Nat.add_zero, show ((Kd.slice 22 (Kd.int .u64))).sz = 1 from rfl, Nat.mul_one] at hv242_0
                      replace hv242_0 := Option.some.inj (hv242_0.symm.trans hx242_0)
                      rw [hv242_0] at ge242_0
                      have HL242_0 := Aside0.mk (show Kd.R (Kd.int .u64) 22 _ _ _ _ (rd_L1 x9_5 (x11_2.length : Int)) from ge242_0)
                      clear hv242_0 ge242_0
                      have HX242_0 := Aside0.mk hx242_0
                      clear hcc242 hce242
                      have HR242_0 := Aside0.mk hi242_0
                      have HC242_0 := Aside0.mk hl242_0
                      clear hi242_0 hl242_0
                      (try simp only [Go.IntWalk.toNatUp] at hx242_0)
                      (try simp only [hl9_25, hl9_5] at p242)
                      (try simp only [hl9_25, hl9_5] at q242)
                      (try simp only [hl9_25, hl9_5] at hx242_0)
                      replace p242 := eq_true p242
                      replace q242 := eq_true q242
                      try go_wp2
                      have n0_ := Aside0.mk (Kd.S_drew HO_9.out)
                      have n1_ := Aside0.mk (Kd.R_drew HO_11.out)
                      have n2_ := Aside0.mk (Kd.R_drew HL242_0.out)
                      have n3_ := Aside0.mk (Kd.C_drew HR242_0.out)
                      have n4_ := Aside0.mk (below_drew1 HB.out)
                      clear HO_9
                      clear HO_11
                      clear HL242_0
                      clear HR242_0
                      clear HB
                      have HO_9 := n0_
                      have HO_11 := n1_
                      have HL242_0 := n2_
                      have HR242_0 := n3_
                      have HB := n4_
                      clear n0_ n1_ n2_ n3_ n4_
                      have p243 : 0 ≤ ((x11_2.length : Int) : Int) := of_decide_eq_true (by first | (with_reducible assumption) | assumption)
                      have q243 : (x11_2.length : Int) < (x9_5.length : Int) := of_decide_eq_true (by first | (with_reducible assumption) | assumption)
                      obtain ⟨ad243, A243_0, c243_0, e243, hx243_0, hl243_0, hi243_0⟩ := at_L1 (Kd.S_reads' HO_9.out).2.2 (x11_2.length : Int) p243 q243
                      (try rw [Int.toNat_natCast] at hx243_0)
                      obtain rfl : ad235 = ad243 := (by injection e243)
                      obtain ⟨ce243, hce243, hMe243, hcc243⟩ := Kd.S_get HO_9.out [] (x11_2.length : Int) p243 (by first | exact q243 | exact of_decide_eq_true (by first | (with_reducible assumption) | assumption) | (have e_ := (Kd.S_reads' HO_9.out).1; omega))
                      obtain ⟨ve243_0, rfl, ge243_0⟩ := hMe243
                      have hv243_0 := hcc243 0 _ rfl
                      rw [Nat.add_zero, show ((Kd.slice 22 (Kd.int .u64))).sz = 1 from rfl, Nat.mul_one] at hv243_0
                      replace hv243_0 := Option.some.inj (hv243_0.symm.trans hx243_0)
                      rw [hv243_0] at ge243_0
                      have HL243_0 := Aside0.mk (show Kd.R (Kd.int .u64) 22 _ _ _ _ (rd_L1 x9_5 (x11_2.length : Int)) from ge243_0)
                      clear hv243_0 ge243_0
                      have HX243_0 := Aside0.mk hx243_0
                      clear hcc243 hce243
                      have HR243_0 := Aside0.mk hi243_0
                      have HC243_0 := Aside0.mk hl243_0
                      clear hi243_0 hl243_0
                      (try simp only [Go.IntWalk.toNatUp] at hx243_0)
                      (try simp only [hl9_25, hl9_5] at p243)
                      (try simp only [hl9_25, hl9_5] at q243)
                      (try simp only [hl9_25, hl9_5] at hx243_0)
                      replace p243 := eq_true p243
                      replace q243 := eq_true q243
                      have p244 : 0 ≤ ((x11_2.length : Int) : Int) := of_decide_eq_true (by first | (with_reducible assumption) | assumption)
                      have q244 : (x11_2.length : Int) < (x9_5.length : Int) := of_decide_eq_true (by first | (with_reducible assumption) | assumption)
                      obtain ⟨ad244, A244_0, c244_0, e244, hx244_0, hl244_0, hi244_0⟩ := at_L1 (Kd.S_reads' HO_9.out).2.2 (x11_2.length : Int) p244 q244
                      (try rw [Int.toNat_natCast] at hx244_0)
                      obtain rfl : ad235 = ad244 := (by injection e244)
                      obtain ⟨ce244, hce244, hMe244, hcc244⟩ := Kd.S_get HO_9.out [] (x11_2.length : Int) p244 (by first | exact q244 | exact of_decide_eq_true (by first | (with_reducible assumption) | assumption) | (have e_ := (Kd.S_reads' HO_9.out).1; omega))
                      obtain ⟨ve244_0, rfl, ge244_0⟩ := hMe244
                      have hv244_0 := hcc244 0 _ rfl
                      rw [Nat.add_zero, show ((Kd.slice 22 (Kd.int .u64))).sz = 1 from rfl, Nat.mul_one] at hv244_0
                      replace hv244_0 := Option.some.inj (hv244_0.symm.trans hx244_0)
                      rw [hv244_0] at ge244_0
                      have HL244_0 := Aside0.mk (show Kd.R (Kd.int .u64) 22 _ _ _ _ (rd_L1 x9_5 (x11_2.length : Int)) from ge244_0)
                      clear hv244_0 ge244_0
                      have HX244_0 := Aside0.mk hx244_0
                      clear hcc244 hce244
                      have HR244_0 := Aside0.mk hi244_0
                      have HC244_0 := Aside0.mk hl244_0
                      clear hi244_0 hl244_0
                      (try simp only [Go.IntWalk.toNatUp] at hx244_0)
                      (try simp only [hl9_25, hl9_5] at p244)
                      (try simp only [hl9_25, hl9_5] at q244)
                      (try simp only [hl9_25, hl9_5] at hx244_0)
                      replace p244 := eq_true p244
                      replace q244 := eq_true q244
                      have ea_ := Option.some.inj (hx243_0.symm.trans hx244_0)
                      injection ea_ with ea_ en_ ec_
                      subst ea_
                      subst ec_
                      clear en_
                      have p245 : 0 ≤ (x18_5 : Int) := of_decide_eq_true (by first | (with_reducible assumption) | assumption)
                      have q245 : x18_5 < ((rd_L1 x9_5 (x11_2.length : Int)).length : Int) := of_decide_eq_true (by first | (with_reducible assumption) | assumption)
                      obtain ⟨ad245, e245, hx245_0⟩ := Kd.at_int (by repeat (first | (with_reducible exact HR244_0.out) | (with_reducible refine Kd.C_alloc ?_ _) | (with_reducible refine Kd.C_drewN ?_ _) | (with_reducible refine Kd.C_drew ?_) | exact HR244_0.out)) x18_5 p245 q245
                      cases e245
                      replace p245 := eq_true p245
                      replace q245 := eq_true q245
                      refine start_ (n := 17) (S := fun w' => w'.cell? (ad235.add x11_2.length) = some (.slice (some ad245) (rd_L1 x9_5 (x11_2.length : Int)).length c243_0) ∧ w'.cell? (ad235.add x11_2.length) = some (.slice (some ad245) (rd_L1 x9_5 (x11_2.length : Int)).length c243_0) ∧ w'.cell? (ad245.add (x18_5).toNat) = some (.int .u64 (rd (rd_L1 x9_5 (x11_2.length : Int)) x18_5))) (ds := [16]) #[false, false, false, false, false, false, false, false, false, false, false, false, false, false, false, false, false] (by kernel_rfl) rfl rfl ⟨hx243_0, hx244_0, hx245_0⟩ (fun hHeld => ?_); refine with_tabW privityref06_Reduced.tab24 privityref06_Reduced.bits24 (fun HT_ HW_ => ?_)
                      generalize wr.drew = w49 at HO_9 HO_11 HL242_0 HR242_0 HB HL243_0 HL244_0 HR243_0 HR244_0 HX243_0 HX244_0 hx243_0 hx244_0 hx245_0 hHeld ⊢
                      refine pure_ (i := 0) (N := some 117) (v := ?_) (a' := ?_) #[true, false, false, false, false, false, false, false, false, false, false, false, false, false, false, false, false] rfl rfl (any_of HT_.out (by kernel_rfl)) (fun _ _ _ h => h) (Or.inl ⟨by rfl, ?_⟩) ?_ ?_; rotate_left; (intro w'; go_simp; with_reducible rfl); rotate_left; (simp only [Act.put, List.setIfInBounds_toArray, List.set_cons_zero, List.set_cons_succ, i64_w, i32_w]; rfl)
                      refine pure_ (i := 1) (N := some 118) (v := ?_) (a' := ?_) #[true, true, false, false, false, false, false, false, false, false, false, false, false, false, false, false, false] rfl rfl (any_of HT_.out (by kernel_rfl)) (fun _ _ _ h => h) (Or.inl ⟨by rfl, ?_⟩) ?_ ?_; rotate_left; (intro w'; go_simp; with_reducible rfl); rotate_left; (simp only [Act.put, List.setIfInBounds_toArray, List.set_cons_zero, List.set_cons_succ, i64_w, i32_w]; rfl)
                      refine pure_ (i := 2) (N := some 119) (v := ?_) (a' := ?_) #[true, true, true, false, false, false, false, false, false, false, false, false, false, false, false, false, false] rfl rfl (any_of HT_.out (by kernel_rfl)) (fun _ _ _ h => h) (Or.inl ⟨by rfl, ?_⟩) ?_ ?_; rotate_left; (intro w'; go_simp; with_reducible rfl); rotate_left; (simp only [Act.put, List.setIfInBounds_toArray, List.set_cons_zero, List.set_cons_succ, i64_w, i32_w]; rfl)
                      refine pure_ (i := 4) (N := some 121) (v := ?_) (a' := ?_) #[true, true, true, false, true, false, false, false, false, false, false, false, false, false, false, false, false] rfl rfl (any_of HT_.out (by kernel_rfl)) (fun _ _ _ h => h) (Or.inl ⟨by rfl, ?_⟩) ?_ ?_; rotate_left; (intro w'; go_simp; with_reducible rfl); rotate_left; (simp only [Act.put, List.setIfInBounds_toArray, List.set_cons_zero, List.set_cons_succ, i64_w, i32_w]; rfl)
                      refine pure_ (i := 5) (N := some 122) (v := ?_) (a' := ?_) #[true, true, true, false, true, true, false, false, false, false, false, false, false, false, false, false, false] rfl rfl (any_of HT_.out (by kernel_rfl)) (fun _ _ _ h => h) (Or.inl ⟨by rfl, ?_⟩) ?_ ?_; rotate_left; (intro w'; go_simp; with_reducible rfl); rotate_left; (simp only [Act.put, List.setIfInBounds_toArray, List.set_cons_zero, List.set_cons_succ, i64_w, i32_w]; rfl)
                      refine pure_ (i := 6) (N := some 123) (v := ?_) (a' := ?_) #[true, true, true, false, true, true, true, false, false, false, false, false, false, false, false, false, false] rfl rfl (any_of HT_.out (by kernel_rfl)) (fun _ _ _ h => h) (Or.inl ⟨by rfl, ?_⟩) ?_ ?_; rotate_left; (intro w'; go_simp; with_reducible rfl); rotate_left; (simp only [Act.put, List.setIfInBounds_toArray, List.set_cons_zero, List.set_cons_succ, i64_w, i32_w]; rfl)
                      refine pure_ (i := 7) (N := some 124) (v := ?_) (a' := ?_) #[true, true, true, false, true, true, true, true, false, false, false, false, false, false, false, false, false] rfl rfl (any_of HT_.out (by kernel_rfl)) (fun _ _ _ h => h) (Or.inl ⟨by rfl, ?_⟩) ?_ ?_; rotate_left; (intro w'; go_simp; with_reducible rfl); rotate_left; (simp only [Act.put, List.setIfInBounds_toArray, List.set_cons_zero, List.set_cons_succ, i64_w, i32_w]; rfl)
                      refine pure_ (i := 8) (N := some 125) (v := ?_) (a' := ?_) #[true, true, true, false, true, true, true, true, true, false, false, false, false, false, false, false, false] rfl rfl (any_of HT_.out (by kernel_rfl)) (fun _ _ _ h => h) (Or.inl ⟨by rfl, ?_⟩) ?_ ?_; rotate_left; (intro w'; go_simp; with_reducible rfl); rotate_left; (simp only [Act.put, List.setIfInBounds_toArray, List.set_cons_zero, List.set_cons_succ, i64_w, i32_w]; rfl)
                      refine pure_ (i := 10) (N := some 127) (v := ?_) (a' := ?_) #[true, true, true, false, true, true, true, true, true, false, true, false, false, false, false, false, false] rfl rfl (any_of HT_.out (by kernel_rfl)) (fun _ _ _ h => h) (Or.inl ⟨by rfl, ?_⟩) ?_ ?_; rotate_left; (intro w'; go_simp; with_reducible rfl); rotate_left; (simp only [Act.put, List.setIfInBounds_toArray, List.set_cons_zero, List.set_cons_succ, i64_w, i32_w]; rfl)
                      refine pure_ (i := 13) (N := some 130) (v := ?_) (a' := ?_) #[true, true, true, false, true, true, true, true, true, false, true, false, false, true, false, false, false] rfl rfl (any_of HT_.out (by kernel_rfl)) (fun _ _ _ h => h) (Or.inl ⟨by rfl, ?_⟩) ?_ ?_; rotate_left; (intro w'; go_simp; with_reducible rfl); rotate_left; (simp only [Act.put, List.setIfInBounds_toArray, List.set_cons_zero, List.set_cons_succ, i64_w, i32_w]; rfl)
                      refine take_ (i := 3) (N := some 120) (v := ?_) (a' := ?_) #[true, true, true, true, true, true, true, true, true, false, true, false, false, true, false, false, false] rfl rfl (take_ofW HT_.out HW_.out (by kernel_rfl)) (fun _ _ _ h => h) (Or.inl ⟨by rfl, ?_⟩) hHeld ?_ ?_; rotate_left; (rintro w' ⟨s0, s1, s2⟩; go_simp; with_reducible rfl); rotate_left; (simp only [Act.put, List.setIfInBounds_toArray, List.set_cons_zero, List.set_cons_succ, i64_w, i32_w]; rfl)
                      refine take_ (i := 9) (N := some 126) (v := ?_) (a' := ?_) #[true, true, true, true, true, true, true, true, true, true, true, false, false, true, false, false, false] rfl rfl (take_ofW HT_.out HW_.out (by kernel_rfl)) (fun _ _ _ h => h) (Or.inl ⟨by rfl, ?_⟩) hHeld ?_ ?_; rotate_left; (rintro w' ⟨s0, s1, s2⟩; go_simp; with_reducible rfl); rotate_left; (simp only [Act.put, List.setIfInBounds_toArray, List.set_cons_zero, List.set_cons_succ, i64_w, i32_w]; rfl)
                      refine pure_ (i := 11) (N := some 128) (v := ?_) (a' := ?_) #[true, true, true, true, true, true, true, true, true, true, true, true, false, true, false, false, false] rfl rfl (any_of HT_.out (by kernel_rfl)) (fun _ _ _ h => h) (Or.inl ⟨by rfl, ?_⟩) ?_ ?_; rotate_left; (intro w'; go_simp; with_reducible rfl); rotate_left; (simp only [Act.put, List.setIfInBounds_toArray, List.set_cons_zero, List.set_cons_succ, i64_w, i32_w]; rfl)
                      refine take_ (i := 12) (N := some 129) (v := ?_) (a' := ?_) #[true, true, true, true, true, true, true, true, true, true, true, true, true, true, false, false, false] rfl rfl (take_ofW HT_.out HW_.out (by kernel_rfl)) (fun _ _ _ h => h) (Or.inl ⟨by rfl, ?_⟩) hHeld ?_ ?_; rotate_left; (rintro w' ⟨s0, s1, s2⟩; go_simp; with_reducible rfl); rotate_left; (simp only [Act.put, List.setIfInBounds_toArray, List.set_cons_zero, List.set_cons_succ, i64_w, i32_w]; rfl)
                      refine one_ (i := 14) (N := some 131) #[true, true, true, true, true, true, true, true, true, true, true, true, true, true, true, false, false] rfl rfl (one_of HT_.out (by kernel_rfl)) (by decide) (fun K hK => ?_)
                      refine goes_ Try.func62 (by kernel_rfl) rfl #[.int .u64 a0, .int .u64 (rd (rd_L1 x9_5 (x11_2.length : Int)) x18_5), .int .u64 t240] (by rfl) rfl rfl (by (try simp only [List.map_toArray, List.map_cons, List.map_nil]); first | done | rfl | (simp only [List.length_drop, List.length_take]; rfl)) ?_
                      with_reducible refine (privityref01_Mul.calls a0 (rd (rd_L1 x9_5 (x11_2.length : Int)) x18_5) t240 t246 _ A47.out).mono ?_
                      rintro e w' ⟨rfl, ⟨nd, rfl⟩⟩
                      refine ⟨_, rfl, ?_⟩
                      have p48 : 0 ≤ (x18_5 : Int) := of_decide_eq_true (by first | (with_reducible assumption) | assumption)
                      have q48 : (x18_5 : Int) < (((rd_L1 x9_5 (x11_2.length : Int)).length : Int) : Int) := of_decide_eq_true (by first | (with_reducible assumption) | assumption)
                      obtain ⟨go48, co48, eo48, gb48, gl48, cl48, HG48⟩ := Kd.R_form HL243_0.out (by omega)
                      (first | cases eo48 | (injection eo48 with ea_ en_ ec_; (first | subst ea_ | (injection ea_ with ea_; subst ea_)); subst ec_; clear en_))
                      have GB48 := Aside0.mk gb48
                      have GG48 := Aside0.mk HG48
                      clear gb48 gl48 HG48
                      (first | simp only [add_plain] at hx245_0 | skip)
                      obtain ⟨hx48_0, hf48_0⟩ := Kd.R_celln 0 HL243_0.out (x18_5 : Int) p48 q48
                      replace p48 := eq_true p48
                      replace q48 := eq_true q48
                      have hq50 : ((x11_2.length : Int) : Int) < (x9_5.length : Int) := (by have h_ : ((x11_2.length : Int) : Int) < ((x9_5.length : Int) : Int) := of_decide_eq_true (by first | (with_reducible assumption) | assumption); first | exact h_ | (have e_ := (Kd.S_reads' HO_9.out).1; omega) | simpa only [List.length_set, List.length_set] using h_)
                      obtain ⟨oki50, ce50, hcl50, hM50, hcc50, hok50, hbk50⟩ := Kd.S_borrow HO_9.out [] ((x11_2.length : Int) : Int) (of_decide_eq_true (by first | (with_reducible assumption) | assumption)) hq50
                      obtain ⟨ve50_0, rfl, ge50_0⟩ := hM50
                      have hv50 := hcc50 0 _ rfl
                      rw [Nat.add_zero, show ((Kd.slice 22 (Kd.int .u64))).sz = 1 from rfl, Nat.mul_one] at hv50
                      replace hv50 := Option.some.inj (hv50.symm.trans HX243_0.out)
                      subst hv50
                      clear hcc50 hcl50
                      replace ge50_0 := (show Kd.R (Kd.int .u64) 22 _ _ _ _ (rd_L1 x9_5 (x11_2.length : Int)) from ge50_0)
                      have HP50 := Kd.R_putg ge50_0 (x18_5 : Int) t246
                      rw [← Ny247.out] at HP50
                      have HS50 := hbk50 HP50.2 (fun k_ e_ => by injection e_ with e_; subst e_; exact ge50_0.1 _ rfl) (x' := y247) (Kd.M_row HP50.1)
                      rw [← Ny249.out] at HS50
                      have HQ50 := Aside0.mk HS50
                      clear HP50 HS50 hbk50 hok50
                      refine hK.out _ _ ⟨hHeld.1, hHeld.2.1, hHeld.2.2⟩ (fun hHeld => ?_)
                      clear hK K
                      refine norm_ (a' := ?_) ?_ ?_
                      rotate_left
                      ·show Act.put _ (some 131) _ = _
                       simp only [Act.put, List.setIfInBounds_toArray, List.set_cons_zero, List.set_cons_succ, i64_w, i32_w]
                       rfl
                      refine pure_ (i := 15) (N := some 132) (v := ?_) (a' := ?_) #[true, true, true, true, true, true, true, true, true, true, true, true, true, true, true, true, false] rfl rfl (any_of HT_.out (by kernel_rfl)) (fun _ _ _ h => h) (Or.inl ⟨by rfl, ?_⟩) ?_ ?_; rotate_left; (intro w'; go_simp; with_reducible rfl); rotate_left; (simp only [Act.put, List.setIfInBounds_toArray, List.set_cons_zero, List.set_cons_succ, i64_w, i32_w]; rfl)
                      refine last_ (i := 16) (N := none) #[true, true, true, true, true, true, true, true, true, true, true, true, true, true, true, true, true] rfl rfl (one_of HT_.out (by kernel_rfl)) (by decide) (fun K hK => ?_)
                      refine skip_ (w1 := ?_) (by rfl) rfl ?_ ?_
                      rotate_left
                      ·go_simp
                       rfl
                      refine hK.out _ _ ?_
                      clear hK K
                      refine done_ (done_of HT_.out (by kernel_rfl)) ?_
                      try go_wp2
                      (try simp only [← hl9_5])
                      go_roundg k5
                      case measure => have := HK1.out; have := HK2.out; have := HJ13.out; have := HJ25.out; have := HK5.out; omega
                      case rel => exact ⟨(y249), (wrap64 (x18_5 + 1)), (by first | rfl | (simp; done) | (simp [*]; done)), H', ⟨by have := HK1.out; have := HK2.out; have := HJ13.out; have := HJ25.out; have := HK5.out; omega⟩, ⟨by (try simp only [hl9_25]); (try simp only [hl9_5]); (with_reducible repeat (first | apply Kd.S_alloc | apply Kd.S_drewN | apply Kd.S_drew)); exact HQ50.out⟩, ⟨by (try simp only [hl9_25]); (try simp only [hl9_5]); (with_reducible repeat (first | apply Kd.R_alloc | apply Kd.R_drewN | apply Kd.R_drew)); exact Kd.R_mono (Kd.R_far (p := ⟨go48, (x18_5 : Int).toNat, none⟩) (Kd.R_types HO_11.out GG48.out (by decide)) (fun _ hk => hk.2) (.int .u64 t246)) (fun _ hk => trivial)⟩, ⟨by repeat (first | (with_reducible first | exact HB.out | apply below_alloc | apply pw_below_drewN | apply below_drew1 | refine below_set ?_ GB48.out) | exact HB.out)⟩⟩
                     ·rw [if_neg c46] at H
                      exact absurd H (by simp)
                    ·rw [if_neg c45] at H
                     have c45b0 : decide (x18_5 < ((rd_L1 x9_5 (x11_2.length : Int)).length : Int)) = false := decide_eq_false c45
                     clear c45
                     have H' := Aside0.mk H
                     clear H
                     have p242 : 0 ≤ ((x11_2.length : Int) : Int) := of_decide_eq_true (by first | (with_reducible assumption) | assumption)
                     have q242 : (x11_2.length : Int) < (x9_5.length : Int) := of_decide_eq_true (by first | (with_reducible assumption) | assumption)
                     obtain ⟨ad242, A242_0, c242_0, e242, hx242_0, hl242_0, hi242_0⟩ := at_L1 (Kd.S_reads' HO_9.out).2.2 (x11_2.length : Int) p242 q242
                     (try rw [Int.toNat_natCast] at hx242_0)
                     obtain rfl : ad235 = ad242 := (by injection e242)
                     obtain ⟨ce242, hce242, hMe242, hcc242⟩ := Kd.S_get HO_9.out [] (x11_2.length : Int) p242 (by first | exact q242 | exact of_decide_eq_true (by first | (with_reducible assumption) | assumption) | (have e_ := (Kd.S_reads' HO_9.out).1; omega))
                     obtain ⟨ve242_0, rfl, ge242_0⟩ := hMe242
                     have hv242_0 := hcc242 0 _ rfl
                     rw [Nat.add_zero, show ((Kd.slice 22 (Kd.int .u64))).sz = 1 from rfl, Nat.mul_one] at hv242_0
                     replace hv242_0 := Option.some.inj (hv242_0.symm.trans hx242_0)
                     rw [hv242_0] at ge242_0
                     have HL242_0 := Aside0.mk (show Kd.R (Kd.int .u64) 22 _ _ _ _ (rd_L1 x9_5 (x11_2.length : Int)) from ge242_0)
                     clear hv242_0 ge242_0
                     have HX242_0 := Aside0.mk hx242_0
                     clear hcc242 hce242
                     have HR242_0 := Aside0.mk hi242_0
                     have HC242_0 := Aside0.mk hl242_0
                     clear hi242_0 hl242_0
                     (try simp only [Go.IntWalk.toNatUp] at hx242_0)
                     (try simp only [hl9_25, hl9_5] at p242)
                     (try simp only [hl9_25, hl9_5] at q242)
                     (try simp only [hl9_25, hl9_5] at hx242_0)
                     replace p242 := eq_true p242
                     replace q242 := eq_true q242
                     go_wp2
                     go_loopg [19] k5 (fun kq v19 w' => ∃ (x9_6 : List (List Int)) (x19_6 : Int), v19 = .int .i64 x19_6 ∧ Aside0 (privityref06_Reduced.l4 kq a0 a2 x9_6 x11_2 t237 x13_2 (x11_2.length : Int) x19_6 = some (r1, r2, r3)) ∧ Aside0 (kq ≤ k5) ∧ Aside0 (Kd.S (Kd.slice 22 (Kd.int .u64)) 32 w' w.heap.size (fun _ => True) (.slice (some ad235) x9_5.length co27) x9_6) ∧ Aside0 (Kd.R (Kd.int .i64) 3 w' w.heap.size (fun _ => True) (.slice Ao15 x11_2.length co15) x11_2) ∧ Aside0 (Below w.heap.size w w'))
                     case atStart => exact ⟨(x9_5), (0), (by first | rfl | (simp; done) | (simp [*]; done)), H', ⟨Nat.le_refl _⟩, ⟨by (try simp only [hl9_25]); (try simp only [hl9_5]); (with_reducible repeat (first | apply Kd.S_alloc | apply Kd.S_drewN | apply Kd.S_drew)); exact HO_9.out⟩, ⟨by (try simp only [hl9_25]); (try simp only [hl9_5]); (with_reducible repeat (first | apply Kd.R_alloc | apply Kd.R_drewN | apply Kd.R_drew)); exact HO_11.out⟩, ⟨by repeat (first | (with_reducible first | exact HB.out | apply below_alloc | apply pw_below_drewN | apply below_drew1) | exact HB.out)⟩⟩
                     case round => as_aux_lemma =>
                      clear H'
                      try clear c1; try clear c2; try clear p2; try clear q2; try clear hx2; try clear c3; try clear p3; try clear q3; try clear hx3; try clear hf3; try clear c4; try clear c4b0; try clear p4; try clear q4; try clear hx4; try clear hf4; try clear c5; try clear c5b0; try clear q5; try clear c6; try clear p6; try clear c7; try clear c8; try clear c13; try clear c13b0; try clear c16; try clear c16b0; try clear c17; try clear c17b0; try clear c18; try clear c18b0; try clear c19; try clear c19b0; try clear c20; try clear c20b0; try clear c20b1; try clear c22; try clear p22; try clear q22; try clear hx22
                      try clear c23; try clear p23; try clear q23; try clear hx23; try clear c24; try clear c24b0; try clear c24b1; try clear p24; try clear q24; try clear hx24; try clear c28; try clear c28b0; try clear c28b1; try clear c29; try clear c29b0; try clear c30; try clear c30b0; try clear c31; try clear c31b0; try clear c31b1; try clear c32; try clear c32b0; try clear c32b1; try clear p33; try clear q33; try clear hx33; try clear hf33; try clear c35; try clear q35; try clear c37; try clear c37b0; try clear c37b1; try clear c38; try clear c38b0; try clear c38b1; try clear c39; try clear c39b0; try clear c40; try clear c40b0; try clear c43
                      try clear c43b0; try clear c43b1; try clear c44; try clear c44b0; try clear c44b1; try clear c45; try clear c45b0; try clear c46; try clear c46b0; try clear p48; try clear q48; try clear hx48; try clear hf48; try clear c50; try clear q50; try clear hx221_0; try clear hx228_0; try clear hx229_0; try clear hx230_0; try clear hx235_0; try clear hx236_0; try clear hx238_0; try clear hx239_0; try clear hx242_0; try clear hx243_0; try clear hx244_0; try clear hx245_0; try clear hx33_0; try clear hx48_0; try clear p2; try clear p22; try clear p221; try clear p228; try clear p229; try clear p23; try clear p230; try clear p235; try clear p236; try clear p238; try clear p239
                      try clear p242; try clear p243; try clear p244; try clear p245; try clear p3; try clear p33; try clear p48; try clear p6; try clear q2; try clear q22; try clear q221; try clear q228; try clear q229; try clear q23; try clear q230; try clear q235; try clear q236; try clear q238; try clear q239; try clear q242; try clear q243; try clear q244; try clear q245; try clear q3; try clear q33; try clear q35; try clear q48
                      obtain ⟨x9_6, x19_6, rfl, HA, HK6, HO_9, HO_11, HB⟩ := hrel
                      have hl9_6 := (Kd.S_reads' HO_9.out).1
                      rw [hl9_6] at HO_9
                      (try simp only [hl9_6])
                      (try simp only [hl9_6] at HO_11)
                      cases gk with
                      | zero => exact absurd HA.out (by simp [privityref06_Reduced.l4])
                      | succ k6 =>
                       have H := HA.out
                       clear HA
                       simp only [privityref06_Reduced.l4] at H
                       by_cases c52 : x19_6 < (x9_6.length : Int)
                       ·rw [if_pos c52] at H
                        have c52b0 : decide (x19_6 < (x9_6.length : Int)) = true := decide_eq_true c52
                        clear c52
                        by_cases c53 : 0 ≤ x19_6
                        ·rw [if_pos c53] at H
                         have c53b0 : decide (0 ≤ x19_6) = true := decide_eq_true c53
                         clear c53
                         by_cases c54 : 0 ≤ x13_2
                         ·rw [if_pos c54] at H
                          have c54b0 : decide (0 ≤ x13_2) = true := decide_eq_true c54
                          clear c54
                          by_cases c55 : x13_2 < ((rd_L1 x9_6 x19_6).length : Int)
                          ·rw [if_pos c55] at H
                           have c55b0 : decide (x13_2 < ((rd_L1 x9_6 x19_6).length : Int)) = true := decide_eq_true c55
                           clear c55
                           have HC56 := Aside0.mk H
                           clear H
                           have p253 : 0 ≤ (x19_6 : Int) := of_decide_eq_true (by first | (with_reducible assumption) | assumption)
                           have q253 : x19_6 < (x9_6.length : Int) := of_decide_eq_true (by first | (with_reducible assumption) | assumption)
                           obtain ⟨ad253, A253_0, c253_0, e253, hx253_0, hl253_0, hi253_0⟩ := at_L1 (Kd.S_reads' HO_9.out).2.2 x19_6 p253 q253
                           obtain rfl : ad235 = ad253 := (by injection e253)
                           obtain ⟨ce253, hce253, hMe253, hcc253⟩ := Kd.S_get HO_9.out [] x19_6 p253 (by first | exact q253 | exact of_decide_eq_true (by first | (with_reducible assumption) | assumption) | (have e_ := (Kd.S_reads' HO_9.out).1; omega))
                           obtain ⟨ve253_0, rfl, ge253_0⟩ := hMe253
                           have hv253_0 := hcc253 0 _ rfl
                           rw [Nat.add_zero, show ((Kd.slice 22 (Kd.int .u64))).sz = 1 from rfl, Nat.mul_one] at hv253_0
                           replace hv253_0 := Option.some.inj (hv253_0.symm.trans hx253_0)
                           rw [hv253_0] at ge253_0
                           have HL253_0 := Aside0.mk (show Kd.R (Kd.int .u64) 22 _ _ _ _ (rd_L1 x9_6 x19_6) from ge253_0)
                           clear hv253_0 ge253_0
                           have HX253_0 := Aside0.mk hx253_0
                           clear hcc253 hce253
                           have HR253_0 := Aside0.mk hi253_0
                           have HC253_0 := Aside0.mk hl253_0
                           clear hi253_0 hl253_0
                           replace p253 := eq_true p253
                           replace q253 := eq_true q253
                           have p254 : 0 ≤ (x13_2 : Int) := of_decide_eq_true (by first | (with_reducible assumption) | assumption)
                           have q254 : x13_2 < ((rd_L1 x9_6 x19_6).length : Int) := of_decide_eq_true (by first | (with_reducible assumption) | assumption)
                           obtain ⟨ad254, e254, hx254_0⟩ := Kd.at_int (by repeat (first | (with_reducible exact HR253_0.out) | (with_reducible refine Kd.C_alloc ?_ _) | (with_reducible refine Kd.C_drewN ?_ _) | (with_reducible refine Kd.C_drew ?_) | exact HR253_0.out)) x13_2 p254 q254
                           cases e254
                           replace p254 := eq_true p254
                           replace q254 := eq_true q254
                           go_upto_region 29 with (fail)
                           go_cut [152] (fun v152 wc => ∃ (kq : Nat) (x152_55 : Bool), v152 = .bool x152_55 ∧ Aside0 (privityref06_Reduced.j7 kq a0 a2 x9_6 x11_2 t237 x13_2 (x11_2.length : Int) x19_6 (rd (rd_L1 x9_6 x19_6) x13_2) x152_55 = some (r1, r2, r3)) ∧ Aside0 (kq ≤ k6) ∧ Aside0 (Kd.S (Kd.slice 22 (Kd.int .u64)) 32 wc w.heap.size (fun _ => True) (.slice (some ad235) x9_6.length co27) x9_6) ∧ Aside0 (Kd.R (Kd.int .i64) 3 wc w.heap.size (fun _ => True) (.slice Ao15 x11_2.length co15) x11_2) ∧ Aside0 (Kd.C (Kd.int .u64) wc (some ad254) (rd_L1 x9_6 x19_6).length (rd_L1 x9_6 x19_6)) ∧ Aside0 (Below w.heap.size w wc))
                           case first => as_aux_lemma =>
                            have H := HC56.out
                            clear HC56
                            by_cases c57 : x19_6 = (x11_2.length : Int)
                            ·rw [if_pos c57] at H
                             have c57b0 : (x19_6 == (x11_2.length : Int)) = true := beq_iff_eq.mpr c57
                             have c57b1 : (x19_6 != (x11_2.length : Int)) = false := bne_eq_false_iff_eq.mpr c57
                             clear c57
                             (first | rw [c57b0] | (simp only [i64_w, i32_w]; rw [c57b0]) | skip)
                             have H' := Aside0.mk H
                             clear H
                             go_wp2
                             go_meet
                             case rel => exact ⟨_, (false), (by first | rfl | (simp; done) | (simp [*]; done)), H', ⟨by have := HK1.out; have := HK2.out; have := HJ13.out; have := HJ25.out; have := HK5.out; have := HK6.out; first | omega | exact Nat.le_refl _⟩, ⟨by (try simp only [hl9_25]); (try simp only [hl9_5]); (try simp only [hl9_6]); (with_reducible repeat (first | apply Kd.S_alloc | apply Kd.S_drewN | apply Kd.S_drew)); exact HO_9.out⟩, ⟨by (try simp only [hl9_25]); (try simp only [hl9_5]); (try simp only [hl9_6]); (with_reducible repeat (first | apply Kd.R_alloc | apply Kd.R_drewN | apply Kd.R_drew)); exact HO_11.out⟩, ⟨by repeat (first | (with_reducible exact HR253_0.out) | (with_reducible refine Kd.C_alloc ?_ _) | (with_reducible refine Kd.C_drewN ?_ _) | (with_reducible refine Kd.C_drew ?_) | exact HR253_0.out)⟩, ⟨by repeat (first | (with_reducible first | exact HB.out | apply below_alloc | apply pw_below_drewN | apply below_drew1) | exact HB.out)⟩⟩
                            ·rw [if_neg c57] at H
                             have c57b0 : (x19_6 == (x11_2.length : Int)) = false := beq_eq_false_iff_ne.mpr c57
                             have c57b1 : (x19_6 != (x11_2.length : Int)) = true := bne_iff_ne.mpr c57
                             (first | rw [c57b0] | (simp only [i64_w, i32_w]; rw [c57b0]) | skip)
                             have H' := Aside0.mk H
                             clear H
                             go_wp2
                             go_meet
                             case rel => exact ⟨_, (((rd (rd_L1 x9_6 x19_6) x13_2) != 0)), (by first | rfl | (simp; done) | (simp [*]; done)), H', ⟨by have := HK1.out; have := HK2.out; have := HJ13.out; have := HJ25.out; have := HK5.out; have := HK6.out; first | omega | exact Nat.le_refl _⟩, ⟨by (try simp only [hl9_25]); (try simp only [hl9_5]); (try simp only [hl9_6]); (with_reducible repeat (first | apply Kd.S_alloc | apply Kd.S_drewN | apply Kd.S_drew)); exact HO_9.out⟩, ⟨by (try simp only [hl9_25]); (try simp only [hl9_5]); (try simp only [hl9_6]); (with_reducible repeat (first | apply Kd.R_alloc | apply Kd.R_drewN | apply Kd.R_drew)); exact HO_11.out⟩, ⟨by repeat (first | (with_reducible exact HR253_0.out) | (with_reducible refine Kd.C_alloc ?_ _) | (with_reducible refine Kd.C_drewN ?_ _) | (with_reducible refine Kd.C_drew ?_) | exact HR253_0.out)⟩, ⟨by repeat (first | (with_reducible first | exact HB.out | apply below_alloc | apply pw_below_drewN | apply below_drew1) | exact HB.out)⟩⟩
                           case rest => as_aux_lemma =>
                            clear HC56
                            try clear c1; try clear c2; try clear p2; try clear q2; try clear hx2; try clear c3; try clear p3; try clear q3; try clear hx3; try clear hf3; try clear c4; try clear c4b0; try clear p4; try clear q4; try clear hx4; try clear hf4; try clear c5; try clear c5b0; try clear q5; try clear c6; try clear p6; try clear c7; try clear c8; try clear c13; try clear c13b0; try clear c16; try clear c16b0; try clear c17; try clear c17b0; try clear c18; try clear c18b0; try clear c19; try clear c19b0; try clear c20; try clear c20b0; try clear c20b1; try clear c22; try clear p22; try clear q22; try clear hx22
                            try clear c23; try clear p23; try clear q23; try clear hx23; try clear c24; try clear c24b0; try clear c24b1; try clear p24; try clear q24; try clear hx24; try clear c25; try clear p25; try clear q25; try clear hx25; try clear c28; try clear c28b0; try clear c28b1; try clear c29; try clear c29b0; try clear c30; try clear c30b0; try clear c31; try clear c31b0; try clear c31b1; try clear c32; try clear c32b0; try clear c32b1; try clear p33; try clear q33; try clear hx33; try clear hf33; try clear c35; try clear q35; try clear c37; try clear c37b0; try clear c37b1; try clear c38; try clear c38b0; try clear c38b1; try clear c39
                            try clear c39b0; try clear c40; try clear c40b0; try clear c43; try clear c43b0; try clear c43b1; try clear c44; try clear c44b0; try clear c44b1; try clear c45; try clear c45b0; try clear c46; try clear c46b0; try clear p48; try clear q48; try clear hx48; try clear hf48; try clear c50; try clear q50; try clear c52; try clear c52b0; try clear c53; try clear c53b0; try clear c54; try clear c54b0; try clear c55; try clear c55b0; try clear c57; try clear c57b0; try clear c57b1; try clear hx221_0; try clear hx228_0; try clear hx229_0; try clear hx230_0; try clear hx235_0; try clear hx236_0; try clear hx238_0; try clear hx239_0; try clear hx242_0; try clear hx243_0
                            try clear hx244_0; try clear hx245_0; try clear hx253_0; try clear hx254_0; try clear hx33_0; try clear hx48_0; try clear p2; try clear p22; try clear p221; try clear p228; try clear p229; try clear p23; try clear p230; try clear p235; try clear p236; try clear p238; try clear p239; try clear p24; try clear p242; try clear p243; try clear p244; try clear p245; try clear p253; try clear p254; try clear p3; try clear p33; try clear p4; try clear p48; try clear p6; try clear q2; try clear q22; try clear q221; try clear q228; try clear q229; try clear q23; try clear q230; try clear q235; try clear q236; try clear q238; try clear q239
                            try clear q24; try clear q242; try clear q243; try clear q244; try clear q245; try clear q253; try clear q254; try clear q3; try clear q33; try clear q35; try clear q4; try clear q48; try clear q5; try clear q50
                            obtain ⟨kq, x152_55, rfl, HA, HJ55, HO_9, HO_11, HR253_0, HB⟩ := hcut
                            cases kq with
                            | zero => exact absurd HA.out (by simp [privityref06_Reduced.j7])
                            | succ kj55 =>
                             have H := HA.out
                             clear HA
                             simp only [privityref06_Reduced.j7] at H
                             by_cases c58 : x152_55 = true
                             ·subst c58
                              have H1 : (privityref06_Reduced.l5 kj55 a0 a2 x9_6 x11_2 t237 x13_2 (x11_2.length : Int) x19_6 (rd (rd_L1 x9_6 x19_6) x13_2) 0) = some (r1, r2, r3) := by rw [if_pos rfl] at H; exact H
                              clear H
                              have H := H1
                              clear H1
                              have H' := Aside0.mk H
                              clear H
                              go_wp2
                              go_loopg [21] kj55 (fun kq v21 w' => ∃ (x9_8 : List (List Int)) (x21_8 : Int), v21 = .int .i64 x21_8 ∧ Aside0 (privityref06_Reduced.l5 kq a0 a2 x9_8 x11_2 t237 x13_2 (x11_2.length : Int) x19_6 (rd (rd_L1 x9_6 x19_6) x13_2) x21_8 = some (r1, r2, r3)) ∧ Aside0 (kq ≤ kj55) ∧ Aside0 (Kd.S (Kd.slice 22 (Kd.int .u64)) 32 w' w.heap.size (fun _ => True) (.slice (some ad235) x9_6.length co27) x9_8) ∧ Aside0 (Kd.R (Kd.int .i64) 3 w' w.heap.size (fun _ => True) (.slice Ao15 x11_2.length co15) x11_2) ∧ Aside0 (Below w.heap.size w w'))
                              case atStart => exact ⟨(x9_6), (0), (by first | rfl | (simp; done) | (simp [*]; done)), H', ⟨Nat.le_refl _⟩, ⟨by (try simp only [hl9_25]); (try simp only [hl9_5]); (try simp only [hl9_6]); (with_reducible repeat (first | apply Kd.S_alloc | apply Kd.S_drewN | apply Kd.S_drew)); exact HO_9.out⟩, ⟨by (try simp only [hl9_25]); (try simp only [hl9_5]); (try simp only [hl9_6]); (with_reducible repeat (first | apply Kd.R_alloc | apply Kd.R_drewN | apply Kd.R_drew)); exact HO_11.out⟩, ⟨by repeat (first | (with_reducible first | exact HB.out | apply below_alloc | apply pw_below_drewN | apply below_drew1) | exact HB.out)⟩⟩
                              case round => as_aux_lemma =>
                               clear H'
                               try clear c1; try clear c2; try clear p2; try clear q2; try clear hx2; try clear c3; try clear p3; try clear q3; try clear hx3; try clear hf3; try clear c4; try clear c4b0; try clear p4; try clear q4; try clear hx4; try clear hf4; try clear c5; try clear c5b0; try clear q5; try clear c6; try clear p6; try clear c7; try clear c8; try clear c13; try clear c13b0; try clear c16; try clear c16b0; try clear c17; try clear c17b0; try clear c18; try clear c18b0; try clear c19; try clear c19b0; try clear c20; try clear c20b0; try clear c20b1; try clear c22; try clear p22; try clear q22; try clear hx22
                               try clear c23; try clear p23; try clear q23; try clear hx23; try clear c24; try clear c24b0; try clear c24b1; try clear p24; try clear q24; try clear hx24; try clear c25; try clear p25; try clear q25; try clear hx25; try clear c28; try clear c28b0; try clear c28b1; try clear c29; try clear c29b0; try clear c30; try clear c30b0; try clear c31; try clear c31b0; try clear c31b1; try clear c32; try clear c32b0; try clear c32b1; try clear p33; try clear q33; try clear hx33; try clear hf33; try clear c35; try clear q35; try clear c37; try clear c37b0; try clear c37b1; try clear c38; try clear c38b0; try clear c38b1; try clear c39
                               try clear c39b0; try clear c40; try clear c40b0; try clear c43; try clear c43b0; try clear c43b1; try clear c44; try clear c44b0; try clear c44b1; try clear c45; try clear c45b0; try clear c46; try clear c46b0; try clear p48; try clear q48; try clear hx48; try clear hf48; try clear c50; try clear q50; try clear c52; try clear c52b0; try clear c53; try clear c53b0; try clear c54; try clear c54b0; try clear c55; try clear c55b0; try clear c57; try clear c57b0; try clear c57b1; try clear c58; try clear hx221_0; try clear hx228_0; try clear hx229_0; try clear hx230_0; try clear hx235_0; try clear hx236_0; try clear hx238_0; try clear hx239_0; try clear hx242_0
                               try clear hx243_0; try clear hx244_0; try clear hx245_0; try clear hx253_0; try clear hx254_0; try clear hx33_0; try clear hx48_0; try clear p2; try clear p22; try clear p221; try clear p228; try clear p229; try clear p23; try clear p230; try clear p235; try clear p236; try clear p238; try clear p239; try clear p24; try clear p242; try clear p243; try clear p244; try clear p245; try clear p25; try clear p253; try clear p254; try clear p3; try clear p33; try clear p4; try clear p48; try clear p6; try clear q2; try clear q22; try clear q221; try clear q228; try clear q229; try clear q23; try clear q230; try clear q235; try clear q236
                               try clear q238; try clear q239; try clear q24; try clear q242; try clear q243; try clear q244; try clear q245; try clear q25; try clear q253; try clear q254; try clear q3; try clear q33; try clear q35; try clear q4; try clear q48; try clear q5; try clear q50
                               obtain ⟨x9_8, x21_8, rfl, HA, HK8, HO_9, HO_11, HB⟩ := hrel
                               have hl9_8 := (Kd.S_reads' HO_9.out).1
                               rw [hl9_8] at HO_9
                               (try simp only [hl9_8])
                               (try simp only [hl9_8] at HO_11)
                               cases gk with
                               | zero => exact absurd HA.out (by simp [privityref06_Reduced.l5])
                               | succ k8 =>
                                have H := HA.out
                                clear HA
                                simp only [privityref06_Reduced.l5] at H
                                by_cases c59 : 0 ≤ x19_6
                                ·rw [if_pos c59] at H
                                 have c59b0 : decide (0 ≤ x19_6) = true := decide_eq_true c59
                                 clear c59
                                 by_cases c60 : x19_6 < (x9_8.length : Int)
                                 ·rw [if_pos c60] at H
                                  have c60b0 : decide (x19_6 < (x9_8.length : Int)) = true := decide_eq_true c60
                                  clear c60
                                  by_cases c61 : x21_8 < ((rd_L1 x9_8 x19_6).length : Int)
                                  ·rw [if_pos c61] at H
                                   have c61b0 : decide (x21_8 < ((rd_L1 x9_8 x19_6).length : Int)) = true := decide_eq_true c61
                                   clear c61
                                   by_cases c62 : 0 ≤ x21_8
                                   ·rw [if_pos c62] at H
                                    have c62b0 : decide (0 ≤ x21_8) = true := decide_eq_true c62
                                    clear c62
                                    by_cases c63 : 0 ≤ (x11_2.length : Int)
                                    ·rw [if_pos c63] at H
                                     have c63b0 : decide (0 ≤ (x11_2.length : Int)) = true := decide_eq_true c63
                                     have c63b1 : decide (0 ≤ x11_2.length) = true := decide_eq_true (by omega)
                                     clear c63
                                     by_cases c64 : (x11_2.length : Int) < (x9_8.length : Int)
                                     ·rw [if_pos c64] at H
                                      have c64b0 : decide ((x11_2.length : Int) < (x9_8.length : Int)) = true := decide_eq_true c64
                                      have c64b1 : decide (x11_2.length < x9_8.length) = true := decide_eq_true (Int.ofNat_lt.mp c64)
                                      clear c64
                                      by_cases c65 : x21_8 < ((rd_L1 x9_8 (x11_2.length : Int)).length : Int)
                                      ·rw [if_pos c65] at H
                                       have c65b0 : decide (x21_8 < ((rd_L1 x9_8 (x11_2.length : Int)).length : Int)) = true := decide_eq_true c65
                                       clear c65
                                       replace H := Option.bind_eq_some_iff.mp H
                                       obtain ⟨t261, A660, H⟩ := H
                                       replace H : ((privityref01_Sub.f a0 (rd (rd_L1 x9_8 x19_6) x21_8) t261).bind fun t262 => (privityref06_Reduced.l5 k8 a0 a2 (x9_8.set (x19_6 : Int).toNat ((rd_L1 x9_8 x19_6).set (x21_8 : Int).toNat t262)) x11_2 t237 x13_2 (x11_2.length : Int) x19_6 (rd (rd_L1 x9_6 x19_6) x13_2) (wrap64 (x21_8 + 1)))) = some (r1, r2, r3) := H
                                       have A66 := Aside0.mk A660
                                       clear A660
                                       replace H := Option.bind_eq_some_iff.mp H
                                       obtain ⟨t262, A670, H⟩ := H
                                       replace H : (privityref06_Reduced.l5 k8 a0 a2 (x9_8.set (x19_6 : Int).toNat ((rd_L1 x9_8 x19_6).set (x21_8 : Int).toNat t262)) x11_2 t237 x13_2 (x11_2.length : Int) x19_6 (rd (rd_L1 x9_6 x19_6) x13_2) (wrap64 (x21_8 + 1))) = some (r1, r2, r3) := H
                                       have A67 := Aside0.mk A670
                                       clear A670
                                       obtain ⟨y263, hy263⟩ : ∃ y_ : List Int, y_ = ((rd_L1 x9_8 x19_6).set (x21_8 : Int).toNat t262) := ⟨_, rfl⟩
                                       replace H : (privityref06_Reduced.l5 k8 a0 a2 (x9_8.set (x19_6 : Int).toNat y263) x11_2 t237 x13_2 (x11_2.length : Int) x19_6 (rd (rd_L1 x9_6 x19_6) x13_2) (wrap64 (x21_8 + 1))) = some (r1, r2, r3) := by first | (rw [hy263]; with_reducible exact H) | (have H2_ := (Option.bind_some _ _).symm.trans H; rw [hy263]; with_reducible exact H2_) | (have H2_ := (Option.bind_some _ _).symm.trans H; with_reducible exact H2_) | with_reducible exact H | (rw [hy263]; exact H) | exact H
                                       have Ny263 := Aside0.mk hy263
                                       clear hy263
                                       obtain ⟨y265, hy265⟩ : ∃ y_ : List (List Int), y_ = (x9_8.set (x19_6 : Int).toNat y263) := ⟨_, rfl⟩
                                       replace H : (privityref06_Reduced.l5 k8 a0 a2 y265 x11_2 t237 x13_2 (x11_2.length : Int) x19_6 (rd (rd_L1 x9_6 x19_6) x13_2) (wrap64 (x21_8 + 1))) = some (r1, r2, r3) := by first | (rw [hy265]; with_reducible exact H) | (have H2_ := (Option.bind_some _ _).symm.trans H; rw [hy265]; with_reducible exact H2_) | (have H2_ := (Option.bind_some _ _).symm.trans H; with_reducible exact H2_) | with_reducible exact H | (rw [hy265]; exact H) | exact H
                                       have Ny265 := Aside0.mk hy265
                                       clear hy265
                                       have H' := Aside0.mk H
                                       clear H
                                       have p255 : 0 ≤ (x19_6 : Int) := of_decide_eq_true (by first | (with_reducible assumption) | assumption)
                                       have q255 : x19_6 < (x9_8.length : Int) := of_decide_eq_true (by first | (with_reducible assumption) | assumption)
                                       obtain ⟨ad255, A255_0, c255_0, e255, hx255_0, hl255_0, hi255_0⟩ := at_L1 (Kd.S_reads' HO_9.out).2.2 x19_6 p255 q255
                                       obtain rfl : ad235 = ad255 := (by injection e255)
                                       obtain ⟨ce255, hce255, hMe255, hcc255⟩ := Kd.S_get HO_9.out [] x19_6 p255 (by first | exact q255 | exact of_decide_eq_true (by first | (with_reducible assumption) | assumption) | (have e_ := (Kd.S_reads' HO_9.out).1; omega))
                                       obtain ⟨ve255_0, rfl, ge255_0⟩ := hMe255
                                       have hv255_0 := hcc255 0 _ rfl
                                       rw [Nat.add_zero, show ((Kd.slice 22 (Kd.int .u64))).sz = 1 from rfl, Nat.mul_one] at hv255_0
                                       replace hv255_0 := Option.some.inj (hv255_0.symm.trans hx255_0)
                                       rw [hv255_0] at ge255_0
                                       have HL255_0 := Aside0.mk (show Kd.R (Kd.int .u64) 22 _ _ _ _ (rd_L1 x9_8 x19_6) from ge255_0)
                                       clear hv255_0 ge255_0
                                       have HX255_0 := Aside0.mk hx255_0
                                       clear hcc255 hce255
                                       have HR255_0 := Aside0.mk hi255_0
                                       have HC255_0 := Aside0.mk hl255_0
                                       clear hi255_0 hl255_0
                                       replace p255 := eq_true p255
                                       replace q255 := eq_true q255
                                       try go_wp2
                                       have n0_ := Aside0.mk (Kd.S_drew HO_9.out)
                                       have n1_ := Aside0.mk (Kd.R_drew HO_11.out)
                                       have n2_ := Aside0.mk (Kd.R_drew HL255_0.out)
                                       have n3_ := Aside0.mk (Kd.C_drew HR255_0.out)
                                       have n4_ := Aside0.mk (below_drew1 HB.out)
                                       clear HO_9
                                       clear HO_11
                                       clear HL255_0
                                       clear HR255_0
                                       clear HB
                                       have HO_9 := n0_
                                       have HO_11 := n1_
                                       have HL255_0 := n2_
                                       have HR255_0 := n3_
                                       have HB := n4_
                                       clear n0_ n1_ n2_ n3_ n4_
                                       have p256 : 0 ≤ (x19_6 : Int) := of_decide_eq_true (by first | (with_reducible assumption) | assumption)
                                       have q256 : x19_6 < (x9_8.length : Int) := of_decide_eq_true (by first | (with_reducible assumption) | assumption)
                                       obtain ⟨ad256, A256_0, c256_0, e256, hx256_0, hl256_0, hi256_0⟩ := at_L1 (Kd.S_reads' HO_9.out).2.2 x19_6 p256 q256
                                       obtain rfl : ad235 = ad256 := (by injection e256)
                                       obtain ⟨ce256, hce256, hMe256, hcc256⟩ := Kd.S_get HO_9.out [] x19_6 p256 (by first | exact q256 | exact of_decide_eq_true (by first | (with_reducible assumption) | assumption) | (have e_ := (Kd.S_reads' HO_9.out).1; omega))
                                       obtain ⟨ve256_0, rfl, ge256_0⟩ := hMe256
                                       have hv256_0 := hcc256 0 _ rfl
                                       rw [Nat.add_zero, show ((Kd.slice 22 (Kd.int .u64))).sz = 1 from rfl, Nat.mul_one] at hv256_0
                                       replace hv256_0 := Option.some.inj (hv256_0.symm.trans hx256_0)
                                       rw [hv256_0] at ge256_0
                                       have HL256_0 := Aside0.mk (show Kd.R (Kd.int .u64) 22 _ _ _ _ (rd_L1 x9_8 x19_6) from ge256_0)
                                       clear hv256_0 ge256_0
                                       have HX256_0 := Aside0.mk hx256_0
                                       clear hcc256 hce256
                                       have HR256_0 := Aside0.mk hi256_0
                                       have HC256_0 := Aside0.mk hl256_0
                                       clear hi256_0 hl256_0
                                       replace p256 := eq_true p256
                                       replace q256 := eq_true q256
                                       have p257 : 0 ≤ (x19_6 : Int) := of_decide_eq_true (by first | (with_reducible assumption) | assumption)
                                       have q257 : x19_6 < (x9_8.length : Int) := of_decide_eq_true (by first | (with_reducible assumption) | assumption)
                                       obtain ⟨ad257, A257_0, c257_0, e257, hx257_0, hl257_0, hi257_0⟩ := at_L1 (Kd.S_reads' HO_9.out).2.2 x19_6 p257 q257
                                       obtain rfl : ad235 = ad257 := (by injection e257)
                                       obtain ⟨ce257, hce257, hMe257, hcc257⟩ := Kd.S_get HO_9.out [] x19_6 p257 (by first | exact q257 | exact of_decide_eq_true (by first | (with_reducible assumption) | assumption) | (have e_ := (Kd.S_reads' HO_9.out).1; omega))
                                       obtain ⟨ve257_0, rfl, ge257_0⟩ := hMe257
                                       have hv257_0 := hcc257 0 _ rfl
                                       rw [Nat.add_zero, show ((Kd.slice 22 (Kd.int .u64))).sz = 1 from rfl, Nat.mul_one] at hv257_0
                                       replace hv257_0 := Option.some.inj (hv257_0.symm.trans hx257_0)
                                       rw [hv257_0] at ge257_0
                                       have HL257_0 := Aside0.mk (show Kd.R (Kd.int .u64) 22 _ _ _ _ (rd_L1 x9_8 x19_6) from ge257_0)
                                       clear hv257_0 ge257_0
                                       have HX257_0 := Aside0.mk hx257_0
                                       clear hcc257 hce257
                                       have HR257_0 := Aside0.mk hi257_0
                                       have HC257_0 := Aside0.mk hl257_0
                                       clear hi257_0 hl257_0
                                       replace p257 := eq_true p257
                                       replace q257 := eq_true q257
                                       have ea_ := Option.some.inj (hx256_0.symm.trans hx257_0)
                                       injection ea_ with ea_ en_ ec_
                                       subst ea_
                                       subst ec_
                                       clear en_
                                       have p258 : 0 ≤ (x21_8 : Int) := of_decide_eq_true (by first | (with_reducible assumption) | assumption)
                                       have q258 : x21_8 < ((rd_L1 x9_8 x19_6).length : Int) := of_decide_eq_true (by first | (with_reducible assumption) | assumption)
                                       obtain ⟨ad258, e258, hx258_0⟩ := Kd.at_int (by repeat (first | (with_reducible exact HR257_0.out) | (with_reducible refine Kd.C_alloc ?_ _) | (with_reducible refine Kd.C_drewN ?_ _) | (with_reducible refine Kd.C_drew ?_) | exact HR257_0.out)) x21_8 p258 q258
                                       cases e258
                                       replace p258 := eq_true p258
                                       replace q258 := eq_true q258
                                       have p259 : 0 ≤ ((x11_2.length : Int) : Int) := of_decide_eq_true (by first | (with_reducible assumption) | assumption)
                                       have q259 : (x11_2.length : Int) < (x9_8.length : Int) := of_decide_eq_true (by first | (with_reducible assumption) | assumption)
                                       obtain ⟨ad259, A259_0, c259_0, e259, hx259_0, hl259_0, hi259_0⟩ := at_L1 (Kd.S_reads' HO_9.out).2.2 (x11_2.length : Int) p259 q259
                                       (try rw [Int.toNat_natCast] at hx259_0)
                                       obtain rfl : ad235 = ad259 := (by injection e259)
                                       obtain ⟨ce259, hce259, hMe259, hcc259⟩ := Kd.S_get HO_9.out [] (x11_2.length : Int) p259 (by first | exact q259 | exact of_decide_eq_true (by first | (with_reducible assumption) | assumption) | (have e_ := (Kd.S_reads' HO_9.out).1; omega))
                                       obtain ⟨ve259_0, rfl, ge259_0⟩ := hMe259
                                       have hv259_0 := hcc259 0 _ rfl
                                       rw [Nat.add_zero, show ((Kd.slice 22 (Kd.int .u64))).sz = 1 from rfl, Nat.mul_one] at hv259_0
                                       replace hv259_0 := Option.some.inj (hv259_0.symm.trans hx259_0)
                                       rw [hv259_0] at ge259_0
                                       have HL259_0 := Aside0.mk (show Kd.R (Kd.int .u64) 22 _ _ _ _ (rd_L1 x9_8 (x11_2.length : Int)) from ge259_0)
                                       clear hv259_0 ge259_0
                                       have HX259_0 := Aside0.mk hx259_0
                                       clear hcc259 hce259
                                       have HR259_0 := Aside0.mk hi259_0
                                       have HC259_0 := Aside0.mk hl259_0
                                       clear hi259_0 hl259_0
                                       (try simp only [Go.IntWalk.toNatUp] at hx259_0)
                                       (try simp only [hl9_25, hl9_5, hl9_6, hl9_8] at p259)
                                       (try simp only [hl9_25, hl9_5, hl9_6, hl9_8] at q259)
                                       (try simp only [hl9_25, hl9_5, hl9_6, hl9_8] at hx259_0)
                                       replace p259 := eq_true p259
                                       replace q259 := eq_true q259
                                       have p260 : 0 ≤ (x21_8 : Int) := of_decide_eq_true (by first | (with_reducible assumption) | assumption)
                                       have q260 : x21_8 < ((rd_L1 x9_8 (x11_2.length : Int)).length : Int) := of_decide_eq_true (by first | (with_reducible assumption) | assumption)
                                       obtain ⟨ad260, e260, hx260_0⟩ := Kd.at_int (by repeat (first | (with_reducible exact HR259_0.out) | (with_reducible refine Kd.C_alloc ?_ _) | (with_reducible refine Kd.C_drewN ?_ _) | (with_reducible refine Kd.C_drew ?_) | exact HR259_0.out)) x21_8 p260 q260
                                       cases e260
                                       replace p260 := eq_true p260
                                       replace q260 := eq_true q260
                                       refine start_ (n := 26) (S := fun w' => w'.cell? (ad235.add (x19_6).toNat) = some (.slice (some ad258) (rd_L1 x9_8 x19_6).length c256_0) ∧ w'.cell? (ad235.add (x19_6).toNat) = some (.slice (some ad258) (rd_L1 x9_8 x19_6).length c256_0) ∧ w'.cell? (ad258.add (x21_8).toNat) = some (.int .u64 (rd (rd_L1 x9_8 x19_6) x21_8)) ∧ w'.cell? (ad235.add x11_2.length) = some (.slice (some ad260) (rd_L1 x9_8 (x11_2.length : Int)).length c259_0) ∧ w'.cell? (ad260.add (x21_8).toNat) = some (.int .u64 (rd (rd_L1 x9_8 (x11_2.length : Int)) x21_8))) (ds := [25]) #[false, false, false, false, false, false, false, false, false, false, false, false, false, false, false, false, false, false, false, false, false, false, false, false, false, false] (by kernel_rfl) rfl rfl ⟨hx256_0, hx257_0, hx258_0, hx259_0, hx260_0⟩ (fun hHeld => ?_); refine with_tabW privityref06_Reduced.tab33 privityref06_Reduced.bits33 (fun HT_ HW_ => ?_)
                                       generalize wr.drew = w69 at HO_9 HO_11 HL255_0 HR255_0 HB HL256_0 HL257_0 HL259_0 HR256_0 HR257_0 HR259_0 HX256_0 HX257_0 HX259_0 hx256_0 hx257_0 hx258_0 hx259_0 hx260_0 hHeld ⊢
                                       refine pure_ (i := 0) (N := some 162) (v := ?_) (a' := ?_) #[true, false, false, false, false, false, false, false, false, false, false, false, false, false, false, false, false, false, false, false, false, false, false, false, false, false] rfl rfl (any_of HT_.out (by kernel_rfl)) (fun _ _ _ h => h) (Or.inl ⟨by rfl, ?_⟩) ?_ ?_; rotate_left; (intro w'; go_simp; with_reducible rfl); rotate_left; (simp only [Act.put, List.setIfInBounds_toArray, List.set_cons_zero, List.set_cons_succ, i64_w, i32_w]; rfl)
                                       refine pure_ (i := 1) (N := some 163) (v := ?_) (a' := ?_) #[true, true, false, false, false, false, false, false, false, false, false, false, false, false, false, false, false, false, false, false, false, false, false, false, false, false] rfl rfl (any_of HT_.out (by kernel_rfl)) (fun _ _ _ h => h) (Or.inl ⟨by rfl, ?_⟩) ?_ ?_; rotate_left; (intro w'; go_simp; with_reducible rfl); rotate_left; (simp only [Act.put, List.setIfInBounds_toArray, List.set_cons_zero, List.set_cons_succ, i64_w, i32_w]; rfl)
                                       refine pure_ (i := 2) (N := some 164) (v := ?_) (a' := ?_) #[true, true, true, false, false, false, false, false, false, false, false, false, false, false, false, false, false, false, false, false, false, false, false, false, false, false] rfl rfl (any_of HT_.out (by kernel_rfl)) (fun _ _ _ h => h) (Or.inl ⟨by rfl, ?_⟩) ?_ ?_; rotate_left; (intro w'; go_simp; with_reducible rfl); rotate_left; (simp only [Act.put, List.setIfInBounds_toArray, List.set_cons_zero, List.set_cons_succ, i64_w, i32_w]; rfl)
                                       refine pure_ (i := 4) (N := some 166) (v := ?_) (a' := ?_) #[true, true, true, false, true, false, false, false, false, false, false, false, false, false, false, false, false, false, false, false, false, false, false, false, false, false] rfl rfl (any_of HT_.out (by kernel_rfl)) (fun _ _ _ h => h) (Or.inl ⟨by rfl, ?_⟩) ?_ ?_; rotate_left; (intro w'; go_simp; with_reducible rfl); rotate_left; (simp only [Act.put, List.setIfInBounds_toArray, List.set_cons_zero, List.set_cons_succ, i64_w, i32_w]; rfl)
                                       refine pure_ (i := 5) (N := some 167) (v := ?_) (a' := ?_) #[true, true, true, false, true, true, false, false, false, false, false, false, false, false, false, false, false, false, false, false, false, false, false, false, false, false] rfl rfl (any_of HT_.out (by kernel_rfl)) (fun _ _ _ h => h) (Or.inl ⟨by rfl, ?_⟩) ?_ ?_; rotate_left; (intro w'; go_simp; with_reducible rfl); rotate_left; (simp only [Act.put, List.setIfInBounds_toArray, List.set_cons_zero, List.set_cons_succ, i64_w, i32_w]; rfl)
                                       refine pure_ (i := 6) (N := some 168) (v := ?_) (a' := ?_) #[true, true, true, false, true, true, true, false, false, false, false, false, false, false, false, false, false, false, false, false, false, false, false, false, false, false] rfl rfl (any_of HT_.out (by kernel_rfl)) (fun _ _ _ h => h) (Or.inl ⟨by rfl, ?_⟩) ?_ ?_; rotate_left; (intro w'; go_simp; with_reducible rfl); rotate_left; (simp only [Act.put, List.setIfInBounds_toArray, List.set_cons_zero, List.set_cons_succ, i64_w, i32_w]; rfl)
                                       refine pure_ (i := 7) (N := some 169) (v := ?_) (a' := ?_) #[true, true, true, false, true, true, true, true, false, false, false, false, false, false, false, false, false, false, false, false, false, false, false, false, false, false] rfl rfl (any_of HT_.out (by kernel_rfl)) (fun _ _ _ h => h) (Or.inl ⟨by rfl, ?_⟩) ?_ ?_; rotate_left; (intro w'; go_simp; with_reducible rfl); rotate_left; (simp only [Act.put, List.setIfInBounds_toArray, List.set_cons_zero, List.set_cons_succ, i64_w, i32_w]; rfl)
                                       refine pure_ (i := 8) (N := some 170) (v := ?_) (a' := ?_) #[true, true, true, false, true, true, true, true, true, false, false, false, false, false, false, false, false, false, false, false, false, false, false, false, false, false] rfl rfl (any_of HT_.out (by kernel_rfl)) (fun _ _ _ h => h) (Or.inl ⟨by rfl, ?_⟩) ?_ ?_; rotate_left; (intro w'; go_simp; with_reducible rfl); rotate_left; (simp only [Act.put, List.setIfInBounds_toArray, List.set_cons_zero, List.set_cons_succ, i64_w, i32_w]; rfl)
                                       refine pure_ (i := 10) (N := some 172) (v := ?_) (a' := ?_) #[true, true, true, false, true, true, true, true, true, false, true, false, false, false, false, false, false, false, false, false, false, false, false, false, false, false] rfl rfl (any_of HT_.out (by kernel_rfl)) (fun _ _ _ h => h) (Or.inl ⟨by rfl, ?_⟩) ?_ ?_; rotate_left; (intro w'; go_simp; with_reducible rfl); rotate_left; (simp only [Act.put, List.setIfInBounds_toArray, List.set_cons_zero, List.set_cons_succ, i64_w, i32_w]; rfl)
                                       refine pure_ (i := 13) (N := some 175) (v := ?_) (a' := ?_) #[true, true, true, false, true, true, true, true, true, false, true, false, false, true, false, false, false, false, false, false, false, false, false, false, false, false] rfl rfl (any_of HT_.out (by kernel_rfl)) (fun _ _ _ h => h) (Or.inl ⟨by rfl, ?_⟩) ?_ ?_; rotate_left; (intro w'; go_simp; with_reducible rfl); rotate_left; (simp only [Act.put, List.setIfInBounds_toArray, List.set_cons_zero, List.set_cons_succ, i64_w, i32_w]; rfl)
                                       refine pure_ (i := 14) (N := some 176) (v := ?_) (a' := ?_) #[true, true, true, false, true, true, true, true, true, false, true, false, false, true, true, false, false, false, false, false, false, false, false, false, false, false] rfl rfl (any_of HT_.out (by kernel_rfl)) (fun _ _ _ h => h) (Or.inl ⟨by rfl, ?_⟩) ?_ ?_; rotate_left; (intro w'; go_simp; with_reducible rfl); rotate_left; (simp only [Act.put, List.setIfInBounds_toArray, List.set_cons_zero, List.set_cons_succ, i64_w, i32_w]; rfl)
                                       refine pure_ (i := 15) (N := some 177) (v := ?_) (a' := ?_) #[true, true, true, false, true, true, true, true, true, false, true, false, false, true, true, true, false, false, false, false, false, false, false, false, false, false] rfl rfl (any_of HT_.out (by kernel_rfl)) (fun _ _ _ h => h) (Or.inl ⟨by rfl, ?_⟩) ?_ ?_; rotate_left; (intro w'; go_simp; with_reducible rfl); rotate_left; (simp only [Act.put, List.setIfInBounds_toArray, List.set_cons_zero, List.set_cons_succ, i64_w, i32_w]; rfl)
                                       refine pure_ (i := 16) (N := some 178) (v := ?_) (a' := ?_) #[true, true, true, false, true, true, true, true, true, false, true, false, false, true, true, true, true, false, false, false, false, false, false, false, false, false] rfl rfl (any_of HT_.out (by kernel_rfl)) (fun _ _ _ h => h) (Or.inl ⟨by rfl, ?_⟩) ?_ ?_; rotate_left; (intro w'; go_simp; with_reducible rfl); rotate_left; (simp only [Act.put, List.setIfInBounds_toArray, List.set_cons_zero, List.set_cons_succ, i64_w, i32_w]; rfl)
                                       refine pure_ (i := 17) (N := some 179) (v := ?_) (a' := ?_) #[true, true, true, false, true, true, true, true, true, false, true, false, false, true, true, true, true, true, false, false, false, false, false, false, false, false] rfl rfl (any_of HT_.out (by kernel_rfl)) (fun _ _ _ h => h) (Or.inl ⟨by rfl, ?_⟩) ?_ ?_; rotate_left; (intro w'; go_simp; with_reducible rfl); rotate_left; (simp only [Act.put, List.setIfInBounds_toArray, List.set_cons_zero, List.set_cons_succ, i64_w, i32_w]; rfl)
                                       refine pure_ (i := 19) (N := some 181) (v := ?_) (a' := ?_) #[true, true, true, false, true, true, true, true, true, false, true, false, false, true, true, true, true, true, false, true, false, false, false, false, false, false] rfl rfl (any_of HT_.out (by kernel_rfl)) (fun _ _ _ h => h) (Or.inl ⟨by rfl, ?_⟩) ?_ ?_; rotate_left; (intro w'; go_simp; with_reducible rfl); rotate_left; (simp only [Act.put, List.setIfInBounds_toArray, List.set_cons_zero, List.set_cons_succ, i64_w, i32_w]; rfl)
                                       refine take_ (i := 3) (N := some 165) (v := ?_) (a' := ?_) #[true, true, true, true, true, true, true, true, true, false, true, false, false, true, true, true, true, true, false, true, false, false, false, false, false, false] rfl rfl (take_ofW HT_.out HW_.out (by kernel_rfl)) (fun _ _ _ h => h) (Or.inl ⟨by rfl, ?_⟩) hHeld ?_ ?_; rotate_left; (rintro w' ⟨s0, s1, s2, s3, s4⟩; go_simp; with_reducible rfl); rotate_left; (simp only [Act.put, List.setIfInBounds_toArray, List.set_cons_zero, List.set_cons_succ, i64_w, i32_w]; rfl)
                                       refine take_ (i := 9) (N := some 171) (v := ?_) (a' := ?_) #[true, true, true, true, true, true, true, true, true, true, true, false, false, true, true, true, true, true, false, true, false, false, false, false, false, false] rfl rfl (take_ofW HT_.out HW_.out (by kernel_rfl)) (fun _ _ _ h => h) (Or.inl ⟨by rfl, ?_⟩) hHeld ?_ ?_; rotate_left; (rintro w' ⟨s0, s1, s2, s3, s4⟩; go_simp; with_reducible rfl); rotate_left; (simp only [Act.put, List.setIfInBounds_toArray, List.set_cons_zero, List.set_cons_succ, i64_w, i32_w]; rfl)
                                       refine pure_ (i := 11) (N := some 173) (v := ?_) (a' := ?_) #[true, true, true, true, true, true, true, true, true, true, true, true, false, true, true, true, true, true, false, true, false, false, false, false, false, false] rfl rfl (any_of HT_.out (by kernel_rfl)) (fun _ _ _ h => h) (Or.inl ⟨by rfl, ?_⟩) ?_ ?_; rotate_left; (intro w'; go_simp; with_reducible rfl); rotate_left; (simp only [Act.put, List.setIfInBounds_toArray, List.set_cons_zero, List.set_cons_succ, i64_w, i32_w]; rfl)
                                       refine take_ (i := 12) (N := some 174) (v := ?_) (a' := ?_) #[true, true, true, true, true, true, true, true, true, true, true, true, true, true, true, true, true, true, false, true, false, false, false, false, false, false] rfl rfl (take_ofW HT_.out HW_.out (by kernel_rfl)) (fun _ _ _ h => h) (Or.inl ⟨by rfl, ?_⟩) hHeld ?_ ?_; rotate_left; (rintro w' ⟨s0, s1, s2, s3, s4⟩; go_simp; with_reducible rfl); rotate_left; (simp only [Act.put, List.setIfInBounds_toArray, List.set_cons_zero, List.set_cons_succ, i64_w, i32_w]; rfl)
                                       refine take_ (i := 18) (N := some 180) (v := ?_) (a' := ?_) #[true, true, true, true, true, true, true, true, true, true, true, true, true, true, true, true, true, true, true, true, false, false, false, false, false, false] rfl rfl (take_ofW HT_.out HW_.out (by kernel_rfl)) (fun _ _ _ h => h) (Or.inl ⟨by rfl, ?_⟩) hHeld ?_ ?_; rotate_left; (rintro w' ⟨s0, s1, s2, s3, s4⟩; go_simp; with_reducible rfl); rotate_left; (simp only [Act.put, List.setIfInBounds_toArray, List.set_cons_zero, List.set_cons_succ, i64_w, i32_w]; rfl)
                                       refine pure_ (i := 20) (N := some 182) (v := ?_) (a' := ?_) #[true, true, true, true, true, true, true, true, true, true, true, true, true, true, true, true, true, true, true, true, true, false, false, false, false, false] rfl rfl (any_of HT_.out (by kernel_rfl)) (fun _ _ _ h => h) (Or.inl ⟨by rfl, ?_⟩) ?_ ?_; rotate_left; (intro w'; go_simp; with_reducible rfl); rotate_left; (simp only [Act.put, List.setIfInBounds_toArray, List.set_cons_zero, List.set_cons_succ, i64_w, i32_w]; rfl)
                                       refine take_ (i := 21) (N := some 183) (v := ?_) (a' := ?_) #[true, true, true, true, true, true, true, true, true, true, true, true, true, true, true, true, true, true, true, true, true, true, false, false, false, false] rfl rfl (take_ofW HT_.out HW_.out (by kernel_rfl)) (fun _ _ _ h => h) (Or.inl ⟨by rfl, ?_⟩) hHeld ?_ ?_; rotate_left; (rintro w' ⟨s0, s1, s2, s3, s4⟩; go_simp; with_reducible rfl); rotate_left; (simp only [Act.put, List.setIfInBounds_toArray, List.set_cons_zero, List.set_cons_succ, i64_w, i32_w]; rfl)
                                       refine one_ (i := 22) (N := some 184) #[true, true, true, true, true, true, true, true, true, true, true, true, true, true, true, true, true, true, true, true, true, true, true, false, false, false] rfl rfl (one_of HT_.out (by kernel_rfl)) (by decide) (fun K hK => ?_)
                                       refine goes_ Try.func62 (by kernel_rfl) rfl #[.int .u64 a0, .int .u64 (rd (rd_L1 x9_6 x19_6) x13_2), .int .u64 (rd (rd_L1 x9_8 (x11_2.length : Int)) x21_8)] (by rfl) rfl rfl (by (try simp only [List.map_toArray, List.map_cons, List.map_nil]); first | done | rfl | (simp only [List.length_drop, List.length_take]; rfl)) ?_
                                       with_reducible refine (privityref01_Mul.calls a0 (rd (rd_L1 x9_6 x19_6) x13_2) (rd (rd_L1 x9_8 (x11_2.length : Int)) x21_8) t261 _ A66.out).mono ?_
                                       rintro e w' ⟨rfl, ⟨nd, rfl⟩⟩
                                       refine ⟨_, rfl, ?_⟩
                                       refine hK.out _ _ ⟨hHeld.1, hHeld.2.1, hHeld.2.2.1, hHeld.2.2.2.1, hHeld.2.2.2.2⟩ (fun hHeld => ?_)
                                       clear hK K
                                       refine norm_ (a' := ?_) ?_ ?_
                                       rotate_left
                                       ·show Act.put _ (some 184) _ = _
                                        simp only [Act.put, List.setIfInBounds_toArray, List.set_cons_zero, List.set_cons_succ, i64_w, i32_w]
                                        rfl
                                       refine one_ (i := 23) (N := some 185) #[true, true, true, true, true, true, true, true, true, true, true, true, true, true, true, true, true, true, true, true, true, true, true, true, false, false] rfl rfl (one_of HT_.out (by kernel_rfl)) (by decide) (fun K hK => ?_)
                                       refine goes_ Try.func80 (by kernel_rfl) rfl #[.int .u64 a0, .int .u64 (rd (rd_L1 x9_8 x19_6) x21_8), .int .u64 t261] (by rfl) rfl rfl (by (try simp only [List.map_toArray, List.map_cons, List.map_nil]); first | done | rfl | (simp only [List.length_drop, List.length_take]; rfl)) ?_
                                       with_reducible refine (privityref01_Sub.calls a0 (rd (rd_L1 x9_8 x19_6) x21_8) t261 t262 _ A67.out).mono ?_
                                       rintro e w' ⟨rfl, ⟨nd, rfl⟩⟩
                                       refine ⟨_, rfl, ?_⟩
                                       have p68 : 0 ≤ (x21_8 : Int) := of_decide_eq_true (by first | (with_reducible assumption) | assumption)
                                       have q68 : (x21_8 : Int) < (((rd_L1 x9_8 x19_6).length : Int) : Int) := of_decide_eq_true (by first | (with_reducible assumption) | assumption)
                                       obtain ⟨go68, co68, eo68, gb68, gl68, cl68, HG68⟩ := Kd.R_form HL256_0.out (by omega)
                                       (first | cases eo68 | (injection eo68 with ea_ en_ ec_; (first | subst ea_ | (injection ea_ with ea_; subst ea_)); subst ec_; clear en_))
                                       have GB68 := Aside0.mk gb68
                                       have GG68 := Aside0.mk HG68
                                       clear gb68 gl68 HG68
                                       (first | simp only [add_plain] at hx258_0 | skip)
                                       obtain ⟨hx68_0, hf68_0⟩ := Kd.R_celln 0 HL256_0.out (x21_8 : Int) p68 q68
                                       replace p68 := eq_true p68
                                       replace q68 := eq_true q68
                                       have hq70 : (x19_6 : Int) < (x9_8.length : Int) := (by have h_ : (x19_6 : Int) < ((x9_8.length : Int) : Int) := of_decide_eq_true (by first | (with_reducible assumption) | assumption); first | exact h_ | (have e_ := (Kd.S_reads' HO_9.out).1; omega) | simpa only [List.length_set, List.length_set] using h_)
                                       obtain ⟨oki70, ce70, hcl70, hM70, hcc70, hok70, hbk70⟩ := Kd.S_borrow HO_9.out [] (x19_6 : Int) (of_decide_eq_true (by first | (with_reducible assumption) | assumption)) hq70
                                       obtain ⟨ve70_0, rfl, ge70_0⟩ := hM70
                                       have hv70 := hcc70 0 _ rfl
                                       rw [Nat.add_zero, show ((Kd.slice 22 (Kd.int .u64))).sz = 1 from rfl, Nat.mul_one] at hv70
                                       replace hv70 := Option.some.inj (hv70.symm.trans HX256_0.out)
                                       subst hv70
                                       clear hcc70 hcl70
                                       replace ge70_0 := (show Kd.R (Kd.int .u64) 22 _ _ _ _ (rd_L1 x9_8 x19_6) from ge70_0)
                                       have HP70 := Kd.R_putg ge70_0 (x21_8 : Int) t262
                                       rw [← Ny263.out] at HP70
                                       have HS70 := hbk70 HP70.2 (fun k_ e_ => by injection e_ with e_; subst e_; exact ge70_0.1 _ rfl) (x' := y263) (Kd.M_row HP70.1)
                                       rw [← Ny265.out] at HS70
                                       have HQ70 := Aside0.mk HS70
                                       clear HP70 HS70 hbk70 hok70
                                       refine hK.out _ _ ⟨hHeld.1, hHeld.2.1, hHeld.2.2.1, hHeld.2.2.2.1, hHeld.2.2.2.2⟩ (fun hHeld => ?_)
                                       clear hK K
                                       refine norm_ (a' := ?_) ?_ ?_
                                       rotate_left
                                       ·show Act.put _ (some 185) _ = _
                                        simp only [Act.put, List.setIfInBounds_toArray, List.set_cons_zero, List.set_cons_succ, i64_w, i32_w]
                                        rfl
                                       refine pure_ (i := 24) (N := some 186) (v := ?_) (a' := ?_) #[true, true, true, true, true, true, true, true, true, true, true, true, true, true, true, true, true, true, true, true, true, true, true, true, true, false] rfl rfl (any_of HT_.out (by kernel_rfl)) (fun _ _ _ h => h) (Or.inl ⟨by rfl, ?_⟩) ?_ ?_; rotate_left; (intro w'; go_simp; with_reducible rfl); rotate_left; (simp only [Act.put, List.setIfInBounds_toArray, List.set_cons_zero, List.set_cons_succ, i64_w, i32_w]; rfl)
                                       refine last_ (i := 25) (N := none) #[true, true, true, true, true, true, true, true, true, true, true, true, true, true, true, true, true, true, true, true, true, true, true, true, true, true] rfl rfl (one_of HT_.out (by kernel_rfl)) (by decide) (fun K hK => ?_)
                                       refine skip_ (w1 := ?_) (by rfl) rfl ?_ ?_
                                       rotate_left
                                       ·go_simp
                                        rfl
                                       refine hK.out _ _ ?_
                                       clear hK K
                                       refine done_ (done_of HT_.out (by kernel_rfl)) ?_
                                       try go_wp2
                                       (try simp only [← hl9_8])
                                       go_roundg k8
                                       case measure => have := HK1.out; have := HK2.out; have := HJ13.out; have := HJ25.out; have := HK5.out; have := HK6.out; have := HJ55.out; have := HK8.out; omega
                                       case rel => exact ⟨(y265), (wrap64 (x21_8 + 1)), (by first | rfl | (simp; done) | (simp [*]; done)), H', ⟨by have := HK1.out; have := HK2.out; have := HJ13.out; have := HJ25.out; have := HK5.out; have := HK6.out; have := HJ55.out; have := HK8.out; omega⟩, ⟨by (try simp only [hl9_25]); (try simp only [hl9_5]); (try simp only [hl9_6]); (try simp only [hl9_8]); (with_reducible repeat (first | apply Kd.S_alloc | apply Kd.S_drewN | apply Kd.S_drew)); exact HQ70.out⟩, ⟨by (try simp only [hl9_25]); (try simp only [hl9_5]); (try simp only [hl9_6]); (try simp only [hl9_8]); (with_reducible repeat (first | apply Kd.R_alloc | apply Kd.R_drewN | apply Kd.R_drew)); exact Kd.R_mono (Kd.R_far (p := ⟨go68, (x21_8 : Int).toNat, none⟩) (Kd.R_types HO_11.out GG68.out (by decide)) (fun _ hk => hk.2) (.int .u64 t262)) (fun _ hk => trivial)⟩, ⟨by repeat (first | (with_reducible first | exact HB.out | apply below_alloc | apply pw_below_drewN | apply below_drew1 | refine below_set ?_ GB68.out) | exact HB.out)⟩⟩
                                      ·rw [if_neg c65] at H
                                       exact absurd H (by simp)
                                     ·rw [if_neg c64] at H
                                      exact absurd H (by simp)
                                    ·rw [if_neg c63] at H
                                     exact absurd H (by simp)
                                   ·rw [if_neg c62] at H
                                    exact absurd H (by simp)
                                  ·rw [if_neg c61] at H
                                   have c61b0 : decide (x21_8 < ((rd_L1 x9_8 x19_6).length : Int)) = false := decide_eq_false c61
                                   clear c61
                                   have H' := Aside0.mk H
                                   clear H
                                   have p255 : 0 ≤ (x19_6 : Int) := of_decide_eq_true (by first | (with_reducible assumption) | assumption)
                                   have q255 : x19_6 < (x9_8.length : Int) := of_decide_eq_true (by first | (with_reducible assumption) | assumption)
                                   obtain ⟨ad255, A255_0, c255_0, e255, hx255_0, hl255_0, hi255_0⟩ := at_L1 (Kd.S_reads' HO_9.out).2.2 x19_6 p255 q255
                                   obtain rfl : ad235 = ad255 := (by injection e255)
                                   obtain ⟨ce255, hce255, hMe255, hcc255⟩ := Kd.S_get HO_9.out [] x19_6 p255 (by first | exact q255 | exact of_decide_eq_true (by first | (with_reducible assumption) | assumption) | (have e_ := (Kd.S_reads' HO_9.out).1; omega))
                                   obtain ⟨ve255_0, rfl, ge255_0⟩ := hMe255
                                   have hv255_0 := hcc255 0 _ rfl
                                   rw [Nat.add_zero, show ((Kd.slice 22 (Kd.int .u64))).sz = 1 from rfl, Nat.mul_one] at hv255_0
                                   replace hv255_0 := Option.some.inj (hv255_0.symm.trans hx255_0)
                                   rw [hv255_0] at ge255_0
                                   have HL255_0 := Aside0.mk (show Kd.R (Kd.int .u64) 22 _ _ _ _ (rd_L1 x9_8 x19_6) from ge255_0)
                                   clear hv255_0 ge255_0
                                   have HX255_0 := Aside0.mk hx255_0
                                   clear hcc255 hce255
                                   have HR255_0 := Aside0.mk hi255_0
                                   have HC255_0 := Aside0.mk hl255_0
                                   clear hi255_0 hl255_0
                                   replace p255 := eq_true p255
                                   replace q255 := eq_true q255
                                   go_wp2
                                   (try simp only [← hl9_6, ← hl9_8])
                                   go_roundg k8
                                   case measure => have := HK1.out; have := HK2.out; have := HJ13.out; have := HJ25.out; have := HK5.out; have := HK6.out; have := HJ55.out; have := HK8.out; omega
                                   case rel => exact ⟨(x9_8), (wrap64 (x19_6 + 1)), (by first | rfl | (simp; done) | (simp [*]; done)), H', ⟨by have := HK1.out; have := HK2.out; have := HJ13.out; have := HJ25.out; have := HK5.out; have := HK6.out; have := HJ55.out; have := HK8.out; omega⟩, ⟨by (try simp only [hl9_25]); (try simp only [hl9_5]); (try simp only [hl9_6]); (try simp only [hl9_8]); (with_reducible repeat (first | apply Kd.S_alloc | apply Kd.S_drewN | apply Kd.S_drew)); exact HO_9.out⟩, ⟨by (try simp only [hl9_25]); (try simp only [hl9_5]); (try simp only [hl9_6]); (try simp only [hl9_8]); (with_reducible repeat (first | apply Kd.R_alloc | apply Kd.R_drewN | apply Kd.R_drew)); exact HO_11.out⟩, ⟨by repeat (first | (with_reducible first | exact HB.out | apply below_alloc | apply pw_below_drewN | apply below_drew1) | exact HB.out)⟩⟩
                                 ·rw [if_neg c60] at H
                                  exact absurd H (by simp)
                                ·rw [if_neg c59] at H
                                 exact absurd H (by simp)
                             ·replace c58 := Bool.eq_false_iff.mpr c58
                              subst c58
                              have H1 : (privityref06_Reduced.l4 kj55 a0 a2 x9_6 x11_2 t237 x13_2 (x11_2.length : Int) (wrap64 (x19_6 + 1))) = some (r1, r2, r3) := by rw [if_neg (show ¬ (false = true) by decide)] at H; exact H
                              clear H
                              have H := H1
                              clear H1
                              have H' := Aside0.mk H
                              clear H
                              go_wp2
                              (try simp only [← hl9_6])
                              go_roundg kj55
                              case measure => have := HK1.out; have := HK2.out; have := HJ13.out; have := HJ25.out; have := HK5.out; have := HK6.out; have := HJ55.out; omega
                              case rel => exact ⟨(x9_6), (wrap64 (x19_6 + 1)), (by first | rfl | (simp; done) | (simp [*]; done)), H', ⟨by have := HK1.out; have := HK2.out; have := HJ13.out; have := HJ25.out; have := HK5.out; have := HK6.out; have := HJ55.out; omega⟩, ⟨by (try simp only [hl9_25]); (try simp only [hl9_5]); (try simp only [hl9_6]); (with_reducible repeat (first | apply Kd.S_alloc | apply Kd.S_drewN | apply Kd.S_drew)); exact HO_9.out⟩, ⟨by (try simp only [hl9_25]); (try simp only [hl9_5]); (try simp only [hl9_6]); (with_reducible repeat (first | apply Kd.R_alloc | apply Kd.R_drewN | apply Kd.R_drew)); exact HO_11.out⟩, ⟨by repeat (first | (with_reducible first | exact HB.out | apply below_alloc | apply pw_below_drewN | apply below_drew1) | exact HB.out)⟩⟩
                          ·rw [if_neg c55] at H
                           exact absurd H (by simp)
                         ·rw [if_neg c54] at H
                          exact absurd H (by simp)
                        ·rw [if_neg c53] at H
                         exact absurd H (by simp)
                       ·rw [if_neg c52] at H
                        have c52b0 : decide (x19_6 < (x9_6.length : Int)) = false := decide_eq_false c52
                        clear c52
                        by_cases c72 : x11_2.length < 17592186044416
                        ·rw [if_pos c72] at H
                         have LMc72 := Aside0.mk c72
                         clear c72
                         obtain ⟨y250, hy250⟩ : ∃ y_ : List Int, y_ = (x11_2 ++ [x13_2]) := ⟨_, rfl⟩
                         replace H : (privityref06_Reduced.l1 k6 a0 a2 x9_6 y250 t237 (wrap64 (x13_2 + 1))) = some (r1, r2, r3) := by first | (rw [hy250]; with_reducible exact H) | (have H2_ := (Option.bind_some _ _).symm.trans H; rw [hy250]; with_reducible exact H2_) | (have H2_ := (Option.bind_some _ _).symm.trans H; with_reducible exact H2_) | with_reducible exact H | (rw [hy250]; exact H) | exact H
                         have Ny250 := Aside0.mk hy250
                         clear hy250
                         have H' := Aside0.mk H
                         clear H
                         go_wp2_with (first | ((with_reducible refine gate_builtin (b := .append) (xs := #[.tmp 187, .tmp 189]) rfl ?_); at_builtin; refine Kd.R_append (Kd.int .i64) (w0 := w) w.heap.size rfl (.tmp 187) (.tmp 189) 51 3 (.int .i64 0) 8 rfl Try.underlying51 info3 rfl (by decide) (by omega) (.slice Ao15 x11_2.length co15) x11_2 x13_2 [.int .i64 x13_2] (fun _ => True) (fun _ => False) rfl rfl ?aP (fun _ hk => hk.elim) ?aF ?aO ?aB ?aS ?aL ?_; (case aP => exact rfl); (case aB => exact (by repeat (first | (with_reducible first | exact HB.out | apply below_alloc | apply pw_below_drewN | apply below_drew1) | exact HB.out))); (case aF => exact (fun _ _ => trivial)); (case aO => exact (by (with_reducible repeat (first | apply Kd.R_alloc | apply Kd.R_drewN | apply Kd.R_drew)); exact HO_11.out)); (case aS => exact (below_size (by repeat (first | (with_reducible first | exact HB.out | apply below_alloc | apply pw_below_drewN | apply below_drew1) | exact HB.out)))); (case aL => have := LMc72.out; omega); intro v251 w73 ho hb hg hat; rw [← Ny250.out] at ho; have n0_ := Aside0.mk (Kd.S_over' (by (with_reducible repeat (first | apply Kd.S_alloc | apply Kd.S_drewN | apply Kd.S_drew)); exact HO_9.out) (Kd.R_typed (by (with_reducible repeat (first | apply Kd.R_alloc | apply Kd.R_drewN | apply Kd.R_drew)); exact HO_11.out)) (by decide) hg); have n1_ := Aside0.mk (hb); have n2_ := Aside0.mk (ho); clear HO_9; clear HB; clear HO_11; have HO_9 := n0_; have HB := n1_; have HO252 := n2_; clear n0_ n1_ n2_; clear ho hb hg hat))
                         (try simp only [← hl9_25, ← hl9_5, ← hl9_6])
                         go_roundg k6
                         case measure => have := HK1.out; have := HK2.out; have := HJ13.out; have := HJ25.out; have := HK5.out; have := HK6.out; omega
                         case rel => exact ⟨(x9_6), (y250), (t237), (wrap64 (x13_2 + 1)), (by first | rfl | (simp; done) | (simp [*]; done)), (by first | rfl | (simp; done) | (simp [*]; done)), H', ⟨by have := HK1.out; have := HK2.out; have := HJ13.out; have := HJ25.out; have := HK5.out; have := HK6.out; omega⟩, ⟨by (try simp only [hl9_25]); (try simp only [hl9_5]); (try simp only [hl9_6]); (with_reducible repeat (first | apply Kd.S_alloc | apply Kd.S_drewN | apply Kd.S_drew)); exact HO_9.out⟩, ⟨by (try simp only [hl9_25]); (try simp only [hl9_5]); (try simp only [hl9_6]); (with_reducible repeat (first | apply Kd.R_alloc | apply Kd.R_drewN | apply Kd.R_drew)); exact HO252.out⟩, ⟨by repeat (first | (with_reducible first | exact HB.out | apply below_alloc | apply pw_below_drewN | apply below_drew1) | exact HB.out)⟩⟩
                        ·rw [if_neg c72] at H
                         exact absurd H (by simp)
                   ·rw [if_neg c44] at H
                    exact absurd H (by simp)
                  ·rw [if_neg c43] at H
                   exact absurd H (by simp)
               ·rw [if_neg c40] at H
                exact absurd H (by simp)
              ·rw [if_neg c39] at H
               exact absurd H (by simp)
             ·rw [if_neg c38] at H
              exact absurd H (by simp)
            ·rw [if_neg c37] at H
             exact absurd H (by simp)
      ·rw [if_neg c13] at H
       have c13b0 : decide (x13_2 < a2) = false := decide_eq_false c13
       clear c13
       simp only [Option.some.injEq, Prod.mk.injEq] at H
       obtain ⟨rfl, rfl, rfl⟩ := H
       go_wp2
       go_ret3
       exact ⟨_, _, by first | rfl | (simp [errW_none, errW_some] <;> rfl) | (simp [*, errW_none, errW_some] <;> rfl), by (with_reducible repeat (first | apply Kd.S_alloc | apply Kd.S_drewN | apply Kd.S_drew)); exact HO_9.out, by (with_reducible repeat (first | apply Kd.R_alloc | apply Kd.R_drewN | apply Kd.R_drew)); exact HO_11.out, by repeat (first | (with_reducible first | exact HB.out | apply below_alloc | apply pw_below_drewN | apply below_drew1) | exact HB.out)⟩

end Go.Proofs.Ytkjknpibcbpdfaa.M
