/- A list is the same as itself. -/
import Derived.Test.YtkjknpibcbpdfaaLaw6G
import Derived.Test.YtkjknpibcbpdfaaM2
namespace Go.Proofs.Ytkjknpibcbpdfaa
open Go.RowKit Go.Proofs.YtkjknpibcbpdfaaW.PrintWords
set_option linter.unusedVariables false

theorem sameList_ev (l : List Int) (hl : l.length ≤ 1000000) : Ev (fun k => M.privityref06_SameList.f k l l) true := by
  have key : ∀ (d i : Nat), i + d = l.length → Ev (fun k => M.privityref06_SameList.l0 k l l (i : Int)) true := by
    intro d
    induction d with
    | zero =>
      intro i hi
      refine Ev.of_succ (g := fun _ => some true) (fun k => ?_) (Ev.of_eq fun _ => rfl)
      simp only [M.privityref06_SameList.l0]
      rw [if_neg (by omega)]
    | succ d ih =>
      intro i hi
      refine Ev.of_succ (fun k => ?_) (ih (i + 1) (by omega))
      simp only [M.privityref06_SameList.l0]
      rw [if_pos (by omega), if_pos (by omega), if_pos (by omega), if_pos trivial, wrap_in (by omega) (by omega)]
      rfl
  refine Ev.congr (fun k => ?_) (key l.length 0 (by omega))
  unfold M.privityref06_SameList.f
  rw [if_pos rfl]
  rfl
theorem FairP.sys {p : Int} {m : List (List Int)} {b : List Int} {n : Nat} (h : FairP p m n) (hn : n ≤ 1000) (hb : allF p b = true) : okSys p m b = true := by
  unfold okSys
  rw [h.hp, h.fld, h.small hn, hb]
  rfl
theorem solve_f {p : Int} {m : List (List Int)} {b : List Int} (h : okSys p m b = true) : matrix_Solve.f p m b = some (solveS p m b) := by
  unfold matrix_Solve.f
  rw [if_pos h]
end Go.Proofs.Ytkjknpibcbpdfaa
