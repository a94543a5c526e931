/- The law MatrixUnsolvableWitness over plain numbers. -/
import Derived.Test.YtkjknpibcbpdfaaSolA
import Derived.Test.YtkjknpibcbpdfaaLaw6P
namespace Go.Proofs.Ytkjknpibcbpdfaa
open Go.RowKit Go.Proofs.YtkjknpibcbpdfaaW.PrintWords
set_option linter.unusedVariables false
set_option linter.unusedSimpArgs false

theorem dotN_cg (p : Int) (f : Nat → Int) : ∀ n, Cg p (dotN p f n) (sumZ n f)
  | 0 => Cg.refl _ _
  | n + 1 => (Cg.mod p _).trans (Cg.add (dotN_cg p f n) (Cg.mod p _))
section
variable {p : Int} {m : List (List Int)} {b : List Int}
/-- A vector that Solve returns is a solution. -/
theorem Sys.applied (h : Sys p m b) (e : (solveS p m b).2 = 0) : applyS p m (solveS p m b).1 = (b, 0) := by
  obtain ⟨h1, h2, h3⟩ := h.sound e
  unfold applyS
  rw [h.rect, decide_eq_true h1.symm]
  show (m.map _, (0 : Int)) = (b, 0)
  congr 1
  refine List.ext_getElem (by rw [List.length_map]; exact h.len) fun i hi1 hi2 => ?_
  have hi : i < m.length := by simpa using hi1
  rw [List.getElem_map]
  have hrow := rect_row h.rect hi
  rw [getD_row hi] at hrow
  have hc := (dotN_cg p (fun j => m[i].getD j 0 * (solveS p m b).1.getD j 0) m[i].length).trans (Cg.of_eq (by rw [hrow]))
  have hs := h3 i hi
  have e1 : ∀ j, cellAt m i j = m[i].getD j 0 := fun j => by unfold cellAt; rw [getD_row hi]
  rw [sumZ_congr _ (fun j _ => by rw [e1 j])] at hs
  have := (hc.trans hs).eq (dotN_inF h.hp _ _) (allF_at h.hp h.fb i)
  rw [this, getD_num]
/-- The witness' system. -/
def wantU (n : Nat) : List Int := (List.replicate n 0).set (n - 1) 1
theorem wantU_length (n : Nat) : (wantU n).length = n := by unfold wantU; simp
theorem wantU_at (n i : Nat) (hi : i < n) : (wantU n).getD i 0 = if i = n - 1 then 1 else 0 := by
  unfold wantU
  by_cases e : n - 1 = i
  · rw [if_pos e.symm, e, getD_set_self _ _ _ _ (by rw [List.length_replicate]; exact hi)]
  · rw [if_neg (fun e2 => e e2.symm), getD_set_ne _ _ _ _ _ e, List.getD_eq_getElem?_getD, List.getElem?_replicate, if_pos hi]
    rfl
theorem turnS_length (m : List (List Int)) : (turnS m).length = (m.headD []).length := by unfold turnS; simp
theorem turnS_at (m : List (List Int)) (i : Nat) (hi : i < (m.headD []).length) : (turnS m).getD i [] = colS m i := by
  unfold turnS
  rw [List.getD_eq_getElem?_getD, List.getElem?_map, List.getElem?_range hi]
  rfl
def sysU (m : List (List Int)) (b : List Int) : List (List Int) := turnS m ++ [b]
theorem sysU_length (m : List (List Int)) (b : List Int) : (sysU m b).length = (m.headD []).length + 1 := by unfold sysU; rw [List.length_append, turnS_length]; rfl
theorem sysU_at (m : List (List Int)) (b : List Int) (i : Nat) (hi : i < (m.headD []).length + 1) : (sysU m b).getD i [] = if i < (m.headD []).length then colS m i else b := by
  unfold sysU
  by_cases h : i < (m.headD []).length
  · rw [if_pos h, List.getD_eq_getElem?_getD, List.getElem?_append_left (by rw [turnS_length]; exact h), ← List.getD_eq_getElem?_getD, turnS_at m i h]
  · rw [if_neg h, List.getD_eq_getElem?_getD, List.getElem?_append_right (by rw [turnS_length]; omega), turnS_length, show i - (m.headD []).length = 0 by omega]
    rfl
theorem Sys.witnessed (h : Sys p m b) {kk : Nat} (hf : FairP p m kk) (hk : kk ≤ 100) (e6 : (solveS p m b).2 = 6) :
    okSys p (sysU m b) (wantU (sysU m b).length) = true ∧ (solveS p (sysU m b) (wantU (sysU m b).length)).2 = 0 ∧ (solveS p (sysU m b) (wantU (sysU m b).length)).1.length = b.length ∧ allF p (solveS p (sysU m b) (wantU (sysU m b).length)).1 = true ∧
      dotN p (fun j => (solveS p (sysU m b) (wantU (sysU m b).length)).1.getD j 0 * b.getD j 0) b.length = 1 := by
  have hp := h.hp
  have hp31 := okp_lo hp
  have hml := hf.len
  have hbl := h.len
  have hwd := hf.wd
  have hlU := sysU_length m b
  have hlen : ∀ i, i < (sysU m b).length → ((sysU m b).getD i []).length = b.length := fun i hi => by
    rw [sysU_at m b i (by omega)]
    split
    · rw [colS_length]; exact hbl
    · rfl
  have hrect : rectB (sysU m b) = true := rect_true fun j hj => by rw [hlen j hj, hlen 0 (by omega)]
  have hhead : ((sysU m b).headD []).length = b.length := by
    have := rect_row hrect (i := 0) (by omega)
    rw [← this]
    exact hlen 0 (by omega)
  have hok : okSys p (sysU m b) (wantU (sysU m b).length) = true := by
    unfold okSys
    simp only [Bool.and_eq_true]
    refine ⟨⟨⟨hp, List.all_eq_true.2 fun r hr => ?_⟩, ?_⟩, List.all_eq_true.2 fun x hx => ?_⟩
    · obtain ⟨i, hi, rfl⟩ := List.mem_iff_getElem.1 hr
      rw [← getD_row hi, sysU_at m b i (by omega)]
      split
      · exact colS_allF hp hf.fld i
      · exact h.fb
    · unfold smallR
      simp only [Bool.and_eq_true, decide_eq_true_eq, List.all_eq_true]
      refine ⟨by omega, fun r hr => ?_⟩
      obtain ⟨i, hi, rfl⟩ := List.mem_iff_getElem.1 hr
      rw [← getD_row hi, hlen i hi]
      omega
    · obtain ⟨i, hi, rfl⟩ := List.mem_iff_getElem.1 hx
      rw [wantU_length] at hi
      rw [← getD_num, wantU_at _ i hi]
      split
      · exact inF_iff.2 ⟨by omega, by omega⟩
      · exact inF_zero hp
  have hS : Sys p (sysU m b) (wantU (sysU m b).length) := ⟨hok, hrect, (wantU_length _).symm⟩
  obtain ⟨y, hy1, hy2⟩ := h.witness e6
  have hcell : ∀ i j, i < (sysU m b).length → cellAt (sysU m b) i j = if i < (m.headD []).length then cellAt m j i else b.getD j 0 := fun i j hi => by
    unfold cellAt
    rw [sysU_at m b i (by omega)]
    split
    · exact colS_at m i j
    · rfl
  have h0 : (solveS p (sysU m b) (wantU (sysU m b).length)).2 = 0 := by
    refine hS.complete y fun i hi => ?_
    rw [hhead, wantU_at _ i hi, sumZ_congr _ (fun j _ => by rw [hcell i j hi])]
    by_cases hlt : i < (m.headD []).length
    · rw [if_neg (by omega)]
      refine Cg.trans (Cg.of_eq ?_) (hy1 i hlt)
      rw [← hbl]
      exact sumZ_congr _ fun j _ => by rw [if_pos hlt, Int.mul_comm]
    · rw [if_pos (by omega)]
      refine Cg.trans (Cg.of_eq ?_) hy2
      rw [← hbl]
      exact sumZ_congr _ fun j _ => by rw [if_neg hlt, Int.mul_comm]
  obtain ⟨s1, s2, s3⟩ := hS.sound h0
  rw [hhead] at s1 s3
  refine ⟨hok, h0, s1, s2, ?_⟩
  have h4 := s3 (m.headD []).length (by omega)
  rw [wantU_at _ _ (by omega), if_pos (by omega), sumZ_congr _ (fun j _ => by rw [hcell _ j (by omega), if_neg (Nat.lt_irrefl _), Int.mul_comm])] at h4
  have h5 := (dotN_cg p (fun j => (solveS p (sysU m b) (wantU (sysU m b).length)).1.getD j 0 * b.getD j 0) b.length).trans h4
  exact h5.eq (dotN_inF hp _ _) (inF_iff.2 ⟨by omega, by omega⟩)
end
end Go.Proofs.Ytkjknpibcbpdfaa
