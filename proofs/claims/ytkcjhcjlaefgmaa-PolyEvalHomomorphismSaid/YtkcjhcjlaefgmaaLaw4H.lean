/- The law PolyEvalHomomorphism over plain numbers and lists. -/
import Derived.Test.YtkcjhcjlaefgmaaLaw4P
import Derived.Test.YtkcjhcjlaefgmaaX7
namespace Go.Proofs.Ytkcjhcjlaefgmaa
open Go.RowKit Go.Proofs.YtkcjhcjlaefgmaaW.PrintWords
set_option linter.unusedVariables false
set_option linter.unusedSimpArgs false

theorem coefp_eq (l : List Int) (i : Nat) : X.poly_Coefficient.f l (i : Int) = some (l.getD i 0) := by
  unfold X.poly_Coefficient.f
  rw [if_neg (by omega)]
  by_cases h : i < l.length
  · rw [if_neg (by omega), if_pos (by omega), if_pos (by omega), rd_nat]
  · rw [if_pos (by omega), getD_ge (by omega)]

theorem pmul_length (p : Int) (b : List Int) : ∀ a : List Int, (pmul p a b).length ≤ a.length + b.length := by
  intro a
  induction a with
  | nil => simp [pmul]
  | cons x a ih =>
    simp only [pmul, padd_length, List.length_cons]
    have : (pscale p x b).length = b.length := by unfold pscale; simp
    omega
theorem pure_hom (a0 : Int) (l1 l2 l3 : List Int) (a4 a5 : Int) (h0 : 0 ≤ a0) (h1 : ∀ x ∈ l1, 0 ≤ x) (h2 : ∀ x ∈ l2, 0 ≤ x) (h3 : ∀ x ∈ l3, 0 ≤ x) (h4 : 0 ≤ a4) : ∃ k, X.privitylaw04_PolyEvalHomomorphism.f k a0 l1 l2 l3 a4 a5 = some true := by
  obtain ⟨p, hp, hf⟩ := fit4 a0 l1 l2 l3 a4 a5 h0 h1 h2 h3
  have hlo := okp_lo hp
  have hhi := okp_hi hp
  have la := wordsL_length p l1 12
  have lb := wordsL_length p l2 12
  have hA := wordsL_allF hp l1 12
  have hB := wordsL_allF hp l2 12
  generalize wordsL p l1 12 = a at *
  generalize wordsL p l2 12 = b at *
  have hx := inF_mod hp a4
  have hxb := inF_iff.1 hx
  -- the divisor x - c
  have hcF : inF p ((p - a4 % p) % p) = true := inF_mod hp _
  obtain ⟨x, hxe⟩ : ∃ x, x = a4 % p := ⟨_, rfl⟩
  rw [← hxe] at hx hxb hcF
  have hdF : allF p [(p - x) % p, 1] = true := by
    show (inF p ((p - x) % p) && (inF p 1 && true)) = true
    rw [hcF, inF_one hp]; rfl
  have hdt : trimL [(p - x) % p, 1] = [(p - x) % p, 1] := trimL_of_last fun _ => by simp
  have hdz : ev [(p - x) % p, 1] x % p = 0 := by
    simp only [ev, Int.mul_zero, Int.add_zero, Int.mul_one]
    rw [Int.add_comm, Int.add_emod_emod, show x + (p - x) = p by omega, Int.emod_self]
  obtain ⟨-, hnz⟩ := div_both p hp a [(p - x) % p, 1] hA hdF (by omega) (by simp)
  obtain ⟨K, Q, q, R, hK, hE⟩ := hnz (by rw [hdt]; simp)
  obtain ⟨e1, -⟩ := hK (max K 2000000) (by omega)
  have hshort := hE.short
  rw [hdt] at hshort
  have hval := hE.val x (by rw [hdt]; exact hdz)
  have hRe : R.getD 0 0 = ev R x % p := by
    have hl : R.length ≤ 1 := by simpa using Nat.lt_succ_iff.1 hshort
    have hred := hE.red
    match R, hl with
    | [], _ => exact (Int.zero_emod p).symm
    | [r], _ =>
      simp only [ev, Int.mul_zero, Int.add_zero, List.getD_cons_zero]
      exact (modF (allF_mem hred (List.mem_singleton.2 rfl))).symm
  have hsumF := padd_allF p hp a b hA hB
  have hsl := padd_length p a b
  have hst := trimL_le (padd p a b)
  have hml := pmul_length p b a
  have hmt := trimL_le (pmul p a b)
  refine ⟨max K 2000000, ?_⟩
  unfold X.privitylaw04_PolyEvalHomomorphism.f
  rw [hf _ (by omega)]
  simp only [Option.bind_some]
  rw [if_neg (by omega), tmod_nn a4 p h4, ← hxe, p_eval p x hp hx a hA (by omega) _ (by omega), p_eval p x hp hx b hB (by omega) _ (by omega)]
  simp only [Option.bind_some]
  rw [w64 (p - x) (by omega) (by omega), tmod_nn (p - x) p (by omega), e1, awake4 _ (by omega)]
  simp only [Option.bind_some, if_true]
  have hAdd : poly_Add.f p a b = some (trimL (padd p a b)) := by
    unfold poly_Add.f fewL
    rw [hp, hA, hB, decide_eq_true (by omega), decide_eq_true (by omega)]; rfl
  have hMul : poly_Mul.f p a b = some (trimL (pmul p a b)) := by
    unfold poly_Mul.f
    rw [hp, hA, hB, decide_eq_true (by omega), decide_eq_true (by omega)]; rfl
  rw [hAdd]
  simp only [Option.bind_some]
  rw [p_eval p x hp hx _ (allF_trimL hsumF) (by omega) _ (by omega), gadd hp (inF_mod hp _) (inF_mod hp _)]
  simp only [Option.bind_some]
  rw [if_pos (by rw [ev_trimL, ev_padd p x hp a b hA hB, ← Int.add_emod]), hMul]
  simp only [Option.bind_some]
  rw [p_eval p x hp hx _ (allF_trimL (pmul_allF p hp a b)) (by omega) _ (by omega), gmul hp (inF_mod hp _) (inF_mod hp _)]
  simp only [Option.bind_some]
  have hR1 : (R.length : Int) ≤ 1 := by simp at hshort; omega
  rw [if_pos (by rw [ev_trimL, ev_pmul p x hp a b, ← Int.mul_emod])]
  rw [if_pos hR1, show (0 : Int) = ((0 : Nat) : Int) from rfl, coefp_eq, hRe, hval]
  simp
end Go.Proofs.Ytkcjhcjlaefgmaa
