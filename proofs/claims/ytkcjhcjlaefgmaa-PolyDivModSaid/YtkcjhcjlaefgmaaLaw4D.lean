/- The law PolyDivMod over plain numbers and lists. -/
import Derived.Test.YtkcjhcjlaefgmaaLaw4P
import Derived.Test.YtkcjhcjlaefgmaaX6
namespace Go.Proofs.Ytkcjhcjlaefgmaa
open Go.RowKit Go.Proofs.YtkcjhcjlaefgmaaW.PrintWords
set_option linter.unusedVariables false
set_option linter.unusedSimpArgs false

theorem pure_divmod (a0 : Int) (l1 l2 l3 : List Int) (a4 a5 : Int) (h0 : 0 ≤ a0) (h1 : ∀ x ∈ l1, 0 ≤ x) (h2 : ∀ x ∈ l2, 0 ≤ x) (h3 : ∀ x ∈ l3, 0 ≤ x) : ∃ k, X.privitylaw04_PolyDivMod.f k a0 l1 l2 l3 a4 a5 = some true := by
  obtain ⟨p, hp, hf⟩ := fit4 a0 l1 l2 l3 a4 a5 h0 h1 h2 h3
  have la := wordsL_length p l1 12
  have lb := wordsL_length p l2 12
  obtain ⟨hz, hnz⟩ := div_both p hp (wordsL p l1 12) (wordsL p l2 12) (wordsL_allF hp _ _) (wordsL_allF hp _ _) (by omega) (by omega)
  by_cases hb : trimL (wordsL p l2 12) = []
  · obtain ⟨e1, e2⟩ := hz hb 1000 (Nat.le_refl _)
    refine ⟨1000, ?_⟩
    unfold X.privitylaw04_PolyDivMod.f
    rw [hf 1000 (by omega)]
    simp only [Option.bind_some]
    rw [e1, e2, awake4 1000 (by omega)]
    simp only [Option.bind_some, if_true]
    rw [r04_equal [] (by simp) 1000 (by simp)]
    rfl
  · obtain ⟨K, Q, q, R, hK, hE⟩ := hnz hb
    obtain ⟨e1, e2⟩ := hK (max K 2000000) (by omega)
    refine ⟨max K 2000000, ?_⟩
    unfold X.privitylaw04_PolyDivMod.f
    rw [hf _ (by omega)]
    simp only [Option.bind_some]
    rw [e1, e2, awake4 _ (by omega)]
    have hR := hE.short
    have := trimL_le (wordsL p l2 12)
    have hq := hE.qlen
    simp only [Option.bind_some, if_true]
    rw [hE.same, r04_equal q (by omega) _ (by omega)]
    simp only [Option.bind_some, if_true]
    rw [r04_equal R (by omega) _ (by omega)]
    rfl

end Go.Proofs.Ytkcjhcjlaefgmaa
