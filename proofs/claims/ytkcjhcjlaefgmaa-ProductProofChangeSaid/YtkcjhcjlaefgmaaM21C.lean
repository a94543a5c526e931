/- The arguments that the laws 21 let in. -/
import Derived.Test.YtkcjhcjlaefgmaaM21B
namespace Go.Proofs.Ytkcjhcjlaefgmaa.L21
open Go.RowKit Go.Proofs.YtkcjhcjlaefgmaaW.PrintWords
set_option linter.unusedVariables false
set_option linter.unusedSimpArgs false

/-- What a ProofCase that is let in has. -/
structure Fit (p : Int) (t : Nat) (a b r : List Int) : Prop where
  hp : okp p = true
  h1 : 1 ≤ t
  h4 : t ≤ 4
  la : a.length = t + 1
  lb : b.length = t + 1
  lr : r.length = t * t
  ha : allF p a = true
  hb : allF p b = true
  hr : allF p r = true
theorem valid (k : Nat) (hk : 60 ≤ k) (p a1 : Int) (l2 l3 l4 : List Int) (n2 : ∀ x ∈ l2, 0 ≤ x) (n3 : ∀ x ∈ l3, 0 ≤ x) (n4 : ∀ x ∈ l4, 0 ≤ x) :
    Q.privitylaw21_validCase.f k p a1 l2 l3 l4 = some false ∨ (Q.privitylaw21_validCase.f k p a1 l2 l3 l4 = some true ∧ ∃ t : Nat, a1 = (t : Int) ∧ Fit p t l2 l3 l4) := by
  have b2 : Q.privityref06_Below.f k p l2 5 = some (decide (l2.length ≤ 5) && allF p l2) := below p l2 5 (by omega) n2 k (by omega)
  have b3 : Q.privityref06_Below.f k p l3 5 = some (decide (l3.length ≤ 5) && allF p l3) := below p l3 5 (by omega) n3 k (by omega)
  have b4 : Q.privityref06_Below.f k p l4 16 = some (decide (l4.length ≤ 16) && allF p l4) := below p l4 16 (by omega) n4 k (by omega)
  unfold Q.privitylaw21_validCase.f
  rw [supported k p (by omega)]
  simp only [Option.bind_some]
  by_cases hp : okp p = true
  case neg => left; rw [if_neg hp]
  rw [if_pos hp]
  by_cases h1 : a1 ≥ 1
  case neg => left; rw [if_neg h1]
  rw [if_pos h1]
  by_cases h4 : a1 ≤ 4
  case neg => left; rw [if_neg h4]
  rw [if_pos h4, wrap_in (x := a1 + 1) (by omega) (by omega)]
  obtain ⟨t, rfl⟩ : ∃ t : Nat, a1 = (t : Int) := ⟨a1.toNat, by omega⟩
  have hm : t * t ≤ 4 * 4 := Nat.mul_le_mul (by omega) (by omega)
  have e1 : (t : Int) * (t : Int) = ((t * t : Nat) : Int) := (Int.natCast_mul t t).symm
  rw [e1, wrap_in (x := ((t * t : Nat) : Int)) (by omega) (by omega)]
  by_cases c1 : (l2.length : Int) = (t : Int) + 1
  case neg => left; rw [if_neg c1]
  rw [if_pos c1]
  by_cases c2 : (l3.length : Int) = (t : Int) + 1
  case neg => left; rw [if_neg c2]
  rw [if_pos c2]
  by_cases c3 : (l4.length : Int) = ((t * t : Nat) : Int)
  case neg => left; rw [if_neg c3]
  rw [if_pos c3, b2]
  simp only [Option.bind_some]
  by_cases d1 : (decide (l2.length ≤ 5) && allF p l2) = true
  case neg => left; rw [if_neg d1]
  rw [if_pos d1, b3]
  simp only [Option.bind_some]
  by_cases d2 : (decide (l3.length ≤ 5) && allF p l3) = true
  case neg => left; rw [if_neg d2]
  rw [if_pos d2, b4]
  simp only [Option.bind_some]
  by_cases d3 : (decide (l4.length ≤ 16) && allF p l4) = true
  case neg => left; simpa using d3
  rw [d3]
  rw [Bool.and_eq_true] at d1 d2 d3
  exact .inr ⟨rfl, t, rfl, hp, by omega, by omega, by omega, by omega, by omega, d1.2, d2.2, d3.2⟩
theorem rows_short (p : Int) (t : Nat) (r c : List Int) (hr : r.length = t * t) (hc : c.length = 2 * t + 1) : (runR p t r t (c, List.replicate t [])).2.length = t ∧ (∀ x ∈ (runR p t r t (c, List.replicate t [])).2, x.length = t + 1) ∧ (runR p t r t (c, List.replicate t [])).1.length = 2 * t + 1 := by
  obtain ⟨h1, h2, h3⟩ := runR_shape p t r hr t c (List.replicate t []) (Nat.le_refl _) (List.length_replicate ..) (fun j hj hjt => by omega) hc
  refine ⟨h1, fun x hx => ?_, h3⟩
  obtain ⟨j, hj, rfl⟩ := List.mem_iff_getElem.1 hx
  have := h2 j (by omega)
  rwa [List.getD_eq_getElem?_getD, List.getElem?_eq_getElem hj] at this
end Go.Proofs.Ytkcjhcjlaefgmaa.L21
