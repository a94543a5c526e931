/- What the laws 04 share, over plain numbers and lists. -/
import Derived.Test.YtkcjhcjlaefgmaaDivM
import Derived.Test.YtkcjhcjlaefgmaaX1
namespace Go.Proofs.Ytkcjhcjlaefgmaa
open Go.RowKit Go.Proofs.YtkcjhcjlaefgmaaW.PrintWords
set_option linter.unusedVariables false
set_option linter.unusedSimpArgs false

theorem fit_7 : ∀ i : Nat, i < 7 → ∃ p, okp p = true ∧ (∀ a : Int, 0 ≤ a → a % 7 = i → X.privityref01_Fit.f a = some p) := by
  intro i hi
  have key : ∀ (j : Int) (p : Int), X.privityref01_Fit.f j = some p → 0 ≤ j → j < 7 → ∀ a : Int, 0 ≤ a → a % 7 = j → X.privityref01_Fit.f a = some p := by
    intro j p h j0 j1 a a0 e
    unfold X.privityref01_Fit.f at h ⊢
    have e7 : IntKind.u64.wrap (([5, 7, 13, 17, 19, 31, 61] : List Int).length : Int) = 7 := by decide
    simp only [X.privityref01_exps.f, Option.bind_some, e7] at h ⊢
    rw [tmod_nn j 7 j0, show j % 7 = j by omega] at h
    rw [tmod_nn a 7 a0, e]
    exact h
  match i, hi with
  | 0, _ => exact ⟨31, by decide, key 0 31 (by decide +kernel) (by omega) (by omega)⟩
  | 1, _ => exact ⟨127, by decide, key 1 127 (by decide +kernel) (by omega) (by omega)⟩
  | 2, _ => exact ⟨8191, by decide, key 2 8191 (by decide +kernel) (by omega) (by omega)⟩
  | 3, _ => exact ⟨131071, by decide, key 3 131071 (by decide +kernel) (by omega) (by omega)⟩
  | 4, _ => exact ⟨524287, by decide, key 4 524287 (by decide +kernel) (by omega) (by omega)⟩
  | 5, _ => exact ⟨2147483647, by decide, key 5 2147483647 (by decide +kernel) (by omega) (by omega)⟩
  | 6, _ => exact ⟨2305843009213693951, by decide, key 6 2305843009213693951 (by decide +kernel) (by omega) (by omega)⟩
theorem fit_ok (a : Int) (h : 0 ≤ a) : ∃ p, okp p = true ∧ X.privityref01_Fit.f a = some p := by
  obtain ⟨p, hp, hf⟩ := fit_7 (a % 7).toNat (by omega)
  exact ⟨p, hp, hf a h (by omega)⟩

/-- The elements that Words makes. -/
def wordsL (p : Int) (l : List Int) (n : Nat) : List Int := (l.take n).map (· % p)
theorem wordsL_allF {p : Int} (hp : okp p = true) (l : List Int) (n : Nat) : allF p (wordsL p l n) = true := allF_of fun y hy => by
  unfold wordsL at hy
  obtain ⟨z, _, rfl⟩ := List.mem_map.1 hy
  exact inF_mod hp _
theorem wordsL_length (p : Int) (l : List Int) (n : Nat) : (wordsL p l n).length = min n l.length := by unfold wordsL; simp
theorem words_l (p : Int) (hp : okp p = true) (l : List Int) (hl : ∀ x ∈ l, 0 ≤ x) (n : Nat) (hn : n ≤ 1000) : ∀ (d i k : Nat), min n l.length - i = d → i ≤ min n l.length → d < k → X.privityref04_Words.l0 k p l (n : Int) ((wordsL p l n).take i) (i : Int) = some (wordsL p l n) := by
  have hlo := okp_lo hp
  have hlen := wordsL_length p l n
  intro d
  induction d with
  | zero =>
    intro i k hd hi hk
    obtain ⟨k, rfl⟩ : ∃ m, k = m + 1 := ⟨k - 1, by omega⟩
    have e : (wordsL p l n).take i = wordsL p l n := List.take_of_length_le (by omega)
    simp only [X.privityref04_Words.l0, e]
    by_cases h1 : (i : Int) < (l.length : Int)
    · rw [if_pos h1, if_neg (by omega)]
    · rw [if_neg h1]
  | succ d ih =>
    intro i k hd hi hk
    obtain ⟨k, rfl⟩ : ∃ m, k = m + 1 := ⟨k - 1, by omega⟩
    simp only [X.privityref04_Words.l0]
    rw [if_pos (by omega), if_pos (by omega), if_pos (by omega), if_neg (by omega), if_pos (by rw [List.length_take]; omega), wrap_in (by omega) (by omega), rd_nat]
    have hil : i < l.length := by omega
    have e : (wordsL p l n).take i ++ [Int.tmod (l.getD i 0) p] = (wordsL p l n).take (i + 1) := by
      rw [take_succ_snoc _ i (by omega), getD_lt hil, getD_lt (l := wordsL p l n) (by omega)]
      unfold wordsL
      rw [List.getElem_map, List.getElem_take, tmod_nn _ _ (hl _ (List.getElem_mem _))]
    rw [e]
    exact ih (i + 1) k (by omega) (by omega) (by omega)
theorem words_eq (p : Int) (hp : okp p = true) (l : List Int) (hl : ∀ x ∈ l, 0 ≤ x) (n : Nat) (hn : n ≤ 1000) (k : Nat) (hk : n < k) : X.privityref04_Words.f k p l (n : Int) = some (wordsL p l n) := by
  unfold X.privityref04_Words.f
  exact words_l p hp l hl n hn (min n l.length) 0 k (by omega) (by omega) (by omega)

theorem fit4 (a0 : Int) (l1 l2 l3 : List Int) (a4 a5 : Int) (h0 : 0 ≤ a0) (h1 : ∀ x ∈ l1, 0 ≤ x) (h2 : ∀ x ∈ l2, 0 ≤ x) (h3 : ∀ x ∈ l3, 0 ≤ x) : ∃ p, okp p = true ∧ ∀ k, 13 ≤ k → X.privitylaw04_fit.f k a0 l1 l2 l3 a4 a5 = some (p, wordsL p l1 12, wordsL p l2 12, wordsL p l3 12) := by
  obtain ⟨p, hp, hf⟩ := fit_ok a0 h0
  refine ⟨p, hp, fun k hk => ?_⟩
  unfold X.privitylaw04_fit.f
  rw [hf]
  simp only [Option.bind_some]
  have w := fun l (hl : ∀ x ∈ l, 0 ≤ x) => words_eq p hp l hl 12 (by omega) k (by omega)
  simp only [show ((12 : Nat) : Int) = 12 from rfl] at w
  rw [w l1 h1, w l2 h2, w l3 h3]
  rfl
theorem awake4 (k : Nat) (hk : 200 ≤ k) : X.privitylaw04_awake.f k = some true :=
  at_rounds (k := 200) X.privitylaw04_awake.mono hk (by decide +kernel)

end Go.Proofs.Ytkcjhcjlaefgmaa
