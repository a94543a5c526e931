/- Prove of the program, over plain numbers: its rounds, one behind the other. -/
import Derived.Test.YtkcjhcjlaefgmaaM21A
namespace Go.Proofs.Ytkcjhcjlaefgmaa.L21
open Go.RowKit Go.Proofs.YtkcjhcjlaefgmaaW.PrintWords
set_option linter.unusedVariables false
set_option linter.unusedSimpArgs false

/-- The rounds x, x - 1, .., 1. -/
def runR (p : Int) (t : Nat) (r : List Int) : Nat → List Int × List (List Int) → List Int × List (List Int)
  | 0, s => s
  | x + 1, s => runR p t r x (roundS p t r s (x + 1))
theorem runR_downs (p : Int) (t : Nat) (r : List Int) (s : List Int × List (List Int)) : ∀ k, k ≤ t → runR p t r (t - k) ((downFirst t k).foldl (fun s x => roundS p t r s x.1) s) = runR p t r t s := by
  intro k
  induction k with
  | zero => intro _; rfl
  | succ k ih =>
    intro h
    have := ih (by omega)
    have hs : ∀ (n : Nat) (s : List Int × List (List Int)), n + 1 = t - k → runR p t r n (roundS p t r s (t - k)) = runR p t r (t - k) s := by
      intro n s e
      rw [← e]
      rfl
    rw [downFirst_succ t k h, List.foldl_append, ← this]
    exact hs (t - (k + 1)) _ (by omega)
theorem padN_trimL (l : List Int) : padN (trimL l) l.length = l := by
  have h1 := trimL_le l
  have h3 := padN_length (trimL l) l.length
  refine list_ext h3 fun i => ?_
  unfold padN
  rw [Nat.min_eq_left h1, List.take_length, List.getD_eq_getElem?_getD, List.getElem?_append]
  split
  · rw [← List.getD_eq_getElem?_getD, trimL_getD]
  · rename_i h
    rw [List.drop_replicate, ← List.getD_eq_getElem?_getD, replicate_getD, trimL_zero l i (by omega)]
theorem prove_f (p : Int) (t : Nat) (a b r : List Int) (hp : okp p = true) (ha : allF p a = true) (hb : allF p b = true) (hr : allF p r = true) (h1 : 1 ≤ t) (h2 : t ≤ 1000) (la : a.length = t + 1) (lb : b.length = t + 1) (lr : r.length = t * t) :
    productproof_Prove.f p (t : Int) a b r = some ((runR p t r t (pmul p a b, List.replicate t [])).2, (runR p t r t (pmul p a b, List.replicate t [])).1.take (t + 1)) := by
  unfold productproof_Prove.f
  rw [hp, ha, hb, hr, Int.toNat_natCast, decide_eq_true (by omega), decide_eq_true (by omega), decide_eq_true (by omega), decide_eq_true (by omega), decide_eq_true lr]
  have hl := pmul_len p b (by omega) a (by omega)
  have hpad : padN (trimL (pmul p a b)) (2 * t + 1) = pmul p a b := by rw [show 2 * t + 1 = (pmul p a b).length by omega]; exact padN_trimL _
  rw [hpad]
  have := runR_downs p t r (pmul p a b, List.replicate t []) t (Nat.le_refl _)
  rw [Nat.sub_self] at this
  simp only [Bool.and_self, if_true]
  unfold roundsS
  rw [← this]
  rfl
/-- The table's shape. -/
theorem runR_shape (p : Int) (t : Nat) (r : List Int) (hr : r.length = t * t) : ∀ (x : Nat) (c : List Int) (D : List (List Int)), x ≤ t → D.length = t → (∀ j, x ≤ j → j < t → (D.getD j []).length = t + 1) → c.length = 2 * t + 1 →
    (runR p t r x (c, D)).2.length = t ∧ (∀ j, j < t → ((runR p t r x (c, D)).2.getD j []).length = t + 1) ∧ (runR p t r x (c, D)).1.length = 2 * t + 1 := by
  intro x
  induction x with
  | zero => intro c D _ hD h hc; exact ⟨hD, fun j hj => h j (Nat.zero_le _) hj, hc⟩
  | succ x ih =>
    intro c D hx hD h hc
    refine ih _ _ (by omega) (by rw [Nat.add_sub_cancel, List.length_set]; exact hD) (fun j hj hjt => ?_) (by rw [offAt_length]; exact hc)
    rw [Nat.add_sub_cancel]
    by_cases e : j = x
    · subst e
      rw [List.getD_eq_getElem?_getD, List.getElem?_set_self (show j < D.length by omega)]
      exact roundF_length t r (j + 1) c hr (by omega) hx
    · rw [List.getD_eq_getElem?_getD, List.getElem?_set_ne (fun e2 => e e2.symm), ← List.getD_eq_getElem?_getD]
      exact h j (by omega) hjt
end Go.Proofs.Ytkcjhcjlaefgmaa.L21
