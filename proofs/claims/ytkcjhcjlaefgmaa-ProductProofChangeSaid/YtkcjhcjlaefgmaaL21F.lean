/- What the laws ProductProofChange and ProductProofZeroKnowledge share. -/
import Derived.Test.YtkcjhcjlaefgmaaL21D
namespace Go.Proofs.Ytkcjhcjlaefgmaa.L21
open Go.RowKit Go.Proofs.YtkcjhcjlaefgmaaW.PrintWords
set_option linter.unusedVariables false
set_option linter.unusedSimpArgs false

theorem unlike_l1 (xs : List Int) (i : Nat) (hi : i < xs.length) (hl : xs.length ≤ 100) (P : Nat → Prop) (hP : ∀ k, P k → ∃ b, Q.privityref10_Unlike.l0 k xs ((i + 1 : Nat) : Int) = some b) : ∀ (n j k : Nat), j + n = i → P k → ∃ b, Q.privityref10_Unlike.l1 (n + 1 + k) xs (i : Int) (j : Int) = some b := by
  intro n
  induction n with
  | zero =>
    intro j k h hk
    rw [show 0 + 1 + k = k + 1 by omega]
    simp only [Q.privityref10_Unlike.l1]
    rw [if_neg (by omega), wrap_in (by omega) (by omega)]
    exact hP k hk
  | succ n ih =>
    intro j k h hk
    rw [show n + 1 + 1 + k = (n + 1 + k) + 1 by omega]
    simp only [Q.privityref10_Unlike.l1]
    rw [if_pos (by omega), if_pos (by omega), if_pos (by omega), if_pos (by omega), if_pos (by omega)]
    split
    · exact ⟨_, rfl⟩
    · rw [wrap_in (by omega) (by omega)]
      exact ih (j + 1) k (by omega) hk
theorem unlike_l0 (xs : List Int) (hl : xs.length ≤ 100) : ∀ (n i k : Nat), i + n = xs.length → n * 102 + 1 ≤ k → ∃ b, Q.privityref10_Unlike.l0 k xs (i : Int) = some b := by
  intro n
  induction n with
  | zero =>
    intro i k h hk
    obtain ⟨k, rfl⟩ : ∃ q, k = q + 1 := ⟨k - 1, by omega⟩
    simp only [Q.privityref10_Unlike.l0]
    rw [if_neg (by omega)]
    exact ⟨_, rfl⟩
  | succ n ih =>
    intro i k h hk
    obtain ⟨k, rfl⟩ : ∃ q, k = (i + 1 + q) + 1 := ⟨k - i - 2, by omega⟩
    simp only [Q.privityref10_Unlike.l0]
    rw [if_pos (by omega)]
    exact unlike_l1 xs i (by omega) hl (fun k => n * 102 + 1 ≤ k) (fun k hk => ih (i + 1) k (by omega) hk) i 0 k (by omega) (by omega)
theorem unlike (xs : List Int) (hl : xs.length ≤ 4) (k : Nat) (hk : 500 ≤ k) : ∃ b, Q.privityref10_Unlike.f k xs = some b := by
  unfold Q.privityref10_Unlike.f
  exact unlike_l0 xs (by omega) xs.length 0 k (by omega) (by omega)
/-- Both proofs, with all that is known of them. -/
theorem both (p : Int) (t : Nat) (a b r z : List Int) (u v : Int) (F : Fit p t a b r) (hz : allF p z = true) (lz : z.length = t + 1) :
    ∃ (D E : List (List Int)) (c f : List Int), productproof_Prove.f p (t : Int) a b r = some (D, c) ∧ productproof_Prove.f p (t : Int) (upTo (mAt p u a z) (t + 1)) (upTo (mAt p v b z) (t + 1)) (upTo (qAt p t r (upTo (wAt p u v a b z) (t + 1)) z) (t * t)) = some (E, f) ∧
      D.length = t ∧ E.length = t ∧ (∀ l ∈ D, allF p l = true) ∧ (∀ l ∈ E, allF p l = true) ∧ (∀ l ∈ D, l.length = t + 1) ∧ (∀ l ∈ E, l.length = t + 1) ∧ allF p c = true ∧ allF p f = true ∧ c.length = t + 1 ∧ f.length = t + 1 ∧
      (∀ k, k < t → ∀ i, i ≤ t → Cg p ((E.getD k []).getD i 0) ((D.getD k []).getD i 0 + (upTo (wAt p u v a b z) (t + 1)).getD (k + 1) 0 * z.getD i 0)) ∧ (∀ i, i ≤ t → Cg p (f.getD i 0) (c.getD i 0 + (upTo (wAt p u v a b z) (t + 1)).getD 0 0 * z.getD i 0)) ∧
      Cg p (f.getD 0 0) ((upTo (mAt p u a z) (t + 1)).getD 0 0 * (upTo (mAt p v b z) (t + 1)).getD 0 0) := by
  obtain ⟨ch1, ch2⟩ := change p t a b r z u v F hz lz
  obtain ⟨hp, h1, h4, la, lb, lr, ha, hb, hr⟩ := F
  have a1 := upTo_allF (mAt p u a z) (mAt_in hp u a z) (t + 1)
  have b1 := upTo_allF (mAt p v b z) (mAt_in hp v b z) (t + 1)
  have r1 := upTo_allF (qAt p t r (upTo (wAt p u v a b z) (t + 1)) z) (qAt_in hp t r _ z) (t * t)
  have la1 := upTo_length (mAt p u a z) (t + 1)
  have lb1 := upTo_length (mAt p v b z) (t + 1)
  have lr1 := upTo_length (qAt p t r (upTo (wAt p u v a b z) (t + 1)) z) (t * t)
  have l1 := pmul_len p b (by omega) a (by omega)
  have l2 := pmul_len p (upTo (mAt p v b z) (t + 1)) (by omega) (upTo (mAt p u a z) (t + 1)) (by omega)
  obtain ⟨s1, s2, s3⟩ := rows_short p t r (pmul p a b) lr (by omega)
  obtain ⟨s4, s5, s6⟩ := rows_short p t (upTo (qAt p t r (upTo (wAt p u v a b z) (t + 1)) z) (t * t)) (pmul p (upTo (mAt p u a z) (t + 1)) (upTo (mAt p v b z) (t + 1))) lr1 (by omega)
  have nil : ∀ l ∈ List.replicate t ([] : List Int), allF p l = true := fun l hl => by rw [List.eq_of_mem_replicate hl]; rfl
  obtain ⟨f1, f2⟩ := runR_allF p hp t r hr t (pmul p a b) (List.replicate t []) (pmul_allF p hp _ _) nil
  obtain ⟨f3, f4⟩ := runR_allF p hp t _ r1 t (pmul p (upTo (mAt p u a z) (t + 1)) (upTo (mAt p v b z) (t + 1))) (List.replicate t []) (pmul_allF p hp _ _) nil
  have zero : ∀ (r c : List Int) (x : Nat) (D : List (List Int)), c.length = 2 * t + 1 → x ≤ t → (runR p t r x (c, D)).1.getD 0 0 = c.getD 0 0 := by
    intro r c x
    induction x generalizing c with
    | zero => intro D _ _; rfl
    | succ x ih =>
      intro D hc hx
      refine Eq.trans (ih _ _ (by rw [offAt_length]; exact hc) (by omega)) ?_
      rw [offAt_at p (x + 1) _ c (t + 1) (by omega), if_neg (by omega)]
  refine ⟨_, _, _, _, prove_f p t a b r hp ha hb hr h1 (by omega) la lb lr, prove_f p t _ _ _ hp a1 b1 r1 h1 (by omega) la1 lb1 lr1, s1, s4, f2, f4, s2, s5, allF_take f1 _, allF_take f3 _, by rw [List.length_take]; omega, by rw [List.length_take]; omega, ch2, fun i hi => ?_, ?_⟩
  · have tk : ∀ l : List Int, (l.take (t + 1)).getD i 0 = l.getD i 0 := fun l => by rw [List.getD_eq_getElem?_getD, List.getElem?_take, if_pos (by omega), ← List.getD_eq_getElem?_getD]
    rw [tk, tk]
    exact ch1 i
  · have tk : ∀ l : List Int, (l.take (t + 1)).getD 0 0 = l.getD 0 0 := fun l => by rw [List.getD_eq_getElem?_getD, List.getElem?_take, if_pos (by omega), ← List.getD_eq_getElem?_getD]
    rw [tk, zero _ _ _ _ (by omega) (Nat.le_refl _)]
    refine (pmul_cf p hp _ _ 0).trans (Cg.of_eq ?_)
    simp [cf, sumTo, at_]
end Go.Proofs.Ytkcjhcjlaefgmaa.L21
