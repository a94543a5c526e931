/- The law ProductProofChange over plain numbers and lists. -/
import Derived.Test.YtkcjhcjlaefgmaaL21M
import Derived.Test.YtkcjhcjlaefgmaaM21C
namespace Go.Proofs.Ytkcjhcjlaefgmaa.L21
open Go.RowKit Go.Proofs.YtkcjhcjlaefgmaaW.PrintWords
set_option linter.unusedVariables false
set_option linter.unusedSimpArgs false

theorem roundF_at (t : Nat) (r : List Int) (x : Nat) (c : List Int) (hr : r.length = t * t) (hx : x + 1 ≤ t) (i : Nat) (hi : i ≤ t) : (roundF t r (x + 1) c).getD i 0 = if i < t then r.getD (x * t + i) 0 else c.getD (x + 1 + t) 0 := by
  have h1 : (x + 1) * t ≤ t * t := Nat.mul_le_mul_right _ hx
  have h2 : (x + 1) * t = x * t + t := Nat.succ_mul x t
  unfold roundF
  rw [Nat.add_sub_cancel]
  have hlen : ((r.take ((x + 1) * t)).drop (x * t)).length = t := by rw [List.length_drop, List.length_take]; omega
  rw [List.getD_eq_getElem?_getD, List.getElem?_append]
  split
  · rename_i h
    rw [if_pos (by omega), List.getElem?_drop, List.getElem?_take, if_pos (by omega), ← List.getD_eq_getElem?_getD]
  · rename_i h
    rw [if_neg (by omega), hlen, show i - t = 0 by omega]
    rfl
theorem offAt_at (p : Int) (x : Nat) (f left : List Int) : ∀ n, x + n ≤ left.length → ∀ j, (offAt p x f n left).getD j 0 = if x ≤ j ∧ j < x + n then (left.getD j 0 - f.getD (j - x) 0) % p else left.getD j 0 := by
  intro n
  induction n with
  | zero => intro _ j; rw [if_neg (by omega)]; rfl
  | succ n ih =>
    intro h j
    simp only [offAt]
    rw [set_getD (by rw [offAt_length]; omega), ih (by omega), ih (by omega)]
    by_cases e : j = x + n
    · subst e
      rw [if_pos rfl, if_neg (by omega), if_pos (by omega), show x + n - x = n by omega]
    · rw [if_neg e]
      by_cases e2 : x ≤ j ∧ j < x + n
      · rw [if_pos e2, if_pos (by omega)]
      · rw [if_neg e2, if_neg (by omega)]
theorem change_run (p : Int) (hp : okp p = true) (t : Nat) (r w z : List Int) (hr : r.length = t * t) (ar : allF p r = true) (lz : z.length = t + 1) : ∀ (x : Nat) (c c' : List Int) (D D' : List (List Int)), x ≤ t → c.length = 2 * t + 1 → c'.length = 2 * t + 1 → D.length = t → D'.length = t →
    (∀ j, Cg p (c'.getD j 0) (c.getD j 0 + ST (at_ w) (at_ z) x j)) → (∀ k, x ≤ k → k < t → ∀ i, i ≤ t → Cg p ((D'.getD k []).getD i 0) ((D.getD k []).getD i 0 + w.getD (k + 1) 0 * z.getD i 0)) →
    (∀ j, Cg p ((runR p t (upTo (qAt p t r w z) (t * t)) x (c', D')).1.getD j 0) ((runR p t r x (c, D)).1.getD j 0 + w.getD 0 0 * z.getD j 0)) ∧
    (∀ k, k < t → ∀ i, i ≤ t → Cg p (((runR p t (upTo (qAt p t r w z) (t * t)) x (c', D')).2.getD k []).getD i 0) (((runR p t r x (c, D)).2.getD k []).getD i 0 + w.getD (k + 1) 0 * z.getD i 0)) := by
  have hz : ∀ k, t < k → at_ z k = 0 := fun k hk => getD_ge (by omega)
  intro x
  induction x with
  | zero => intro c c' D D' _ _ _ _ _ hc hD; exact ⟨hc, fun k hk => hD k (Nat.zero_le _) hk⟩
  | succ x ih =>
    intro c c' D D' hx lc lc' lD lD' hc hD
    have hF : ∀ i, i ≤ t → Cg p ((roundF t (upTo (qAt p t r w z) (t * t)) (x + 1) c').getD i 0) ((roundF t r (x + 1) c).getD i 0 + w.getD (x + 1) 0 * z.getD i 0) := by
      intro i hi
      rw [roundF_at t _ x c' (upTo_length _ _) hx i hi, roundF_at t r x c hr hx i hi]
      by_cases h : i < t
      · have h1 : (x + 1) * t ≤ t * t := Nat.mul_le_mul_right _ hx
        have h2 : (x + 1) * t = x * t + t := Nat.succ_mul x t
        rw [if_pos h, if_pos h, upTo_at, if_pos (by omega)]
        unfold qAt
        rw [show (x * t + i) / t = x by rw [Nat.mul_comm, Nat.mul_add_div (by omega), Nat.div_eq_of_lt (by omega)]; omega, show (x * t + i) % t = i by rw [Nat.mul_comm, Nat.mul_add_mod, Nat.mod_eq_of_lt (by omega)]]
        exact (Cg.mod _ _).trans ((Cg.rfl' _ _).add (Cg.mod _ _))
      · rw [if_neg h, if_neg h]
        obtain rfl : i = t := by omega
        have := hc (x + 1 + i)
        rwa [ST_top _ _ _ hz] at this
    refine ih _ _ _ _ (by omega) (by rw [offAt_length]; exact lc) (by rw [offAt_length]; exact lc') (by rw [List.length_set]; exact lD) (by rw [List.length_set]; exact lD') (fun j => ?_) (fun k hk hkt i hi => ?_)
    · show Cg p ((offAt p (x + 1) _ (t + 1) c').getD j 0) ((offAt p (x + 1) _ (t + 1) c).getD j 0 + _)
      rw [offAt_at p (x + 1) _ c' (t + 1) (by omega) j, offAt_at p (x + 1) _ c (t + 1) (by omega) j]
      have hj := hc j
      rw [ST] at hj
      by_cases e : x + 1 ≤ j ∧ j < x + 1 + (t + 1)
      · rw [if_pos e, if_pos e]
        rw [if_pos e.1] at hj
        have h1 := hj.sub (hF (j - (x + 1)) (by omega))
        refine (Cg.mod _ _).trans (h1.trans (Cg.trans (Cg.of_eq ?_) ((Cg.mod p _).symm.add (Cg.rfl' _ _))))
        simp only [at_]
        omega
      · rw [if_neg e, if_neg e]
        refine hj.trans (Cg.of_eq ?_)
        split
        · rw [hz (j - (x + 1)) (by omega)]; simp
        · omega
    · show Cg p (((D'.set (x + 1 - 1) _).getD k []).getD i 0) (((D.set (x + 1 - 1) _).getD k []).getD i 0 + _)
      rw [Nat.add_sub_cancel]
      by_cases e : k = x
      · subst e
        rw [List.getD_eq_getElem?_getD (l := D'.set _ _), List.getD_eq_getElem?_getD (l := D.set _ _), List.getElem?_set_self (by omega), List.getElem?_set_self (by omega)]
        exact hF i hi
      · rw [List.getD_eq_getElem?_getD (l := D'.set _ _), List.getD_eq_getElem?_getD (l := D.set _ _), List.getElem?_set_ne (fun e2 => e e2.symm), List.getElem?_set_ne (fun e2 => e e2.symm), ← List.getD_eq_getElem?_getD, ← List.getD_eq_getElem?_getD]
        exact hD k (by omega) hkt i hi
theorem runR_allF (p : Int) (hp : okp p = true) (t : Nat) (r : List Int) (ar : allF p r = true) : ∀ (x : Nat) (c : List Int) (D : List (List Int)), allF p c = true → (∀ l ∈ D, allF p l = true) → allF p (runR p t r x (c, D)).1 = true ∧ ∀ l ∈ (runR p t r x (c, D)).2, allF p l = true := by
  intro x
  induction x with
  | zero => intro c D hc hD; exact ⟨hc, hD⟩
  | succ x ih =>
    intro c D hc hD
    have aF := roundF_allF hp t r (x + 1) c ar hc
    refine ih _ _ (offAt_allF hp _ _ _ _ hc) fun l hl => ?_
    rcases List.mem_or_eq_of_mem_set hl with h | h
    · exact hD l h
    · rw [h]; exact aF
/-- All that the two laws need of two proofs, before and after the change. -/
theorem change (p : Int) (t : Nat) (a b r z : List Int) (u v : Int) (F : Fit p t a b r) (hz : allF p z = true) (lz : z.length = t + 1) :
    (∀ j, Cg p ((runR p t (upTo (qAt p t r (upTo (wAt p u v a b z) (t + 1)) z) (t * t)) t (pmul p (upTo (mAt p u a z) (t + 1)) (upTo (mAt p v b z) (t + 1)), List.replicate t [])).1.getD j 0) ((runR p t r t (pmul p a b, List.replicate t [])).1.getD j 0 + (upTo (wAt p u v a b z) (t + 1)).getD 0 0 * z.getD j 0)) ∧
    (∀ k, k < t → ∀ i, i ≤ t → Cg p (((runR p t (upTo (qAt p t r (upTo (wAt p u v a b z) (t + 1)) z) (t * t)) t (pmul p (upTo (mAt p u a z) (t + 1)) (upTo (mAt p v b z) (t + 1)), List.replicate t [])).2.getD k []).getD i 0) (((runR p t r t (pmul p a b, List.replicate t [])).2.getD k []).getD i 0 + (upTo (wAt p u v a b z) (t + 1)).getD (k + 1) 0 * z.getD i 0)) := by
  obtain ⟨hp, h1, h4, la, lb, lr, ha, hb, hr⟩ := F
  have e1 := pmul_len p b (by omega) a (by omega)
  have e2 := pmul_len p (upTo (mAt p v b z) (t + 1)) (by rw [upTo_length]; omega) (upTo (mAt p u a z) (t + 1)) (by rw [upTo_length]; omega)
  rw [upTo_length, upTo_length] at e2
  have far : ∀ (l : List Int), l.length = t + 1 → ∀ i, t < i → l.getD i 0 = 0 := fun l hl i hi => getD_ge (by omega)
  refine change_run p hp t r _ z lr hr lz t _ _ _ _ (Nat.le_refl _) (by omega) (by omega) (List.length_replicate ..) (List.length_replicate ..) (fun j => ?_) (fun k hk hkt => by omega)
  refine pmul_moved p hp a b _ _ z _ u v t (fun k hk => by rw [upTo_at, if_neg (by omega)]) (fun i => ?_) (fun i => ?_) (fun i => ?_) j
  · rw [upTo_at]
    split
    · exact (Cg.mod _ _).trans ((Cg.rfl' _ _).add (Cg.mod _ _))
    · rw [far a la i (by omega), far z lz i (by omega)]; exact Cg.of_eq (by simp)
  · rw [upTo_at]
    split
    · exact (Cg.mod _ _).trans ((Cg.rfl' _ _).add (Cg.mod _ _))
    · rw [far b lb i (by omega), far z lz i (by omega)]; exact Cg.of_eq (by simp)
  · rw [upTo_at]
    split
    · exact (Cg.mod _ _).trans (Cg.add ((Cg.mod _ _).trans ((Cg.mod _ _).add (Cg.mod _ _))) ((Cg.mod _ _).trans ((Cg.mod _ _).mul (Cg.rfl' _ _))))
    · rw [far a la i (by omega), far b lb i (by omega), far z lz i (by omega)]; exact Cg.of_eq (by simp)
end Go.Proofs.Ytkcjhcjlaefgmaa.L21
