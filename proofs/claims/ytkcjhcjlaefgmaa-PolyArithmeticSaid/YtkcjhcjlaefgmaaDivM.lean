/- The division: the program's DivMod and the reference's come to the same quotient, remainder and error. -/
import Derived.Test.YtkcjhcjlaefgmaaDivP
namespace Go.Proofs.Ytkcjhcjlaefgmaa
open Go.RowKit Go.Proofs.YtkcjhcjlaefgmaaW.PrintWords
set_option linter.unusedVariables false
set_option linter.unusedSimpArgs false

/-- What is known of a quotient and a remainder. -/
structure DivEnd (p : Int) (b r Q q R : List Int) : Prop where
  same : trimL Q = q
  short : R.length < b.length
  red : allF p R = true
  trim : trimL R = R
  val : ∀ x, ev b x % p = 0 → ev R x % p = ev r x % p
  qred : allF p q = true
  qlen : q.length ≤ 1000000

theorem last_pos {l : List Int} (h : trimL l = l) (hne : l ≠ []) : l.getD (l.length - 1) 0 ≠ 0 := by
  have h1 := trimL_last l (by rw [h]; exact hne)
  have hlen : 0 < l.length := List.length_pos_iff.2 hne
  rw [getD_lt (by omega)]
  simp only [h] at h1
  rwa [List.getLast_eq_getElem] at h1
theorem top_gone {p : Int} (hp : okp p = true) (b r : List Int) (inv : Int) (hinv : b.getD (b.length - 1) 0 * inv % p = 1) (hb0 : 0 < b.length) (hl : b.length ≤ r.length) :
    (elimL p (r.length - b.length) (r.getD (r.length - 1) 0 * inv % p) b r).getD (r.length - 1) 0 = 0 := by
  rw [elimL_getD p _ _ b r (by omega), if_pos (by omega), show r.length - 1 - (r.length - b.length) = b.length - 1 by omega]
  generalize r.getD (r.length - 1) 0 = t at *
  generalize b.getD (b.length - 1) 0 = c at *
  have e : t * inv % p * c % p = t % p := by
    rw [Int.mul_emod, Int.emod_emod_of_dvd _ (Int.dvd_refl p), ← Int.mul_emod, Int.mul_assoc, Int.mul_comm inv c, Int.mul_emod, hinv, Int.mul_one, Int.emod_emod_of_dvd _ (Int.dvd_refl p)]
  rw [Int.sub_emod, e, ← Int.sub_emod, Int.sub_self, Int.zero_emod]
theorem trim_short {l : List Int} {n : Nat} (hl : l.length = n + 1) (h : l.getD n 0 = 0) : (trimL l).length ≤ n := by
  rcases Nat.lt_or_ge n (trimL l).length with hlt | hge
  · exfalso
    have h1 := trimL_le l
    have hne : trimL l ≠ [] := by intro e; rw [e] at hlt; simp at hlt
    have h2 := last_pos (trimL_trimL l) hne
    rw [show (trimL l).length - 1 = n by omega, trimL_getD] at h2
    exact h2 h
  · exact hge

theorem div_main (p : Int) (hp : okp p = true) (b : List Int) (hb : allF p b = true) (hbt : trimL b = b) (hb0 : 0 < b.length) (inv : Int) (hinvF : inF p inv = true) (hinv : b.getD (b.length - 1) 0 * inv % p = 1) : ∀ (n : Nat) (r Q q : List Int),
    r.length ≤ n → r.length ≤ 1000 → b.length ≤ 1000 → allF p r = true → trimL r = r → allF p Q = true → trimL Q = q → q.length ≤ 1000 → r.length + 1 ≤ Q.length + b.length → Q.length ≤ 1000 → (∀ j, j + b.length ≤ r.length → Q.getD j 0 = 0) →
    ∃ K Q' q' R, (∀ k, K ≤ k → X.poly_DivMod.l0 k p b inv r Q = some (trimL Q', R, 0) ∧ X.privityref04_DivMod.l0 k p b r inv q = some (q', R, 0)) ∧ DivEnd p b r Q' q' R := by
  intro n
  induction n with
  | zero =>
    intro r Q q hn hr1 hb1 hr hrt hQ hQq hq1 hQl hQ1 hQ0
    refine ⟨1, Q, q, r, fun k hk => ?_, hQq, by omega, hr, hrt, fun x _ => rfl, hQq ▸ allF_trimL hQ, by omega⟩
    obtain ⟨k, rfl⟩ : ∃ m, k = m + 1 := ⟨k - 1, by omega⟩
    constructor
    · simp only [X.poly_DivMod.l0]
      rw [if_neg (by omega)]
      unfold poly_Trim.f fewL
      rw [if_pos (decide_eq_true (by omega))]
      rfl
    · simp only [X.privityref04_DivMod.l0]
      rw [if_neg (by omega)]
  | succ n ih =>
    intro r Q q hn hr1 hb1 hr hrt hQ hQq hq1 hQl hQ1 hQ0
    by_cases hlt : r.length < b.length
    · refine ⟨1, Q, q, r, fun k hk => ?_, hQq, by omega, hr, hrt, fun x _ => rfl, hQq ▸ allF_trimL hQ, by omega⟩
      obtain ⟨k, rfl⟩ : ∃ m, k = m + 1 := ⟨k - 1, by omega⟩
      constructor
      · simp only [X.poly_DivMod.l0]
        rw [if_neg (by omega)]
        unfold poly_Trim.f fewL
        rw [if_pos (decide_eq_true (by omega))]
        rfl
      · simp only [X.privityref04_DivMod.l0]
        rw [if_neg (by omega)]
    · have hle : b.length ≤ r.length := by omega
      obtain ⟨at_, hat⟩ : ∃ a, a = r.length - b.length := ⟨_, rfl⟩
      obtain ⟨kk, hkk⟩ : ∃ k, k = r.getD (r.length - 1) 0 * inv % p := ⟨_, rfl⟩
      have hkF : inF p kk = true := hkk ▸ inF_mod hp _
      have hgone := top_gone hp b r inv hinv hb0 hle
      rw [← hat, ← hkk] at hgone
      obtain ⟨r', hr'⟩ : ∃ r', r' = trimL (elimL p at_ kk b r) := ⟨_, rfl⟩
      have hr'l : r'.length + 1 ≤ r.length := by
        have := trim_short (n := r.length - 1) (l := elimL p at_ kk b r) (by rw [elimL_length]; omega) hgone
        rw [hr']; omega
      have hr'F : allF p r' = true := hr' ▸ allF_trimL (elimL_allF p hp _ _ _ _)
      have hr't : trimL r' = r' := hr' ▸ trimL_trimL _
      have hQat : at_ < Q.length := by omega
      have hqF : allF p q = true := hQq ▸ allF_trimL hQ
      have hQ'F : allF p (Q.set at_ kk) = true := set_allF hQ hkF _
      have hq' : trimL (padd p q (List.replicate at_ 0 ++ [kk])) = trimL (Q.set at_ kk) := by
        have htF : allF p (List.replicate at_ 0 ++ [kk]) = true := allF_append (zeros_allF hp _) (by show (inF p kk && true) = true; rw [hkF]; rfl)
        refine trimL_ext fun j => ?_
        rw [padd_getD p hp _ _ hqF htF, set_getD hQat, shift_getD, ← hQq, trimL_getD]
        by_cases hj : j = at_
        · subst hj
          rw [if_pos rfl, if_pos (Nat.le_refl _), hQ0 j (by omega), Int.zero_add, Nat.sub_self]
          exact modF hkF
        · rw [if_neg hj]
          have : (if at_ ≤ j then ([kk] : List Int).getD (j - at_) 0 else 0) = 0 := by
            split
            · rw [getD_ge (by simp; omega)]
            · rfl
          rw [this, Int.add_zero, modF (allF_getD hp hQ j)]
      obtain ⟨K, Q2, q2, R, hK, hE⟩ := ih r' (Q.set at_ kk) (trimL (Q.set at_ kk)) (by omega) (by omega) hb1 hr'F hr't hQ'F rfl (by have := trimL_le (Q.set at_ kk); rw [List.length_set] at this; omega) (by rw [List.length_set]; omega) (by rw [List.length_set]; omega) (fun j hj => by
        rw [set_getD hQat, if_neg (by omega)]
        exact hQ0 j (by omega))
      refine ⟨max K 4000000 + b.length + 2, Q2, q2, R, fun k hk => ?_, hE.same, hE.short, hE.red, hE.trim, fun x hx => ?_, hE.qred, hE.qlen⟩
      · obtain ⟨k, rfl⟩ : ∃ m, k = m + 1 := ⟨k - 1, by omega⟩
        constructor
        · simp only [X.poly_DivMod.l0]
          rw [if_pos (by omega), wrap_in (x := (r.length : Int) - 1) (by omega) (by omega), if_pos (by omega), if_pos (by omega), show ((r.length : Int) - 1) = ((r.length - 1 : Nat) : Int) by omega, rd_nat, fmul hp (allF_getD hp hr _) hinvF]
          simp only [Option.bind_some]
          rw [wrap_in (x := (r.length : Int) - b.length) (by omega) (by omega), if_pos (by omega), if_pos (by omega), show ((r.length : Int) - b.length) = ((at_ : Nat) : Int) by omega, Int.toNat_natCast, ← hkk]
          have h1 := p_div_l1 p hp b hb inv (Q.set at_ kk) at_ kk hkF r (by omega) (by omega) b.length k 0 r (by omega) (by omega) rfl hr (by omega) (fun j => by
            rw [if_neg (by omega), Int.sub_zero, modF (allF_getD hp hr j)])
          rw [← hr'] at h1
          exact h1.trans (hK (k - b.length - 1) (by omega)).1
        · simp only [X.privityref04_DivMod.l0]
          rw [if_pos (by omega), wrap_in (x := (r.length : Int) - b.length) (by omega) (by omega), wrap_in (x := (r.length : Int) - b.length + 1) (by omega) (by omega), if_pos (by omega), if_pos (by omega)]
          simp only [Option.bind_some]
          rw [wrap_in (x := (r.length : Int) - 1) (by omega) (by omega), if_pos (by omega), if_pos (by omega), show ((r.length : Int) - 1) = ((r.length - 1 : Nat) : Int) by omega, rd_nat, gmul hp (allF_getD hp hr _) hinvF]
          simp only [Option.bind_some]
          rw [show ((r.length : Int) - b.length + 1).toNat = at_ + 1 by omega, List.length_replicate, wrap_in (by omega) (by omega), if_pos (by omega), if_pos (by omega), ← hkk, show (((at_ + 1 : Nat) : Int) - 1).toNat = at_ by omega, rep_snoc_set]
          have htF : allF p (List.replicate at_ 0 ++ [kk]) = true := allF_append (zeros_allF hp _) (by show (inF p kk && true) = true; rw [hkF]; rfl)
          have htl : (List.replicate at_ (0 : Int) ++ [kk]).length = at_ + 1 := by simp
          have hm1 := trimL_le (pmul p (List.replicate at_ 0 ++ [kk]) b)
          have hml : (trimL (pmul p (List.replicate at_ 0 ++ [kk]) b)).length ≤ 1000000 := by
            have : ∀ a : List Int, (pmul p a b).length ≤ a.length + b.length := by
              intro a
              induction a with
              | nil => simp [pmul]
              | cons x a ih2 =>
                simp only [pmul, padd_length, List.length_cons]
                have : (pscale p x b).length = b.length := by unfold pscale; simp
                omega
            have := this (List.replicate at_ 0 ++ [kk])
            omega
          have hmul : (at_ + 1) * (b.length + 2) ≤ 1001 * 1002 := Nat.mul_le_mul (by omega) (by omega)
          rw [r04_add p hp q _ hqF htF (by omega) (by omega) k (by omega)]
          simp only [Option.bind_some]
          rw [r04_mul p hp _ b htF hb (by omega) (by omega) k (by rw [htl]; omega)]
          simp only [Option.bind_some]
          rw [r04_sub p hp r _ hr (allF_trimL (pmul_allF p hp _ _)) (by omega) hml k (by omega), r_step p hp at_ kk b r hb hr (by omega), hq', ← hr']
          simp only [Option.bind_some]
          exact (hK k (by omega)).2
      · rw [hE.val x hx, hr', ev_trimL, ev_elimL p x at_ kk b r (by omega) hx]

/-- DivMod on both sides. -/
theorem div_both (p : Int) (hp : okp p = true) (a b : List Int) (ha : allF p a = true) (hb : allF p b = true) (la : a.length ≤ 500) (lb : b.length ≤ 500) :
    (trimL b = [] → ∀ k, 1000 ≤ k → X.poly_DivMod.f k p a b = some ([], [], 8) ∧ X.privityref04_DivMod.f k p a b = some ([], [], 8)) ∧
    (trimL b ≠ [] → ∃ K Q q R, (∀ k, K ≤ k → X.poly_DivMod.f k p a b = some (trimL Q, R, 0) ∧ X.privityref04_DivMod.f k p a b = some (q, R, 0)) ∧ DivEnd p (trimL b) a Q q R) := by
  have hta := trimL_le a
  have htb := trimL_le b
  have hT : ∀ l : List Int, l.length ≤ 500 → poly_Trim.f l = some (trimL l) := fun l h => by
    unfold poly_Trim.f fewL
    rw [if_pos (decide_eq_true (by omega))]
  constructor
  · intro h k hk
    constructor
    · unfold X.poly_DivMod.f
      rw [hT b lb, h]
      rfl
    · unfold X.privityref04_DivMod.f
      rw [r04_trim b (by omega) k (by omega), h]
      rfl
  · intro hne
    have hb0 : 0 < (trimL b).length := List.length_pos_iff.2 hne
    have hbF := allF_trimL hb
    have htop := allF_getD hp hbF ((trimL b).length - 1)
    have htop0 := last_pos (trimL_trimL b) hne
    have hinv := inv_mul hp htop htop0
    have hinvF := invF_inF (a := (trimL b).getD ((trimL b).length - 1) 0) hp
    have hQ0 : ∀ j, (List.replicate ((trimL a).length + 1 - (trimL b).length) (0 : Int)).getD j 0 = 0 := fun j => replicate_getD _ j
    obtain ⟨K, Q, q, R, hK, hE⟩ := div_main p hp (trimL b) hbF (trimL_trimL b) hb0 _ hinvF hinv (trimL a).length (trimL a) (List.replicate ((trimL a).length + 1 - (trimL b).length) 0) [] (Nat.le_refl _) (by omega) (by omega) (allF_trimL ha) (trimL_trimL a) (zeros_allF hp _) (trimL_ext (m := []) hQ0) (by simp) (by rw [List.length_replicate]; omega) (by rw [List.length_replicate]; omega) (fun j _ => hQ0 j)
    refine ⟨max K 1000, Q, q, R, fun k hk => ?_, hE.same, hE.short, hE.red, hE.trim, fun x hx => by rw [hE.val x hx, ev_trimL], hE.qred, hE.qlen⟩
    constructor
    · unfold X.poly_DivMod.f
      rw [hT b lb]
      simp only [Option.bind_some]
      rw [if_neg (by omega), wrap_in (by omega) (by omega), if_pos (by omega), if_pos (by omega), show (((trimL b).length : Int) - 1) = (((trimL b).length - 1 : Nat) : Int) by omega, rd_nat]
      unfold field_Inverse.f
      rw [hp, htop, hT a la]
      simp only [Bool.and_true, if_true, Option.bind_some]
      rw [wrap_in (x := ((trimL a).length : Int) - (trimL b).length) (by omega) (by omega), wrap_in (by omega) (by omega)]
      have hmx : (mx 0 (((trimL a).length : Int) - (trimL b).length + 1)).toNat = (trimL a).length + 1 - (trimL b).length := by unfold mx; split <;> omega
      have hmx0 : 0 ≤ mx 0 (((trimL a).length : Int) - (trimL b).length + 1) := by unfold mx; split <;> omega
      rw [if_pos hmx0, if_pos (by omega), hmx]
      exact (hK k (by omega)).1
    · unfold X.privityref04_DivMod.f
      rw [r04_trim b (by omega) k (by omega)]
      simp only [Option.bind_some]
      rw [if_neg (by omega), r04_trim a (by omega) k (by omega)]
      simp only [Option.bind_some]
      rw [wrap_in (by omega) (by omega), if_pos (by omega), if_pos (by omega), show (((trimL b).length : Int) - 1) = (((trimL b).length - 1 : Nat) : Int) by omega, rd_nat]
      unfold privityref01_Inverse.f
      rw [hp, htop]
      simp only [Bool.and_true, if_true, Option.bind_some]
      exact (hK k (by omega)).2
end Go.Proofs.Ytkcjhcjlaefgmaa
