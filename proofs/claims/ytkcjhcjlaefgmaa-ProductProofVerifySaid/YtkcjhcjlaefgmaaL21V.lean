/- The law ProductProofVerify over plain numbers and lists. -/
import Derived.Test.YtkcjhcjlaefgmaaL21A
import Derived.Test.YtkcjhcjlaefgmaaQV
namespace Go.Proofs.Ytkcjhcjlaefgmaa.L21
open Go.RowKit Go.Proofs.YtkcjhcjlaefgmaaW.PrintWords
set_option linter.unusedVariables false
set_option linter.unusedSimpArgs false

/-- What is left behind i polynomials. -/
def leftV (p x s : Int) (d : List Int) : Nat → Int
  | 0 => s
  | i + 1 => (leftV p x s d i - x ^ (i + 1) % p * d.getD i 0 % p) % p
theorem leftV_inF {p : Int} (hp : okp p = true) (x s : Int) (hs : inF p s = true) (d : List Int) : ∀ i, inF p (leftV p x s d i) = true
  | 0 => hs
  | i + 1 => inF_mod hp _
theorem pow_step (p x : Int) (n : Nat) : x ^ n % p * x % p = x ^ (n + 1) % p := by
  rw [Int.pow_succ, Int.mul_emod, Int.emod_emod_of_dvd _ (Int.dvd_refl p), ← Int.mul_emod]
theorem verify_l (p x c s : Int) (d : List Int) (hp : okp p = true) (hx : inF p x = true) (hs : inF p s = true) (hd : allF p d = true) (hl : d.length ≤ 1000) : ∀ (n i k : Nat), i + n = d.length → n < k →
    Q.productproof_Verify.l0 k p x c (leftV p x s d i) (x ^ (i + 1) % p) d (d.length : Int) (i : Int) = some (leftV p x s d d.length == c) := by
  intro n
  induction n with
  | zero =>
    intro i k h hk
    obtain ⟨k, rfl⟩ : ∃ q, k = q + 1 := ⟨k - 1, by omega⟩
    simp only [Q.productproof_Verify.l0]
    rw [if_neg (by omega), show i = d.length by omega]
  | succ n ih =>
    intro i k h hk
    obtain ⟨k, rfl⟩ : ∃ q, k = q + 1 := ⟨k - 1, by omega⟩
    simp only [Q.productproof_Verify.l0]
    rw [if_pos (by omega), if_pos (by omega), if_pos (by omega), rd_nat, fmul hp (inF_mod hp _) (allF_getD hp hd i)]
    simp only [Option.bind_some]
    rw [fsub hp (leftV_inF hp x s hs d i) (inF_mod hp _)]
    simp only [Option.bind_some]
    rw [fmul hp (inF_mod hp _) hx]
    simp only [Option.bind_some]
    rw [pow_step, wrap_in (by omega) (by omega)]
    exact ih (i + 1) k (by omega) (by omega)
theorem verify (p x a b c : Int) (d : List Int) (hp : okp p = true) (hx : inF p x = true) (ha : inF p a = true) (hb : inF p b = true) (hd : allF p d = true) (hl : d.length ≤ 1000) (k : Nat) (hk : d.length < k) :
    Q.productproof_Verify.f k p x a b d c = some (leftV p x (a * b % p) d d.length == c) := by
  unfold Q.productproof_Verify.f
  rw [fmul hp ha hb]
  simp only [Option.bind_some]
  have hr : field_Reduce.f p x = some (x ^ (0 + 1) % p) := by
    unfold field_Reduce.f
    rw [hp, inF_isW hp hx, Int.pow_succ, Int.pow_zero, Int.one_mul]
    rfl
  rw [hr]
  simp only [Option.bind_some]
  exact verify_l p x c (a * b % p) d hp hx (inF_mod hp _) hd hl d.length 0 k (by omega) hk
theorem verifyR_l (p x c s : Int) (d : List Int) (hp : okp p = true) (hx : inF p x = true) (hs : inF p s = true) (hd : allF p d = true) (hl : d.length ≤ 1000) : ∀ (n i k : Nat), i + n = d.length → n < k →
    Q.privityref21_Verify.l0 k p x d c (leftV p x s d i) (x ^ i % p) (i : Int) = some (leftV p x s d d.length == c) := by
  intro n
  induction n with
  | zero =>
    intro i k h hk
    obtain ⟨k, rfl⟩ : ∃ q, k = q + 1 := ⟨k - 1, by omega⟩
    simp only [Q.privityref21_Verify.l0]
    rw [if_neg (by omega), show i = d.length by omega]
  | succ n ih =>
    intro i k h hk
    obtain ⟨k, rfl⟩ : ∃ q, k = q + 1 := ⟨k - 1, by omega⟩
    simp only [Q.privityref21_Verify.l0]
    rw [if_pos (by omega), gmul hp (inF_mod hp _) hx, pow_step]
    simp only [Option.bind_some]
    rw [if_pos (by omega), rd_nat, gmul hp (inF_mod hp _) (allF_getD hp hd i)]
    simp only [Option.bind_some]
    rw [gsub hp (leftV_inF hp x s hs d i) (inF_mod hp _)]
    simp only [Option.bind_some]
    rw [wrap_in (by omega) (by omega)]
    exact ih (i + 1) k (by omega) (by omega)
theorem verifyR (p x a b c : Int) (d : List Int) (hp : okp p = true) (hx : inF p x = true) (ha : inF p a = true) (hb : inF p b = true) (hd : allF p d = true) (hl : d.length ≤ 1000) (k : Nat) (hk : d.length < k) :
    Q.privityref21_Verify.f k p x a b d c = some (leftV p x (a * b % p) d d.length == c) := by
  unfold Q.privityref21_Verify.f
  rw [gmul hp ha hb]
  simp only [Option.bind_some]
  have h1 : (1 : Int) = x ^ 0 % p := by rw [Int.pow_zero, Int.emod_eq_of_lt (by omega) (by have := okp_lo hp; omega)]
  have := verifyR_l p x c (a * b % p) d hp hx (inF_mod hp _) hd hl d.length 0 k (by omega) hk
  rwa [← h1] at this
theorem law_l (p x a b c s : Int) (d : List Int) (hp : okp p = true) (hx : inF p x = true) (ha : inF p a = true) (hb : inF p b = true) (hs : s = a * b % p) (hd : allF p d = true) (hl : d.length ≤ 1000) : ∀ (n i k : Nat), i + n = d.length → n + d.length + 200 < k →
    Q.privitylaw21_ProductProofVerify.l0 k p d x a b c (leftV p x s d i) (i : Int) = some true := by
  intro n
  induction n with
  | zero =>
    intro i k h hk
    obtain ⟨k, rfl⟩ : ∃ q, k = q + 1 := ⟨k - 1, by omega⟩
    simp only [Q.privitylaw21_ProductProofVerify.l0]
    rw [if_neg (by omega), awake k (by omega), show i = d.length by omega]
    simp only [Option.bind_some, if_true]
    rw [verify p x a b c d hp hx ha hb hd hl k (by omega), verifyR p x a b c d hp hx ha hb hd hl k (by omega)]
    simp only [Option.bind_some, beq_self_eq_true, if_true]
    subst hs
    congr 1
    rw [show (c == leftV p x (a * b % p) d d.length) = (leftV p x (a * b % p) d d.length == c) from BEq.comm]
    exact beq_self_eq_true _
  | succ n ih =>
    intro i k h hk
    obtain ⟨k, rfl⟩ : ∃ q, k = q + 1 := ⟨k - 1, by omega⟩
    have hw : IntKind.u64.wrap ((i : Int) + 1) = (i : Int) + 1 := w64 _ (by omega) (by omega)
    have hpow : field_Pow.f p x ((i : Int) + 1) = some (x ^ (i + 1) % p) := by
      unfold field_Pow.f
      rw [hp, hx, isW_iff.2 ⟨by omega, by omega⟩, show ((i : Int) + 1).toNat = i + 1 by omega]
      rfl
    simp only [Q.privitylaw21_ProductProofVerify.l0]
    rw [if_pos (by omega), wrap_in (x := (i : Int) + 1) (by omega) (by omega), hw, hpow]
    simp only [Option.bind_some]
    rw [if_pos (by omega), rd_nat, fmul hp (inF_mod hp _) (allF_getD hp hd i)]
    simp only [Option.bind_some]
    rw [fsub hp (leftV_inF hp x s (hs ▸ inF_mod hp _) d i) (inF_mod hp _)]
    simp only [Option.bind_some]
    exact ih (i + 1) k (by omega) (by omega)
theorem pure_verify (p v0 v1 v2 v3 : Int) (d : List Int) (h0 : 0 ≤ v0) (h1 : 0 ≤ v1) (h2 : 0 ≤ v2) (h3 : 0 ≤ v3) (hd : ∀ x ∈ d, 0 ≤ x) : ∃ k, Q.privitylaw21_ProductProofVerify.f k p [v0, v1, v2, v3] d = some true := by
  refine ⟨500, ?_⟩
  have b6 : Q.privityref06_Below.f 500 p d 6 = some (decide (d.length ≤ 6) && allF p d) := below p d 6 (by omega) hd 500 (by omega)
  unfold Q.privitylaw21_ProductProofVerify.f
  rw [supported 500 p (by omega)]
  simp only [Option.bind_some]
  have off : ∀ l : List Int, Q.privitylaw21_ProductProofVerify.j0 500 p d l true = some true := by
    intro l
    simp only [Q.privitylaw21_ProductProofVerify.j0, if_true]
    rw [awake 499 (by omega)]
    rfl
  by_cases hp : okp p = true
  case neg => rw [if_neg hp]; exact off _
  rw [if_pos hp, b6]
  simp only [Option.bind_some]
  by_cases hb : (decide (d.length ≤ 6) && allF p d) = true
  case neg =>
    have : (decide (d.length ≤ 6) && allF p d) = false := by simpa using hb
    rw [this]
    exact off _
  rw [hb]
  rw [Bool.and_eq_true] at hb
  have hl := of_decide_eq_true hb.1
  have hlo := okp_lo hp
  simp only [Q.privitylaw21_ProductProofVerify.j0, Bool.not_true, Bool.false_eq_true, if_false]
  rw [if_pos (by simp), if_neg (by omega), if_pos (by simp), if_pos (by simp), if_pos (by simp)]
  simp only [show rd [v0, v1, v2, v3] 0 = v0 from rfl, show rd [v0, v1, v2, v3] 1 = v1 from rfl, show rd [v0, v1, v2, v3] 2 = v2 from rfl, show rd [v0, v1, v2, v3] 3 = v3 from rfl]
  rw [tmod_nn v0 p h0, tmod_nn v1 p h1, tmod_nn v2 p h2, tmod_nn v3 p h3, fmul hp (inF_mod hp _) (inF_mod hp _)]
  simp only [Option.bind_some]
  exact law_l p (v0 % p) (v1 % p) (v2 % p) (v3 % p) _ d hp (inF_mod hp _) (inF_mod hp _) (inF_mod hp _) rfl hb.2 (by omega) d.length 0 499 (by omega) (by omega)
end Go.Proofs.Ytkcjhcjlaefgmaa.L21
