/- Fermat's little theorem for the seven supported primes, by a generator of each field's multiplicative group. -/
import Derived.Test.YtkcjhcjlaefgmaaSpec
namespace Go.Proofs.Ytkcjhcjlaefgmaa.Fm

theorem pigeon (n : Nat) : ∀ f : Nat → Nat, (∀ i, i < n + 1 → f i < n) → ∃ i j, i < j ∧ j < n + 1 ∧ f i = f j := by
  induction n with
  | zero => intro f h; exact absurd (h 0 (by omega)) (by omega)
  | succ n ih =>
    intro f h
    by_cases e : ∃ i, i < n + 1 ∧ f i = f (n + 1)
    · obtain ⟨i, hi, e⟩ := e
      exact ⟨i, n + 1, by omega, by omega, e⟩
    · have ne : ∀ i, i < n + 1 → f i ≠ f (n + 1) := fun i hi h => e ⟨i, hi, h⟩
      have hv := h (n + 1) (by omega)
      obtain ⟨i, j, hij, hj, hf⟩ := ih (fun i => if f i = n then f (n + 1) else f i) (by
        intro i hi
        have h1 := h i (by omega)
        have h2 := ne i hi
        by_cases hn : f i = n
        · simp only [hn, if_true]; omega
        · simp only [hn, if_false]; omega)
      refine ⟨i, j, hij, by omega, ?_⟩
      have h1 := ne i (by omega)
      have h2 := ne j hj
      by_cases ei : f i = n
      · by_cases ej : f j = n
        · omega
        · simp only [ei, ej, if_true, if_false] at hf; exact absurd hf.symm h2
      · by_cases ej : f j = n
        · simp only [ei, ej, if_true, if_false] at hf; exact absurd hf h1
        · simp only [ei, ej, if_false] at hf; exact hf

theorem surj (n : Nat) (f : Nat → Nat) (h : ∀ i, i < n → f i < n) (inj : ∀ i j, i < j → j < n → f i ≠ f j) (b : Nat) (hb : b < n) : ∃ i, i < n ∧ f i = b := by
  obtain ⟨i, j, hij, hj, hf⟩ := pigeon n (fun i => if i = n then b else f i) (by
    intro i hi
    by_cases e : i = n
    · simp only [e, if_true]; exact hb
    · simp only [e, if_false]; exact h i (by omega))
  have ei : i ≠ n := by omega
  by_cases ej : j = n
  · simp only [ei, ej, if_true, if_false] at hf; exact ⟨i, by omega, hf⟩
  · simp only [ei, ej, if_false] at hf; exact absurd hf (inj i j hij (by omega))

def prod : List Nat → Nat
  | [] => 1
  | q :: l => q * prod l

def isPrime (q : Nat) : Prop := 2 ≤ q ∧ ∀ d, d < q → 2 ≤ d → q % d ≠ 0

def primeB (q : Nat) : Bool := decide (2 ≤ q) && (List.range q).all fun d => decide (d < 2) || q % d != 0

theorem primeB_isPrime {q : Nat} (h : primeB q = true) : isPrime q := by
  unfold primeB at h
  simp only [Bool.and_eq_true, decide_eq_true_eq, List.all_eq_true, List.mem_range, Bool.or_eq_true, bne_iff_ne] at h
  refine ⟨h.1, fun d hd h2 => ?_⟩
  rcases h.2 d hd with h3 | h3
  · omega
  · exact h3

theorem prime_gcd {q m : Nat} (h : isPrime q) : Nat.gcd m q = 1 ∨ q ∣ m := by
  have hd := Nat.gcd_dvd_right m q
  have hpos : 0 < Nat.gcd m q := Nat.gcd_pos_of_pos_right m (by have := h.1; omega)
  have hle := Nat.le_of_dvd (by have := h.1; omega) hd
  by_cases e : Nat.gcd m q = 1
  · exact .inl e
  · by_cases e2 : Nat.gcd m q = q
    · right
      have := Nat.gcd_dvd_left m q
      rw [e2] at this
      exact this
    · exfalso
      exact h.2 _ (by omega) (by omega) (Nat.mod_eq_zero_of_dvd hd)

theorem some_prime (fs : List Nat) (hp : ∀ q, q ∈ fs → isPrime q) (m : Nat) (hm : 1 < m) (hd : m ∣ prod fs) : ∃ q, q ∈ fs ∧ q ∣ m := by
  induction fs with
  | nil => simp only [prod] at hd; exact absurd (Nat.le_of_dvd (by omega) hd) (by omega)
  | cons q l ih =>
    rcases prime_gcd (m := m) (hp q (by simp)) with h | h
    · have hd' : m ∣ prod l := Nat.Coprime.dvd_of_dvd_mul_left (k := m) (m := q) (n := prod l) h (by simpa only [prod] using hd)
      obtain ⟨r, hr, h'⟩ := ih (fun r hr => hp r (by simp [hr])) hd'
      exact ⟨r, by simp [hr], h'⟩
    · exact ⟨q, by simp, h⟩

theorem least (P : Nat → Prop) (n : Nat) (h : P n) : ∃ d, P d ∧ ∀ e, e < d → ¬ P e := by
  induction n using Nat.strongRecOn with
  | ind n ih =>
    by_cases e : ∃ k, k < n ∧ P k
    · obtain ⟨k, hk, hP⟩ := e
      exact ih k hk hP
    · exact ⟨n, h, fun k hk hP => e ⟨k, hk, hP⟩⟩

theorem pow_one_mul {p g d : Nat} (h : g ^ d % p = 1 % p) (k : Nat) : g ^ (d * k) % p = 1 % p := by
  rw [Nat.pow_mul, Nat.pow_mod, h, ← Nat.pow_mod, Nat.one_pow]

theorem order_n (p g n : Nat) (fs : List Nat) (hfs : ∀ q, q ∈ fs → isPrime q) (hn : n = prod fs) (hn0 : 0 < n) (h1 : g ^ n % p = 1 % p)
    (hq : ∀ q, q ∈ fs → g ^ (n / q) % p ≠ 1 % p) : ∀ e, 0 < e → e < n → g ^ e % p ≠ 1 % p := by
  obtain ⟨d, ⟨hd0, hd⟩, hmin⟩ := least (fun d => 0 < d ∧ g ^ d % p = 1 % p) n ⟨hn0, h1⟩
  have hdn : n % d = 0 := by
    have hlt : n % d < d := Nat.mod_lt _ hd0
    by_cases e : n % d = 0
    · exact e
    · exfalso
      refine hmin (n % d) hlt ⟨by omega, ?_⟩
      have hsum : g ^ (d * (n / d)) * g ^ (n % d) = g ^ n := by rw [← Nat.pow_add, Nat.div_add_mod]
      have := h1
      rw [← hsum, Nat.mul_mod, pow_one_mul hd, ← Nat.mul_mod, Nat.one_mul] at this
      exact this
  have hdd : d ∣ n := Nat.dvd_of_mod_eq_zero hdn
  obtain ⟨m, hm⟩ := hdd
  by_cases e1 : m = 1
  · intro e he hen hp
    refine hmin e ?_ ⟨he, hp⟩
    rw [e1] at hm; omega
  · exfalso
    have hm1 : 1 < m := by
      rcases Nat.eq_zero_or_pos m with h | h
      · rw [h] at hm; omega
      · omega
    obtain ⟨q, hqm, k, hk⟩ := some_prime fs hfs m hm1 ⟨d, by rw [← hn, hm, Nat.mul_comm]⟩
    have hq0 : 0 < q := by have := (hfs q hqm).1; omega
    have : n / q = d * k := by
      rw [hm, hk, show d * (q * k) = q * (d * k) by rw [Nat.mul_left_comm]]
      exact Nat.mul_div_cancel_left _ hq0
    exact hq q hqm (by rw [this]; exact pow_one_mul hd k)

theorem fermat_of (p g : Nat) (fs : List Nat) (hp : 2 ≤ p) (hfs : ∀ q, q ∈ fs → isPrime q) (hn : p - 1 = prod fs) (h1 : g ^ (p - 1) % p = 1 % p)
    (hq : ∀ q, q ∈ fs → g ^ ((p - 1) / q) % p ≠ 1 % p) (a : Nat) (h0 : 0 < a) (ha : a < p) : a ^ (p - 1) % p = 1 := by
  have ho := order_n p g (p - 1) fs hfs hn (by omega) h1 hq
  have e1 : 1 % p = 1 := Nat.mod_eq_of_lt (by omega)
  have hnz : ∀ i, i < p - 1 → g ^ i % p ≠ 0 := by
    intro i hi h
    have : g ^ (p - 1) % p = 0 := by
      rw [show p - 1 = i + (p - 1 - i) by omega, Nat.pow_add, Nat.mul_mod, h, Nat.zero_mul, Nat.zero_mod]
    rw [this] at h1; omega
  have hlt : ∀ i, g ^ i % p < p := fun i => Nat.mod_lt _ (by omega)
  have hinj : ∀ i j, i < j → j < p - 1 → g ^ i % p ≠ g ^ j % p := by
    intro i j hij hj h
    refine ho (j - i) (by omega) (by omega) ?_
    have hk : g ^ (p - 1 - i) * g ^ j % p = 1 % p := by
      rw [Nat.mul_mod, ← h, ← Nat.mul_mod, ← Nat.pow_add, show p - 1 - i + i = p - 1 by omega, h1]
    rw [← Nat.pow_add, show p - 1 - i + j = (p - 1) + (j - i) by omega, Nat.pow_add, Nat.mul_mod, h1, ← Nat.mul_mod, Nat.one_mul] at hk
    exact hk
  obtain ⟨i, _, hi⟩ := surj (p - 1) (fun i => g ^ i % p - 1) (fun i hi => by have := hnz i hi; have := hlt i; show g ^ i % p - 1 < p - 1; omega)
    (fun i j hij hj h => hinj i j hij hj (by have := hnz i (by omega); have := hnz j hj; omega)) (a - 1) (by omega)
  have ha' : a = g ^ i % p := by
    rename_i hil
    have := hnz i hil
    omega
  rw [ha', ← Nat.pow_mod, ← Nat.pow_mul, Nat.mul_comm, pow_one_mul h1, e1]

/-- Powers modulo p, by squaring. -/
def pw (p : Nat) : Nat → Nat → Nat → Nat
  | 0, _, _ => 1
  | f + 1, a, n => if n = 0 then 1 else if n % 2 = 1 then pw p f (a * a % p) (n / 2) * a % p else pw p f (a * a % p) (n / 2)

theorem pw_eq (p : Nat) (f : Nat) : ∀ a n, n < 2 ^ f → pw p f a n % p = a ^ n % p := by
  induction f with
  | zero => intro a n h; have : n = 0 := by simpa using h
            subst this; simp [pw]
  | succ f ih =>
    intro a n h
    unfold pw
    by_cases h0 : n = 0
    · simp [h0]
    · have hlt : n / 2 < 2 ^ f := by rw [Nat.pow_succ] at h; omega
      have e := ih (a * a % p) (n / 2) hlt
      have e2 : (a * a % p) ^ (n / 2) % p = a ^ (2 * (n / 2)) % p := by
        rw [← Nat.pow_mod, Nat.pow_mul, Nat.pow_two]
      rw [if_neg h0]
      by_cases h1 : n % 2 = 1
      · rw [if_pos h1, Nat.mod_mod, Nat.mul_mod, e, e2, ← Nat.mul_mod, ← Nat.pow_succ, Nat.succ_eq_add_one, show 2 * (n / 2) + 1 = n by omega]
      · rw [if_neg h1, e, e2, show 2 * (n / 2) = n by omega]

/-- A certificate that can be computed. -/
def cert (p g : Nat) (fs : List Nat) : Bool :=
  decide (2 ≤ p) && fs.all primeB && decide (p - 1 = prod fs) && decide (p - 1 < 2 ^ 64) && decide (pw p 64 g (p - 1) % p = 1) && fs.all fun q => decide (pw p 64 g ((p - 1) / q) % p ≠ 1)

theorem fermat_cert (p g : Nat) (fs : List Nat) (h : cert p g fs = true) (a : Nat) (h0 : 0 < a) (ha : a < p) : a ^ (p - 1) % p = 1 := by
  unfold cert at h
  simp only [Bool.and_eq_true, decide_eq_true_eq, List.all_eq_true] at h
  obtain ⟨⟨⟨⟨⟨h1, h2⟩, h3⟩, h4⟩, h5⟩, h6⟩ := h
  have e1 : 1 % p = 1 := Nat.mod_eq_of_lt (by omega)
  refine fermat_of p g fs h1 (fun q hq => primeB_isPrime (h2 q hq)) h3 (by rw [← pw_eq p 64 g _ h4, h5, e1]) (fun q hq => ?_) a h0 ha
  rw [← pw_eq p 64 g _ (Nat.lt_of_le_of_lt (Nat.div_le_self _ _) h4), e1]
  exact h6 q hq

theorem cert5 : cert 31 3 [2, 3, 5] = true := by decide +kernel
theorem cert7 : cert 127 3 [2, 3, 3, 7] = true := by decide +kernel
theorem cert13 : cert 8191 17 [2, 3, 3, 5, 7, 13] = true := by decide +kernel
theorem cert17 : cert 131071 3 [2, 3, 5, 17, 257] = true := by decide +kernel
theorem cert19 : cert 524287 3 [2, 3, 3, 3, 7, 19, 73] = true := by decide +kernel
theorem cert31 : cert 2147483647 7 [2, 3, 3, 7, 11, 31, 151, 331] = true := by decide +kernel
theorem cert61 : cert 2305843009213693951 37 [2, 3, 3, 5, 5, 7, 11, 13, 31, 41, 61, 151, 331, 1321] = true := by decide +kernel

/-- The supported primes. -/
def Ok (p : Nat) : Prop := p = 31 ∨ p = 127 ∨ p = 8191 ∨ p = 131071 ∨ p = 524287 ∨ p = 2147483647 ∨ p = 2305843009213693951

theorem fermat {p : Nat} (hp : Ok p) (a : Nat) (h0 : 0 < a) (ha : a < p) : a ^ (p - 1) % p = 1 := by
  rcases hp with rfl | rfl | rfl | rfl | rfl | rfl | rfl
  · exact fermat_cert _ _ _ cert5 a h0 ha
  · exact fermat_cert _ _ _ cert7 a h0 ha
  · exact fermat_cert _ _ _ cert13 a h0 ha
  · exact fermat_cert _ _ _ cert17 a h0 ha
  · exact fermat_cert _ _ _ cert19 a h0 ha
  · exact fermat_cert _ _ _ cert31 a h0 ha
  · exact fermat_cert _ _ _ cert61 a h0 ha

end Go.Proofs.Ytkcjhcjlaefgmaa.Fm
namespace Go.Proofs.Ytkcjhcjlaefgmaa
theorem okp_Ok {p : Int} (h : okp p = true) : Fm.Ok p.toNat := by
  unfold Fm.Ok
  rcases okp_cases h with rfl | rfl | rfl | rfl | rfl | rfl | rfl <;> simp
theorem fermatI {p a : Int} (hp : okp p = true) (ha : inF p a = true) (h0 : a ≠ 0) : a ^ (p.toNat - 1) % p = 1 := by
  have h1 := inF_iff.1 ha
  have h2 := okp_lo hp
  obtain ⟨n, rfl⟩ := Int.eq_ofNat_of_zero_le h1.1
  obtain ⟨q, rfl⟩ := Int.eq_ofNat_of_zero_le (show 0 ≤ p by omega)
  have := Fm.fermat (okp_Ok hp) n (by omega) (by simp only [Int.toNat_natCast]; omega)
  rw [Int.toNat_natCast] at this ⊢
  exact_mod_cast this
/-- What Inverse returns is the inverse. -/
theorem inv_mul {p a : Int} (hp : okp p = true) (ha : inF p a = true) (h0 : a ≠ 0) : a * (invF p a).1 % p = 1 := by
  have h2 := okp_lo hp
  have e : (invF p a).1 = a ^ (p - 2).toNat % p := by unfold invF; rw [if_neg h0]
  have e2 : p.toNat - 1 = (p - 2).toNat + 1 := by omega
  rw [e, Int.mul_emod, Int.emod_emod_of_dvd _ (Int.dvd_refl p), ← Int.mul_emod, Int.mul_comm, ← Int.pow_succ, Nat.succ_eq_add_one, ← e2]
  exact fermatI hp ha h0
theorem invF_inF {p a : Int} (hp : okp p = true) : inF p (invF p a).1 = true := by
  have := okp_lo hp
  unfold invF
  split
  · exact inF_iff.2 ⟨by omega, by omega⟩
  · exact inF_mod hp _
end Go.Proofs.Ytkcjhcjlaefgmaa
