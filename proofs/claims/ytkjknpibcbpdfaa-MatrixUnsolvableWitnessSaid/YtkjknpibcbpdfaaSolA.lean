/- Fermat's theorem for the supported primes; what the reduction and Solve's answer mean. -/
import Derived.Test.YtkjknpibcbpdfaaSpec
import Derived.Test.YtkjknpibcbpdfaaMat10
namespace Go.Proofs.Ytkjknpibcbpdfaa.Fm

theorem pigeon (n : Nat) : ∀ f : Nat → Nat, (∀ i, i < n + 1 → f i < n) → ∃ i j, i < j ∧ j < n + 1 ∧ f i = f j := by
  induction n with
  | zero => intro f h; exact absurd (h 0 (by omega)) (by omega)
  | succ n ih =>
    intro f h
    by_cases e : ∃ i, i < n + 1 ∧ f i = f (n + 1)
    · obtain ⟨i, hi, e⟩ := e
      exact ⟨i, n + 1, by omega, by omega, e⟩
    · have ne : ∀ i, i < n + 1 → f i ≠ f (n + 1) := fun i hi h => e ⟨i, hi, h⟩
      have hv := h (n + 1) (by omega)
      obtain ⟨i, j, hij, hj, hf⟩ := ih (fun i => if f i = n then f (n + 1) else f i) (by
        intro i hi
        have h1 := h i (by omega)
        have h2 := ne i hi
        by_cases hn : f i = n
        · simp only [hn, if_true]; omega
        · simp only [hn, if_false]; omega)
      refine ⟨i, j, hij, by omega, ?_⟩
      have h1 := ne i (by omega)
      have h2 := ne j hj
      by_cases ei : f i = n
      · by_cases ej : f j = n
        · omega
        · simp only [ei, ej, if_true, if_false] at hf; exact absurd hf.symm h2
      · by_cases ej : f j = n
        · simp only [ei, ej, if_true, if_false] at hf; exact absurd hf h1
        · simp only [ei, ej, if_false] at hf; exact hf

theorem surj (n : Nat) (f : Nat → Nat) (h : ∀ i, i < n → f i < n) (inj : ∀ i j, i < j → j < n → f i ≠ f j) (b : Nat) (hb : b < n) : ∃ i, i < n ∧ f i = b := by
  obtain ⟨i, j, hij, hj, hf⟩ := pigeon n (fun i => if i = n then b else f i) (by
    intro i hi
    by_cases e : i = n
    · simp only [e, if_true]; exact hb
    · simp only [e, if_false]; exact h i (by omega))
  have ei : i ≠ n := by omega
  by_cases ej : j = n
  · simp only [ei, ej, if_true, if_false] at hf; exact ⟨i, by omega, hf⟩
  · simp only [ei, ej, if_false] at hf; exact absurd hf (inj i j hij (by omega))

def prod : List Nat → Nat
  | [] => 1
  | q :: l => q * prod l

def isPrime (q : Nat) : Prop := 2 ≤ q ∧ ∀ d, d < q → 2 ≤ d → q % d ≠ 0

def primeB (q : Nat) : Bool := decide (2 ≤ q) && (List.range q).all fun d => decide (d < 2) || q % d != 0

theorem primeB_isPrime {q : Nat} (h : primeB q = true) : isPrime q := by
  unfold primeB at h
  simp only [Bool.and_eq_true, decide_eq_true_eq, List.all_eq_true, List.mem_range, Bool.or_eq_true, bne_iff_ne] at h
  refine ⟨h.1, fun d hd h2 => ?_⟩
  rcases h.2 d hd with h3 | h3
  · omega
  · exact h3

theorem prime_gcd {q m : Nat} (h : isPrime q) : Nat.gcd m q = 1 ∨ q ∣ m := by
  have hd := Nat.gcd_dvd_right m q
  have hpos : 0 < Nat.gcd m q := Nat.gcd_pos_of_pos_right m (by have := h.1; omega)
  have hle := Nat.le_of_dvd (by have := h.1; omega) hd
  by_cases e : Nat.gcd m q = 1
  · exact .inl e
  · by_cases e2 : Nat.gcd m q = q
    · right
      have := Nat.gcd_dvd_left m q
      rw [e2] at this
      exact this
    · exfalso
      exact h.2 _ (by omega) (by omega) (Nat.mod_eq_zero_of_dvd hd)

theorem some_prime (fs : List Nat) (hp : ∀ q, q ∈ fs → isPrime q) (m : Nat) (hm : 1 < m) (hd : m ∣ prod fs) : ∃ q, q ∈ fs ∧ q ∣ m := by
  induction fs with
  | nil => simp only [prod] at hd; exact absurd (Nat.le_of_dvd (by omega) hd) (by omega)
  | cons q l ih =>
    rcases prime_gcd (m := m) (hp q (by simp)) with h | h
    · have hd' : m ∣ prod l := Nat.Coprime.dvd_of_dvd_mul_left (k := m) (m := q) (n := prod l) h (by simpa only [prod] using hd)
      obtain ⟨r, hr, h'⟩ := ih (fun r hr => hp r (by simp [hr])) hd'
      exact ⟨r, by simp [hr], h'⟩
    · exact ⟨q, by simp, h⟩

theorem least (P : Nat → Prop) (n : Nat) (h : P n) : ∃ d, P d ∧ ∀ e, e < d → ¬ P e := by
  induction n using Nat.strongRecOn with
  | ind n ih =>
    by_cases e : ∃ k, k < n ∧ P k
    · obtain ⟨k, hk, hP⟩ := e
      exact ih k hk hP
    · exact ⟨n, h, fun k hk hP => e ⟨k, hk, hP⟩⟩

theorem pow_one_mul {p g d : Nat} (h : g ^ d % p = 1 % p) (k : Nat) : g ^ (d * k) % p = 1 % p := by
  rw [Nat.pow_mul, Nat.pow_mod, h, ← Nat.pow_mod, Nat.one_pow]

theorem order_n (p g n : Nat) (fs : List Nat) (hfs : ∀ q, q ∈ fs → isPrime q) (hn : n = prod fs) (hn0 : 0 < n) (h1 : g ^ n % p = 1 % p)
    (hq : ∀ q, q ∈ fs → g ^ (n / q) % p ≠ 1 % p) : ∀ e, 0 < e → e < n → g ^ e % p ≠ 1 % p := by
  obtain ⟨d, ⟨hd0, hd⟩, hmin⟩ := least (fun d => 0 < d ∧ g ^ d % p = 1 % p) n ⟨hn0, h1⟩
  have hdn : n % d = 0 := by
    have hlt : n % d < d := Nat.mod_lt _ hd0
    by_cases e : n % d = 0
    · exact e
    · exfalso
      refine hmin (n % d) hlt ⟨by omega, ?_⟩
      have hsum : g ^ (d * (n / d)) * g ^ (n % d) = g ^ n := by rw [← Nat.pow_add, Nat.div_add_mod]
      have := h1
      rw [← hsum, Nat.mul_mod, pow_one_mul hd, ← Nat.mul_mod, Nat.one_mul] at this
      exact this
  have hdd : d ∣ n := Nat.dvd_of_mod_eq_zero hdn
  obtain ⟨m, hm⟩ := hdd
  by_cases e1 : m = 1
  · intro e he hen hp
    refine hmin e ?_ ⟨he, hp⟩
    rw [e1] at hm; omega
  · exfalso
    have hm1 : 1 < m := by
      rcases Nat.eq_zero_or_pos m with h | h
      · rw [h] at hm; omega
      · omega
    obtain ⟨q, hqm, k, hk⟩ := some_prime fs hfs m hm1 ⟨d, by rw [← hn, hm, Nat.mul_comm]⟩
    have hq0 : 0 < q := by have := (hfs q hqm).1; omega
    have : n / q = d * k := by
      rw [hm, hk, show d * (q * k) = q * (d * k) by rw [Nat.mul_left_comm]]
      exact Nat.mul_div_cancel_left _ hq0
    exact hq q hqm (by rw [this]; exact pow_one_mul hd k)

theorem fermat_of (p g : Nat) (fs : List Nat) (hp : 2 ≤ p) (hfs : ∀ q, q ∈ fs → isPrime q) (hn : p - 1 = prod fs) (h1 : g ^ (p - 1) % p = 1 % p)
    (hq : ∀ q, q ∈ fs → g ^ ((p - 1) / q) % p ≠ 1 % p) (a : Nat) (h0 : 0 < a) (ha : a < p) : a ^ (p - 1) % p = 1 := by
  have ho := order_n p g (p - 1) fs hfs hn (by omega) h1 hq
  have e1 : 1 % p = 1 := Nat.mod_eq_of_lt (by omega)
  have hnz : ∀ i, i < p - 1 → g ^ i % p ≠ 0 := by
    intro i hi h
    have : g ^ (p - 1) % p = 0 := by
      rw [show p - 1 = i + (p - 1 - i) by omega, Nat.pow_add, Nat.mul_mod, h, Nat.zero_mul, Nat.zero_mod]
    rw [this] at h1; omega
  have hlt : ∀ i, g ^ i % p < p := fun i => Nat.mod_lt _ (by omega)
  have hinj : ∀ i j, i < j → j < p - 1 → g ^ i % p ≠ g ^ j % p := by
    intro i j hij hj h
    refine ho (j - i) (by omega) (by omega) ?_
    have hk : g ^ (p - 1 - i) * g ^ j % p = 1 % p := by
      rw [Nat.mul_mod, ← h, ← Nat.mul_mod, ← Nat.pow_add, show p - 1 - i + i = p - 1 by omega, h1]
    rw [← Nat.pow_add, show p - 1 - i + j = (p - 1) + (j - i) by omega, Nat.pow_add, Nat.mul_mod, h1, ← Nat.mul_mod, Nat.one_mul] at hk
    exact hk
  obtain ⟨i, _, hi⟩ := surj (p - 1) (fun i => g ^ i % p - 1) (fun i hi => by have := hnz i hi; have := hlt i; show g ^ i % p - 1 < p - 1; omega)
    (fun i j hij hj h => hinj i j hij hj (by have := hnz i (by omega); have := hnz j hj; omega)) (a - 1) (by omega)
  have ha' : a = g ^ i % p := by
    rename_i hil
    have := hnz i hil
    omega
  rw [ha', ← Nat.pow_mod, ← Nat.pow_mul, Nat.mul_comm, pow_one_mul h1, e1]

/-- Powers modulo p, by squaring. -/
def pw (p : Nat) : Nat → Nat → Nat → Nat
  | 0, _, _ => 1
  | f + 1, a, n => if n = 0 then 1 else if n % 2 = 1 then pw p f (a * a % p) (n / 2) * a % p else pw p f (a * a % p) (n / 2)

theorem pw_eq (p : Nat) (f : Nat) : ∀ a n, n < 2 ^ f → pw p f a n % p = a ^ n % p := by
  induction f with
  | zero => intro a n h; have : n = 0 := by simpa using h
            subst this; simp [pw]
  | succ f ih =>
    intro a n h
    unfold pw
    by_cases h0 : n = 0
    · simp [h0]
    · have hlt : n / 2 < 2 ^ f := by rw [Nat.pow_succ] at h; omega
      have e := ih (a * a % p) (n / 2) hlt
      have e2 : (a * a % p) ^ (n / 2) % p = a ^ (2 * (n / 2)) % p := by
        rw [← Nat.pow_mod, Nat.pow_mul, Nat.pow_two]
      rw [if_neg h0]
      by_cases h1 : n % 2 = 1
      · rw [if_pos h1, Nat.mod_mod, Nat.mul_mod, e, e2, ← Nat.mul_mod, ← Nat.pow_succ, Nat.succ_eq_add_one, show 2 * (n / 2) + 1 = n by omega]
      · rw [if_neg h1, e, e2, show 2 * (n / 2) = n by omega]

/-- A certificate that can be computed. -/
def cert (p g : Nat) (fs : List Nat) : Bool :=
  decide (2 ≤ p) && fs.all primeB && decide (p - 1 = prod fs) && decide (p - 1 < 2 ^ 64) && decide (pw p 64 g (p - 1) % p = 1) && fs.all fun q => decide (pw p 64 g ((p - 1) / q) % p ≠ 1)

theorem fermat_cert (p g : Nat) (fs : List Nat) (h : cert p g fs = true) (a : Nat) (h0 : 0 < a) (ha : a < p) : a ^ (p - 1) % p = 1 := by
  unfold cert at h
  simp only [Bool.and_eq_true, decide_eq_true_eq, List.all_eq_true] at h
  obtain ⟨⟨⟨⟨⟨h1, h2⟩, h3⟩, h4⟩, h5⟩, h6⟩ := h
  have e1 : 1 % p = 1 := Nat.mod_eq_of_lt (by omega)
  refine fermat_of p g fs h1 (fun q hq => primeB_isPrime (h2 q hq)) h3 (by rw [← pw_eq p 64 g _ h4, h5, e1]) (fun q hq => ?_) a h0 ha
  rw [← pw_eq p 64 g _ (Nat.lt_of_le_of_lt (Nat.div_le_self _ _) h4), e1]
  exact h6 q hq

theorem cert5 : cert 31 3 [2, 3, 5] = true := by decide +kernel
theorem cert7 : cert 127 3 [2, 3, 3, 7] = true := by decide +kernel
theorem cert13 : cert 8191 17 [2, 3, 3, 5, 7, 13] = true := by decide +kernel
theorem cert17 : cert 131071 3 [2, 3, 5, 17, 257] = true := by decide +kernel
theorem cert19 : cert 524287 3 [2, 3, 3, 3, 7, 19, 73] = true := by decide +kernel
theorem cert31 : cert 2147483647 7 [2, 3, 3, 7, 11, 31, 151, 331] = true := by decide +kernel
theorem cert61 : cert 2305843009213693951 37 [2, 3, 3, 5, 5, 7, 11, 13, 31, 41, 61, 151, 331, 1321] = true := by decide +kernel

/-- The supported primes. -/
def Ok (p : Nat) : Prop := p = 31 ∨ p = 127 ∨ p = 8191 ∨ p = 131071 ∨ p = 524287 ∨ p = 2147483647 ∨ p = 2305843009213693951

theorem fermat {p : Nat} (hp : Ok p) (a : Nat) (h0 : 0 < a) (ha : a < p) : a ^ (p - 1) % p = 1 := by
  rcases hp with rfl | rfl | rfl | rfl | rfl | rfl | rfl
  · exact fermat_cert _ _ _ cert5 a h0 ha
  · exact fermat_cert _ _ _ cert7 a h0 ha
  · exact fermat_cert _ _ _ cert13 a h0 ha
  · exact fermat_cert _ _ _ cert17 a h0 ha
  · exact fermat_cert _ _ _ cert19 a h0 ha
  · exact fermat_cert _ _ _ cert31 a h0 ha
  · exact fermat_cert _ _ _ cert61 a h0 ha

end Go.Proofs.Ytkjknpibcbpdfaa.Fm
namespace Go.Proofs.Ytkjknpibcbpdfaa
theorem okp_Ok {p : Int} (h : okp p = true) : Fm.Ok p.toNat := by
  unfold Fm.Ok
  rcases okp_cases h with rfl | rfl | rfl | rfl | rfl | rfl | rfl <;> simp
theorem fermatI {p a : Int} (hp : okp p = true) (ha : inF p a = true) (h0 : a ≠ 0) : a ^ (p.toNat - 1) % p = 1 := by
  have h1 := inF_iff.1 ha
  have h2 := okp_lo hp
  obtain ⟨n, rfl⟩ := Int.eq_ofNat_of_zero_le h1.1
  obtain ⟨q, rfl⟩ := Int.eq_ofNat_of_zero_le (show 0 ≤ p by omega)
  have := Fm.fermat (okp_Ok hp) n (by omega) (by simp only [Int.toNat_natCast]; omega)
  rw [Int.toNat_natCast] at this ⊢
  exact_mod_cast this
/-- What Inverse returns is the inverse. -/
theorem inv_mul {p a : Int} (hp : okp p = true) (ha : inF p a = true) (h0 : a ≠ 0) : a * (invF p a).1 % p = 1 := by
  have h2 := okp_lo hp
  have e : (invF p a).1 = a ^ (p - 2).toNat % p := by unfold invF; rw [if_neg h0]
  have e2 : p.toNat - 1 = (p - 2).toNat + 1 := by omega
  rw [e, Int.mul_emod, Int.emod_emod_of_dvd _ (Int.dvd_refl p), ← Int.mul_emod, Int.mul_comm, ← Int.pow_succ, Nat.succ_eq_add_one, ← e2]
  exact fermatI hp ha h0
end Go.Proofs.Ytkjknpibcbpdfaa

namespace Go.Proofs.Ytkjknpibcbpdfaa
open Go.RowKit Go.Proofs.YtkjknpibcbpdfaaW.PrintWords
set_option linter.unusedVariables false
set_option linter.unusedSimpArgs false

/-! ### equality modulo p -/
def Cg (p a b : Int) : Prop := p ∣ a - b
theorem Cg.refl (p a : Int) : Cg p a a := ⟨0, by omega⟩
theorem Cg.of_eq {p a b : Int} (h : a = b) : Cg p a b := h ▸ Cg.refl p a
theorem Cg.symm {p a b : Int} (h : Cg p a b) : Cg p b a := by
  obtain ⟨t, ht⟩ := h
  exact ⟨-t, by rw [Int.mul_neg]; omega⟩
theorem Cg.trans {p a b c : Int} (h : Cg p a b) (k : Cg p b c) : Cg p a c := by
  obtain ⟨t, ht⟩ := h
  obtain ⟨s, hs⟩ := k
  exact ⟨t + s, by rw [Int.mul_add]; omega⟩
theorem Cg.add {p a b c d : Int} (h : Cg p a b) (k : Cg p c d) : Cg p (a + c) (b + d) := by
  obtain ⟨t, ht⟩ := h
  obtain ⟨s, hs⟩ := k
  exact ⟨t + s, by rw [Int.mul_add]; omega⟩
theorem Cg.sub {p a b c d : Int} (h : Cg p a b) (k : Cg p c d) : Cg p (a - c) (b - d) := by
  obtain ⟨t, ht⟩ := h
  obtain ⟨s, hs⟩ := k
  exact ⟨t - s, by rw [Int.mul_sub]; omega⟩
theorem Cg.mul {p a b : Int} (k : Int) (h : Cg p a b) : Cg p (k * a) (k * b) := by
  obtain ⟨t, ht⟩ := h
  refine ⟨k * t, ?_⟩
  rw [← Int.mul_sub, ht, Int.mul_left_comm]
theorem Cg.mulr {p a b : Int} (k : Int) (h : Cg p a b) : Cg p (a * k) (b * k) := by
  rw [Int.mul_comm a, Int.mul_comm b]
  exact h.mul k
theorem Cg.mod (p a : Int) : Cg p (a % p) a := by
  refine ⟨-(a / p), ?_⟩
  have := Int.emod_add_mul_ediv a p
  rw [Int.mul_neg]
  omega
theorem Cg.eq {p a b : Int} (h : Cg p a b) (ha : inF p a = true) (hb : inF p b = true) : a = b := by
  have h1 := inF_iff.1 ha
  have h2 := inF_iff.1 hb
  have h3 : (a - b) % p = 0 := Int.emod_eq_zero_of_dvd h
  have h4 := Int.emod_emod_of_dvd a (Int.dvd_refl p)
  have e1 := Int.emod_eq_of_lt h1.1 h1.2
  have e2 := Int.emod_eq_of_lt h2.1 h2.2
  have h5 := Int.emod_eq_emod_iff_emod_sub_eq_zero.2 h3
  rw [e1, e2] at h5
  exact h5
theorem Cg.emod {p a b : Int} (h : Cg p a b) : a % p = b % p := Int.emod_eq_emod_iff_emod_sub_eq_zero.2 (Int.emod_eq_zero_of_dvd h)

/-! ### rows as functionals -/
def dotZ : List Int → (Nat → Int) → Int
  | [], _ => 0
  | a :: l, u => a * u 0 + dotZ l fun j => u (j + 1)
def sumZ : Nat → (Nat → Int) → Int
  | 0, _ => 0
  | n + 1, f => sumZ n f + f n
theorem sumZ_congr {f g : Nat → Int} : ∀ n, (∀ j, j < n → f j = g j) → sumZ n f = sumZ n g
  | 0, _ => rfl
  | n + 1, h => by
    unfold sumZ
    rw [sumZ_congr n (fun j hj => h j (by omega)), h n (by omega)]
theorem sumZ_add (f g : Nat → Int) : ∀ n, sumZ n (fun j => f j + g j) = sumZ n f + sumZ n g
  | 0 => rfl
  | n + 1 => by
    show sumZ n (fun j => f j + g j) + (f n + g n) = (sumZ n f + f n) + (sumZ n g + g n)
    rw [sumZ_add f g n]
    omega
theorem sumZ_mul (k : Int) (f : Nat → Int) : ∀ n, sumZ n (fun j => k * f j) = k * sumZ n f
  | 0 => by unfold sumZ; omega
  | n + 1 => by
    show sumZ n (fun j => k * f j) + k * f n = k * (sumZ n f + f n)
    rw [sumZ_mul k f n, Int.mul_add]
theorem sumZ_zero {f : Nat → Int} : ∀ n, (∀ j, j < n → f j = 0) → sumZ n f = 0
  | 0, _ => rfl
  | n + 1, h => by
    unfold sumZ
    rw [sumZ_zero n (fun j hj => h j (by omega)), h n (by omega)]
    rfl
theorem sumZ_single {f : Nat → Int} {i : Nat} : ∀ n, i < n → (∀ j, j < n → j ≠ i → f j = 0) → sumZ n f = f i
  | 0, h, _ => by omega
  | n + 1, hi, h => by
    unfold sumZ
    by_cases e : n = i
    · subst e
      rw [sumZ_zero n (fun j hj => h j (by omega) (by omega))]
      omega
    · rw [sumZ_single n (by omega) (fun j hj hne => h j (by omega) hne), h n (by omega) e]
      omega
theorem sumZ_cg {p : Int} {f g : Nat → Int} : ∀ n, (∀ j, j < n → Cg p (f j) (g j)) → Cg p (sumZ n f) (sumZ n g)
  | 0, _ => Cg.refl _ _
  | n + 1, h => Cg.add (sumZ_cg n fun j hj => h j (by omega)) (h n (by omega))
theorem sumZ_shift (f : Nat → Int) : ∀ n, sumZ (n + 1) f = f 0 + sumZ n (fun j => f (j + 1))
  | 0 => by unfold sumZ sumZ; omega
  | n + 1 => by
    rw [show sumZ (n + 1 + 1) f = sumZ (n + 1) f + f (n + 1) from rfl, sumZ_shift f n]
    show _ = f 0 + (sumZ n (fun j => f (j + 1)) + f (n + 1))
    omega
theorem dotZ_sum : ∀ (l : List Int) (u : Nat → Int), dotZ l u = sumZ l.length (fun j => l.getD j 0 * u j)
  | [], _ => rfl
  | a :: l, u => by
    show a * u 0 + dotZ l (fun j => u (j + 1)) = sumZ (l.length + 1) _
    rw [sumZ_shift, dotZ_sum l]
    rfl
theorem dotZ_scale (p k : Int) : ∀ (l : List Int) (u : Nat → Int), Cg p (dotZ (scaleR p k l) u) (k * dotZ l u)
  | [], u => by
    show Cg p 0 (k * 0)
    exact Cg.of_eq (by omega)
  | a :: l, u => by
    show Cg p (k * a % p * u 0 + dotZ (scaleR p k l) fun j => u (j + 1)) (k * (a * u 0 + dotZ l fun j => u (j + 1)))
    rw [Int.mul_add, ← Int.mul_assoc]
    exact Cg.add (Cg.mulr _ (Cg.mod _ _)) (dotZ_scale p k l _)
theorem dotZ_elim (p k : Int) : ∀ (prow row : List Int) (u : Nat → Int), prow.length = row.length → Cg p (dotZ (elimR p k prow row) u) (dotZ row u - k * dotZ prow u)
  | [], [], u, _ => by
    show Cg p 0 (0 - k * 0)
    exact Cg.of_eq (by omega)
  | b :: prow, a :: row, u, h => by
    show Cg p ((a - k * b % p) % p * u 0 + dotZ (elimR p k prow row) fun j => u (j + 1)) ((a * u 0 + dotZ row fun j => u (j + 1)) - k * (b * u 0 + dotZ prow fun j => u (j + 1)))
    have e : (a * u 0 + dotZ row fun j => u (j + 1)) - k * (b * u 0 + dotZ prow fun j => u (j + 1)) = (a - k * b) * u 0 + ((dotZ row fun j => u (j + 1)) - k * dotZ prow fun j => u (j + 1)) := by
      rw [Int.mul_add, Int.sub_mul, ← Int.mul_assoc]
      omega
    rw [e]
    refine Cg.add (Cg.mulr _ ((Cg.mod _ _).trans (Cg.sub (Cg.refl _ _) (Cg.mod _ _)))) (dotZ_elim p k prow row _ (by simpa using h))
  | [], _ :: _, _, h => by simp at h
  | _ :: _, [], _, h => by simp at h

/-! ### the rows of a step -/
theorem swapL_at (T : List (List Int)) (q r i : Nat) (hq : q < T.length) (hr : r < T.length) : (swapL [] T (q : Int) (r : Int)).getD i [] = if i = r then T.getD q [] else if i = q then T.getD r [] else T.getD i [] := by
  unfold swapL
  rw [Int.toNat_natCast, Int.toNat_natCast]
  by_cases e1 : i = r
  · subst e1
    rw [if_pos rfl, getD_set_self _ _ _ _ (by rw [List.length_set]; exact hr)]
  · rw [if_neg e1, getD_set_ne _ _ _ _ _ (fun e => e1 e.symm)]
    by_cases e2 : i = q
    · subst e2
      rw [if_pos rfl, getD_set_self _ _ _ _ hq]
    · rw [if_neg e2, getD_set_ne _ _ _ _ _ (fun e => e2 e.symm)]
theorem elimAll_at (p : Int) (c r : Nat) (pr : List Int) (m : List (List Int)) (i : Nat) (hi : i < m.length) : (elimAll p c r pr m).getD i [] = if i = r ∨ cellAt m i c = 0 then m.getD i [] else elimR p (cellAt m i c) pr (m.getD i []) := by
  unfold elimAll cellAt
  rw [List.getD_eq_getElem?_getD, List.getElem?_mapIdx, List.getElem?_eq_getElem hi, getD_row hi]
  rfl
theorem scaleR_at (p k : Int) (row : List Int) (j : Nat) (hj : j < row.length) : (scaleR p k row).getD j 0 = k * row.getD j 0 % p := by
  unfold scaleR
  rw [List.getD_eq_getElem?_getD, List.getElem?_map, List.getElem?_eq_getElem hj, getD_num hj]
  rfl
theorem elimR_at (p k : Int) (pr row : List Int) (j : Nat) (hj : j < row.length) (hl : pr.length = row.length) : (elimR p k pr row).getD j 0 = (row.getD j 0 - k * pr.getD j 0 % p) % p := by
  unfold elimR
  rw [List.getD_eq_getElem?_getD, List.getElem?_zipWith, List.getElem?_eq_getElem hj, List.getElem?_eq_getElem (show j < pr.length by omega), getD_num hj, getD_num (by omega)]
  rfl
/-- A step's data: the table before (rows put in place), the pivot's row, the inverse. -/
structure Step (p : Int) (n w c : Nat) (T : List (List Int)) (r : Nat) (T' : List (List Int)) where
  hT : Wide p n w T
  hr : r < n
  hc : c < w
  hx : cellAt T r c ≠ 0
  pr : List Int
  hpr : pr = scaleR p (invF p (cellAt T r c)).1 (T.getD r [])
  hT' : T' = elimAll p c r pr (T.set r pr)
section
variable {p : Int} {n w c r : Nat} {T T' : List (List Int)}
theorem Step.prl (h : Step p n w c T r T') : h.pr.length = w := by rw [h.hpr]; unfold scaleR; rw [List.length_map]; exact h.hT.row _ h.hr
theorem Step.len (h : Step p n w c T r T') : T'.length = n := by rw [h.hT']; unfold elimAll; rw [List.length_mapIdx, List.length_set]; exact h.hT.len
theorem Step.at (h : Step p n w c T r T') (i : Nat) (hi : i < n) : T'.getD i [] = if i = r then h.pr else if cellAt T i c = 0 then T.getD i [] else elimR p (cellAt T i c) h.pr (T.getD i []) := by
  have hl := h.hT.len
  have hr := h.hr
  have e0 : T'.getD i [] = (elimAll p c r h.pr (T.set r h.pr)).getD i [] := congrArg (fun x => x.getD i []) h.hT'
  rw [e0, elimAll_at _ _ _ _ _ _ (by rw [List.length_set]; omega)]
  by_cases e : i = r
  · subst e
    rw [if_pos (.inl rfl), if_pos rfl, getD_set_self _ _ _ _ (by omega)]
  · have e1 : (T.set r h.pr).getD i [] = T.getD i [] := getD_set_ne _ _ _ _ _ (fun e2 => e e2.symm)
    have e2 : cellAt (T.set r h.pr) i c = cellAt T i c := by unfold cellAt; rw [e1]
    rw [e1, e2, if_neg e]
    by_cases e3 : cellAt T i c = 0
    · rw [if_pos (.inr e3), if_pos e3]
    · rw [if_neg (fun h => h.elim e e3), if_neg e3]
theorem Step.inv (h : Step p n w c T r T') (hp : okp p = true) : cellAt T r c * (invF p (cellAt T r c)).1 % p = 1 := inv_mul hp (h.hT.at hp _ _) h.hx
/-- What the new rows vanish at, the old rows vanish at. -/
theorem Step.back (h : Step p n w c T r T') (hp : okp p = true) (u : Nat → Int) (hu : ∀ i, i < n → Cg p (dotZ (T'.getD i []) u) 0) : ∀ i, i < n → Cg p (dotZ (T.getD i []) u) 0 := by
  have hprow : Cg p (dotZ h.pr u) 0 := by
    have := hu r h.hr
    rw [h.at r h.hr, if_pos rfl] at this
    exact this
  intro i hi
  by_cases e : i = r
  · subst e
    -- x * (iv * row) ≡ row
    have h1 : Cg p ((invF p (cellAt T i c)).1 * dotZ (T.getD i []) u) 0 := by
      have := dotZ_scale p (invF p (cellAt T i c)).1 (T.getD i []) u
      rw [← h.hpr] at this
      exact this.symm.trans hprow
    have h2 := h1.mul (cellAt T i c)
    rw [← Int.mul_assoc, Int.mul_zero] at h2
    have h3 : Cg p (cellAt T i c * (invF p (cellAt T i c)).1) 1 := by
      have := Cg.mod p (cellAt T i c * (invF p (cellAt T i c)).1)
      rw [h.inv hp] at this
      exact this.symm
    have h4 := h3.mulr (dotZ (T.getD i []) u)
    rw [Int.one_mul] at h4
    exact h4.symm.trans h2
  · have h1 := hu i hi
    rw [h.at i hi, if_neg e] at h1
    by_cases e2 : cellAt T i c = 0
    · rw [if_pos e2] at h1
      exact h1
    · rw [if_neg e2] at h1
      have h2 := dotZ_elim p (cellAt T i c) h.pr (T.getD i []) u (by rw [h.prl, h.hT.row i hi])
      have h3 := h2.symm.trans h1
      have h4 := h3.add (hprow.mul (cellAt T i c))
      rw [Int.mul_zero] at h4
      have e3 : dotZ (T.getD i []) u - cellAt T i c * dotZ h.pr u + cellAt T i c * dotZ h.pr u = dotZ (T.getD i []) u := by omega
      rw [e3] at h4
      exact h4
end
/-- A row that is a combination of the rows of A. -/
def Comb (p : Int) (A : List (List Int)) (row : List Int) : Prop := ∃ y : Nat → Int, ∀ u, Cg p (dotZ row u) (sumZ A.length fun j => y j * dotZ (A.getD j []) u)
theorem Comb.self (p : Int) (A : List (List Int)) (i : Nat) (hi : i < A.length) : Comb p A (A.getD i []) := by
  refine ⟨fun j => if j = i then 1 else 0, fun u => Cg.of_eq ?_⟩
  rw [sumZ_single (i := i) _ hi (fun j _ hj => by show (if j = i then (1 : Int) else 0) * _ = 0; rw [if_neg hj]; omega)]
  show _ = (if i = i then (1 : Int) else 0) * _
  rw [if_pos rfl]
  omega
theorem Comb.scale {p : Int} {A : List (List Int)} {row : List Int} (h : Comb p A row) (k : Int) : Comb p A (scaleR p k row) := by
  obtain ⟨y, hy⟩ := h
  refine ⟨fun j => k * y j, fun u => (dotZ_scale p k row u).trans (((hy u).mul k).trans (Cg.of_eq ?_))⟩
  rw [← sumZ_mul]
  exact sumZ_congr _ fun j _ => (Int.mul_assoc ..).symm
theorem Comb.elim {p : Int} {A : List (List Int)} {row prow : List Int} (h : Comb p A row) (hp : Comb p A prow) (k : Int) (hl : prow.length = row.length) : Comb p A (elimR p k prow row) := by
  obtain ⟨y, hy⟩ := h
  obtain ⟨z, hz⟩ := hp
  refine ⟨fun j => y j + -k * z j, fun u => (dotZ_elim p k prow row u hl).trans ((Cg.sub (hy u) ((hz u).mul k)).trans (Cg.of_eq ?_))⟩
  have : ∀ j, (y j + -k * z j) * dotZ (A.getD j []) u = y j * dotZ (A.getD j []) u + -1 * (k * (z j * dotZ (A.getD j []) u)) := fun j => by
    rw [Int.add_mul, Int.neg_mul, Int.neg_mul, Int.neg_mul, Int.one_mul, Int.mul_assoc]
  rw [sumZ_congr _ (fun j _ => this j), sumZ_add, sumZ_mul (-1), sumZ_mul k]
  omega
theorem Comb.sat {p : Int} {A : List (List Int)} {row : List Int} (h : Comb p A row) {u : Nat → Int} (hu : ∀ i, i < A.length → Cg p (dotZ (A.getD i []) u) 0) : Cg p (dotZ row u) 0 := by
  obtain ⟨y, hy⟩ := h
  refine (hy u).trans ((sumZ_cg (g := fun _ => 0) _ fun j hj => ?_).trans (Cg.of_eq (sumZ_zero _ fun _ _ => rfl)))
  have := (hu j hj).mul (y j)
  rwa [Int.mul_zero] at this
theorem findP_none (m : List (List Int)) (c : Nat) : ∀ (d i : Nat), findP m c d i = none → ∀ k, i ≤ k → k < i + d → cellAt m k c = 0
  | 0, i, _, k, h1, h2 => by omega
  | d + 1, i, h, k, h1, h2 => by
    unfold findP at h
    split at h
    · cases h
    · rename_i h0
      by_cases e : k = i
      · subst e
        exact Decidable.byContradiction h0
      · exact findP_none m c d (i + 1) h k (by omega) (by omega)
theorem Step.cell {p : Int} {n w c r : Nat} {T T' : List (List Int)} (h : Step p n w c T r T') (i j : Nat) (hi : i < n) (hj : j < w) : cellAt T' i j = if i = r then (invF p (cellAt T r c)).1 * cellAt T r j % p else if cellAt T i c = 0 then cellAt T i j else (cellAt T i j - cellAt T i c * ((invF p (cellAt T r c)).1 * cellAt T r j % p) % p) % p := by
  have hpr : h.pr.getD j 0 = (invF p (cellAt T r c)).1 * cellAt T r j % p := by
    rw [h.hpr, scaleR_at _ _ _ _ (by rw [h.hT.row r h.hr]; exact hj)]
    rfl
  unfold cellAt
  rw [h.at i hi]
  by_cases e : i = r
  · rw [if_pos e, if_pos e, hpr]
    rfl
  · rw [if_neg e, if_neg e]
    by_cases e2 : cellAt T i c = 0
    · rw [if_pos e2, if_pos (show (T.getD i []).getD c 0 = 0 from e2)]
    · rw [if_neg e2, if_neg (show ¬ (T.getD i []).getD c 0 = 0 from e2), elimR_at _ _ _ _ _ (by rw [h.hT.row i hi]; exact hj) (by rw [h.prl, h.hT.row i hi]), hpr]
      rfl
/-- What a state between two columns means. -/
structure RedM (p : Int) (A : List (List Int)) (n w c : Nat) (T : List (List Int)) (piv : List Int) : Prop where
  wide : Wide p n w T
  pl : piv.length ≤ n
  sol : ∀ u, (∀ i, i < n → Cg p (dotZ (T.getD i []) u) 0) → ∀ i, i < n → Cg p (dotZ (A.getD i []) u) 0
  comb : ∀ i, i < n → Comb p A (T.getD i [])
  inc : ∀ t, t < piv.length → 0 ≤ piv.getD t 0 ∧ piv.getD t 0 < c
  one : ∀ t, t < piv.length → cellAt T t (piv.getD t 0).toNat = 1
  zero : ∀ t, t < piv.length → ∀ i, i < n → i ≠ t → cellAt T i (piv.getD t 0).toNat = 0
  low : ∀ i, piv.length ≤ i → i < n → ∀ j, j < c → cellAt T i j = 0
theorem redM_start {p : Int} {A : List (List Int)} {n w : Nat} (hA : Wide p n w A) : RedM p A n w 0 A [] :=
  ⟨hA, Nat.zero_le _, fun u h => h, fun i hi => Comb.self p A i (by rw [hA.len]; exact hi), fun t ht => absurd ht (by simp), fun t ht => absurd ht (by simp), fun t ht => absurd ht (by simp), fun i _ _ j hj => absurd hj (by omega)⟩
theorem redM_step {p : Int} (hp : okp p = true) {A : List (List Int)} {n w c : Nat} (hc : c < w) {T : List (List Int)} {piv : List Int} {det : Int} (h : RedM p A n w c T piv) : RedM p A n w (c + 1) (redCol p (T, piv, det) c).1 (redCol p (T, piv, det) c).2.1 := by
  have hT := h.wide
  have hl := hT.len
  have hpl := h.pl
  have hp31 := okp_lo hp
  cases hf : findP T c (T.length - piv.length) piv.length with
  | none =>
    rw [redCol_none p T piv det c hf]
    show RedM p A n w (c + 1) T piv
    refine ⟨hT, hpl, h.sol, h.comb, fun t ht => by have := h.inc t ht; omega, h.one, h.zero, fun i h1 h2 j hj => ?_⟩
    by_cases e : j = c
    · subst e
      exact findP_none T j _ _ hf i h1 (by omega)
    · exact h.low i h1 h2 j (by omega)
  | some q =>
    obtain ⟨hq1, hq2, hq3⟩ := findP_spec _ _ _ _ _ hf
    rw [redCol_some p T piv det c q hf rfl rfl]
    obtain ⟨r, hr⟩ : ∃ r, r = piv.length := ⟨_, rfl⟩
    have hqn : q < n := by omega
    have hrn : r < n := by omega
    obtain ⟨T1, hT1⟩ : ∃ T1, T1 = if q = piv.length then T else swapL [] T (q : Int) (piv.length : Int) := ⟨_, rfl⟩
    rw [← hT1]
    rw [← hr] at hT1
    have hW1 : Wide p n w T1 := by
      rw [hT1]
      split
      · exact hT
      · exact hT.swap hqn hrn
    -- the rows of T1
    have hrow : ∀ i, i < n → ∃ i', i' < n ∧ T1.getD i [] = T.getD i' [] ∧ (i < r → i' = i) ∧ (r ≤ i → r ≤ i') := by
      intro i hi
      rw [hT1]
      by_cases e : q = r
      · rw [if_pos e]
        exact ⟨i, hi, rfl, fun _ => rfl, id⟩
      · rw [if_neg e, swapL_at _ _ _ _ (by omega) (by omega)]
        by_cases e1 : i = r
        · rw [if_pos e1]
          exact ⟨q, hqn, rfl, fun h => by omega, fun _ => by omega⟩
        · rw [if_neg e1]
          by_cases e2 : i = q
          · rw [if_pos e2]
            exact ⟨r, hrn, rfl, fun h => by omega, fun _ => by omega⟩
          · rw [if_neg e2]
            exact ⟨i, hi, rfl, fun _ => rfl, id⟩
    have hback : ∀ i, i < n → ∃ i', i' < n ∧ T.getD i [] = T1.getD i' [] := by
      intro i hi
      rw [hT1]
      by_cases e : q = r
      · rw [if_pos e]
        exact ⟨i, hi, rfl⟩
      · rw [if_neg e]
        by_cases e1 : i = r
        · refine ⟨q, hqn, ?_⟩
          rw [swapL_at _ _ _ _ (by omega) (by omega), if_neg e, if_pos rfl, e1]
        · by_cases e2 : i = q
          · refine ⟨r, hrn, ?_⟩
            rw [swapL_at _ _ _ _ (by omega) (by omega), if_pos rfl, e2]
          · refine ⟨i, hi, ?_⟩
            rw [swapL_at _ _ _ _ (by omega) (by omega), if_neg e1, if_neg e2]
    have hx : cellAt T1 r c = cellAt T q c := by
      unfold cellAt
      rw [hT1]
      by_cases e : q = r
      · rw [if_pos e, e]
      · rw [if_neg e, swapL_at _ _ _ _ (by omega) (by omega), if_pos rfl]
    rw [← hr]
    obtain ⟨T', hT'⟩ : ∃ T', T' = elimAll p c r (scaleR p (invF p (cellAt T1 r c)).1 (T1.getD r [])) (T1.set r (scaleR p (invF p (cellAt T1 r c)).1 (T1.getD r []))) := ⟨_, rfl⟩
    dsimp only
    rw [← hT']
    have st : Step p n w c T1 r T' := ⟨hW1, hrn, hc, by rw [hx]; exact hq3, _, rfl, hT'⟩
    have hiv := st.inv hp
    obtain ⟨iv, hivd⟩ : ∃ iv, iv = (invF p (cellAt T1 r c)).1 := ⟨_, rfl⟩
    have hcell := st.cell
    rw [← hivd] at hiv hcell
    -- the pivot's row has zeros ahead of c
    have hr0 : ∀ j, j < c → cellAt T1 r j = 0 := fun j hj => by
      obtain ⟨i', h1, h2, _, h4⟩ := hrow r hrn
      unfold cellAt
      rw [h2]
      exact h.low i' (by omega) h1 j hj
    have hpr0 : ∀ j, j < c → iv * cellAt T1 r j % p = 0 := fun j hj => by rw [hr0 j hj, Int.mul_zero, Int.zero_emod]
    have keep : ∀ i j, i < n → j < c → i ≠ r → (cellAt T1 i j = 0 ∨ cellAt T1 i j = 1) → cellAt T' i j = cellAt T1 i j := fun i j hi hj hne h01 => by
      rw [hcell i j hi (by omega), if_neg hne, hpr0 j hj, Int.mul_zero, Int.zero_emod, Int.sub_zero]
      split
      · rfl
      · rcases h01 with e | e <;> rw [e]
        · exact Int.zero_emod _
        · exact Int.emod_eq_of_lt (by omega) (by omega)
    have colc : ∀ i, i < n → i ≠ r → cellAt T' i c = 0 := fun i hi hne => by
      rw [hcell i c hi hc, if_neg hne]
      split
      · assumption
      · have hk := inF_iff.1 (hW1.at hp i c)
        rw [Int.mul_comm iv, hiv, Int.mul_one, Int.emod_eq_of_lt hk.1 hk.2, Int.sub_self, Int.zero_emod]
    refine ⟨?_, by simp; omega, fun u hu => ?_, fun i hi => ?_, fun t ht => ?_, fun t ht => ?_, fun t ht i hi hne => ?_, fun i h1 h2 j hj => ?_⟩
    · rw [hT']
      have hl1 : (scaleR p (invF p (cellAt T1 r c)).1 (T1.getD r [])).length = w := by unfold scaleR; rw [List.length_map]; exact hW1.row r hrn
      exact elimAll_wide hp (hW1.set hl1 (scaleR_allF hp _ _)) _ _ _ hl1
    · refine h.sol u fun i hi => ?_
      obtain ⟨i', h1, h2⟩ := hback i hi
      rw [h2]
      exact st.back hp u hu i' h1
    · have hc1 : ∀ i, i < n → Comb p A (T1.getD i []) := fun i hi => by
        obtain ⟨i', h1, h2, _⟩ := hrow i hi
        rw [h2]
        exact h.comb i' h1
      rw [st.at i hi]
      split
      · rw [st.hpr]
        exact (hc1 r hrn).scale _
      · split
        · exact hc1 i hi
        · refine (hc1 i hi).elim ?_ _ (by rw [st.prl, hW1.row i hi])
          rw [st.hpr]
          exact (hc1 r hrn).scale _
    · by_cases e : t < piv.length
      · have := h.inc t e
        rw [List.getD_eq_getElem?_getD, List.getElem?_append_left e, ← List.getD_eq_getElem?_getD]
        omega
      · have : t = piv.length := by simp at ht; omega
        subst this
        rw [List.getD_eq_getElem?_getD, List.getElem?_append_right (Nat.le_refl _), Nat.sub_self]
        show 0 ≤ (c : Int) ∧ (c : Int) < ((c + 1 : Nat) : Int)
        omega
    · by_cases e : t < piv.length
      · have hi := h.inc t e
        rw [List.getD_eq_getElem?_getD, List.getElem?_append_left e, ← List.getD_eq_getElem?_getD]
        obtain ⟨t', h1, h2, h3, _⟩ := hrow t (by omega)
        have h4 := h3 (by omega)
        subst h4
        have h5 : cellAt T1 t' (piv.getD t' 0).toNat = 1 := by
          have := h.one t' e
          unfold cellAt at this ⊢
          rw [h2]
          exact this
        rw [keep t' _ (by omega) (by omega) (by omega) (.inr h5)]
        exact h5
      · have : t = piv.length := by simp at ht; omega
        subst this
        rw [List.getD_eq_getElem?_getD, List.getElem?_append_right (Nat.le_refl _), Nat.sub_self]
        show cellAt T' piv.length (c : Int).toNat = 1
        rw [Int.toNat_natCast, ← hr, hcell r c hrn hc, if_pos rfl, Int.mul_comm, hiv]
    · by_cases e : t < piv.length
      · have hti := h.inc t e
        rw [List.getD_eq_getElem?_getD, List.getElem?_append_left e, ← List.getD_eq_getElem?_getD]
        by_cases er : i = r
        · subst er
          rw [hcell i _ hi (by omega), if_pos rfl, hpr0 _ (by omega)]
        · obtain ⟨i', h1, h2, h3, h4⟩ := hrow i hi
          have h5 : cellAt T1 i (piv.getD t 0).toNat = 0 := by
            have := h.zero t e i' h1 (by
              by_cases e3 : i < r
              · rw [h3 e3]; exact hne
              · have := h4 (by omega); omega)
            unfold cellAt at this ⊢
            rw [h2]
            exact this
          rw [keep i _ hi (by omega) er (.inl h5)]
          exact h5
      · have : t = piv.length := by simp at ht; omega
        subst this
        rw [List.getD_eq_getElem?_getD, List.getElem?_append_right (Nat.le_refl _), Nat.sub_self]
        show cellAt T' i (c : Int).toNat = 0
        rw [Int.toNat_natCast]
        exact colc i hi (by omega)
    · have hir : r + 1 ≤ i := by simp at h1; omega
      by_cases e : j = c
      · subst e
        exact colc i h2 (by omega)
      · obtain ⟨i', h3, h4, _, h6⟩ := hrow i h2
        have h5 : cellAt T1 i j = 0 := by
          have := h.low i' (by omega) h3 j (by omega)
          unfold cellAt at this ⊢
          rw [h4]
          exact this
        rw [keep i j h2 (by omega) (by omega) (.inl h5)]
        exact h5
theorem redM_all {p : Int} (hp : okp p = true) {A : List (List Int)} {n w : Nat} (hA : Wide p n w A) : ∀ c, c ≤ w → RedM p A n w c (redAll p A c).1 (redAll p A c).2.1
  | 0, _ => redM_start hA
  | c + 1, hc => by
    rw [redAll_succ]
    exact redM_step hp (by omega) (redM_all hp hA c (by omega))
end Go.Proofs.Ytkjknpibcbpdfaa

namespace Go.Proofs.Ytkjknpibcbpdfaa
open Go.RowKit Go.Proofs.YtkjknpibcbpdfaaW.PrintWords
set_option linter.unusedVariables false
set_option linter.unusedSimpArgs false

theorem foldl_set_none (T : List (List Int)) (n j : Nat) : ∀ (L : List (Int × Nat)) (o : List Int), (∀ q ∈ L, q.1.toNat ≠ j) → (L.foldl (fun o q => o.set q.1.toNat (cellAt T q.2 n)) o).getD j 0 = o.getD j 0
  | [], _, _ => rfl
  | q :: L, o, h => by
    rw [List.foldl_cons, foldl_set_none T n j L _ (fun x hx => h x (List.mem_cons_of_mem _ hx)), getD_set_ne _ _ _ _ _ (h q (List.mem_cons_self ..))]
theorem foldl_set_some (T : List (List Int)) (n j i : Nat) : ∀ (L : List (Int × Nat)) (o : List Int), j < o.length → (∀ q ∈ L, q.1.toNat = j → q.2 = i) → (∃ q ∈ L, q.1.toNat = j) → (L.foldl (fun o q => o.set q.1.toNat (cellAt T q.2 n)) o).getD j 0 = cellAt T i n
  | [], _, _, _, h => by obtain ⟨q, hq, _⟩ := h; cases hq
  | q :: L, o, ho, hu, h => by
    rw [List.foldl_cons]
    by_cases hL : ∃ q ∈ L, q.1.toNat = j
    · exact foldl_set_some T n j i L _ (by rw [List.length_set]; exact ho) (fun x hx => hu x (List.mem_cons_of_mem _ hx)) hL
    · rw [foldl_set_none T n j L _ (fun x hx e => hL ⟨x, hx, e⟩)]
      obtain ⟨x, hx, e⟩ := h
      rcases List.mem_cons.1 hx with rfl | hx
      · rw [← hu x (List.mem_cons_self ..) e, ← e, getD_set_self _ _ _ _ (by rw [e]; exact ho)]
      · exact absurd ⟨x, hx, e⟩ hL
theorem zip_mem {piv : List Int} {q : Int × Nat} (h : q ∈ piv.zipIdx) : q.2 < piv.length ∧ piv.getD q.2 0 = q.1 := by
  obtain ⟨i, hi, e⟩ := List.mem_iff_getElem.1 h
  rw [List.length_zipIdx] at hi
  rw [List.getElem_zipIdx, Nat.zero_add] at e
  subst e
  exact ⟨hi, getD_num hi⟩
section
variable {p : Int} {A : List (List Int)} {n w c : Nat} {T : List (List Int)} {piv : List Int}
theorem RedM.inj (h : RedM p A n w c T piv) {s t : Nat} (hs : s < piv.length) (ht : t < piv.length) (e : (piv.getD s 0).toNat = (piv.getD t 0).toNat) : s = t := by
  refine Decidable.byContradiction fun hne => ?_
  have h1 := h.one s hs
  have h2 := h.zero t ht s (by have := h.pl; omega) hne
  rw [e] at h1
  rw [h1] at h2
  cases h2
theorem RedM.out_piv (h : RedM p A n w c T piv) {i : Nat} (hi : i < piv.length) : (solveOut T c piv).getD (piv.getD i 0).toNat 0 = cellAt T i c := by
  have hin := h.inc i hi
  unfold solveOut
  refine foldl_set_some T c _ i _ _ (by rw [List.length_replicate]; omega) (fun q hq e => ?_) ⟨(piv[i], i), ?_, by rw [getD_num hi]⟩
  · obtain ⟨h1, h2⟩ := zip_mem hq
    exact h.inj h1 hi (by rw [h2]; exact e)
  · rw [List.mem_iff_getElem]
    exact ⟨i, by rw [List.length_zipIdx]; exact hi, by rw [List.getElem_zipIdx, Nat.zero_add]⟩
theorem RedM.out_free (h : RedM p A n w c T piv) {j : Nat} (hj : ∀ t, t < piv.length → (piv.getD t 0).toNat ≠ j) : (solveOut T c piv).getD j 0 = 0 := by
  unfold solveOut
  rw [foldl_set_none T c j _ _ (fun q hq => by obtain ⟨h1, h2⟩ := zip_mem hq; rw [← h2]; exact hj _ h1)]
  rw [List.getD_eq_getElem?_getD, List.getElem?_replicate]
  split <;> rfl
/-- The vector x with -1 behind it. -/
def ext (n : Nat) (x : Nat → Int) : Nat → Int := fun j => if j < n then x j else -1
theorem dot_ext (row : List Int) (n : Nat) (hl : row.length = n + 1) (x : Nat → Int) : dotZ row (ext n x) = sumZ n (fun j => row.getD j 0 * x j) - row.getD n 0 := by
  rw [dotZ_sum, hl]
  show sumZ n _ + row.getD n 0 * ext n x n = _
  have e : sumZ n (fun j => row.getD j 0 * ext n x j) = sumZ n (fun j => row.getD j 0 * x j) := sumZ_congr n fun j hj => by
    unfold ext
    rw [if_pos hj]
  rw [e]
  unfold ext
  rw [if_neg (by omega)]
  omega
/-- The rows of the reduced table vanish at the vector that Solve makes, if no row is left over. -/
theorem RedM.solves (h : RedM p A n w c T piv) (hw : w = c + 1) (hz : ∀ i, piv.length ≤ i → i < n → cellAt T i c = 0) : ∀ i, i < n → Cg p (dotZ (A.getD i []) (ext c fun j => (solveOut T c piv).getD j 0)) 0 := by
  refine h.sol _ fun i hi => Cg.of_eq ?_
  rw [dot_ext _ c (by rw [h.wide.row i hi]; exact hw)]
  show sumZ c (fun j => cellAt T i j * (solveOut T c piv).getD j 0) - cellAt T i c = 0
  by_cases hip : i < piv.length
  · have hin := h.inc i hip
    rw [sumZ_single (i := (piv.getD i 0).toNat) c (by omega) (fun j hj hne => ?_), h.one i hip, h.out_piv hip]
    · omega
    · by_cases hpv : ∃ t, t < piv.length ∧ (piv.getD t 0).toNat = j
      · obtain ⟨t, ht, e⟩ := hpv
        have hti : i ≠ t := fun e2 => hne (by rw [e2]; exact e.symm)
        rw [← e, h.zero t ht i hi hti, Int.zero_mul]
      · rw [h.out_free (fun t ht e => hpv ⟨t, ht, e⟩), Int.mul_zero]
  · rw [hz i (by omega) hi, sumZ_zero c (fun j hj => by rw [h.low i (by omega) hi j hj, Int.zero_mul])]
    rfl
/-- A system with a solution leaves no row over. -/
theorem RedM.complete (h : RedM p A n w c T piv) (hp : okp p = true) (hw : w = c + 1) (hA : A.length = n) (x : Nat → Int) (hx : ∀ i, i < n → Cg p (dotZ (A.getD i []) (ext c x)) 0) : ∀ i, piv.length ≤ i → i < n → cellAt T i c = 0 := by
  intro i h1 h2
  have h3 := (h.comb i h2).sat (fun j hj => hx j (by omega))
  rw [dot_ext _ c (by rw [h.wide.row i h2]; exact hw)] at h3
  have h4 : sumZ c (fun j => cellAt T i j * x j) = 0 := sumZ_zero c fun j hj => by rw [h.low i h1 h2 j hj, Int.zero_mul]
  have h5 : Cg p (sumZ c (fun j => cellAt T i j * x j) - cellAt T i c) 0 := h3
  rw [h4] at h5
  obtain ⟨t, ht⟩ := h5
  have h6 := inF_iff.1 (h.wide.at hp i c)
  have h7 : Cg p (cellAt T i c) 0 := ⟨-t, by rw [Int.mul_neg]; omega⟩
  exact h7.eq (h.wide.at hp i c) (inF_zero' hp)
where inF_zero' {p : Int} (hp : okp p = true) : inF p 0 = true := inF_iff.2 ⟨by omega, by have := okp_lo hp; omega⟩
end
end Go.Proofs.Ytkjknpibcbpdfaa

namespace Go.Proofs.Ytkjknpibcbpdfaa
open Go.RowKit Go.Proofs.YtkjknpibcbpdfaaW.PrintWords
set_option linter.unusedVariables false
set_option linter.unusedSimpArgs false

theorem dot_ind (row : List Int) (c : Nat) (hc : c < row.length) : dotZ row (fun q => if q = c then 1 else 0) = row.getD c 0 := by
  rw [dotZ_sum, sumZ_single (i := c) _ hc (fun j _ hj => by show _ * (if j = c then (1 : Int) else 0) = 0; rw [if_neg hj, Int.mul_zero])]
  show _ * (if c = c then (1 : Int) else 0) = _
  rw [if_pos rfl, Int.mul_one]
structure Sys (p : Int) (m : List (List Int)) (b : List Int) : Prop where
  ok : okSys p m b = true
  rect : rectB m = true
  len : m.length = b.length
section
variable {p : Int} {m : List (List Int)} {b : List Int}
theorem Sys.hp (h : Sys p m b) : okp p = true := by
  have := h.ok
  unfold okSys at this
  simp only [Bool.and_eq_true] at this
  exact this.1.1.1
theorem Sys.fb (h : Sys p m b) : allF p b = true := by
  have := h.ok
  unfold okSys at this
  simp only [Bool.and_eq_true] at this
  exact this.2
theorem Sys.wide (h : Sys p m b) : Wide p m.length ((m.headD []).length + 1) (wideS m b) := by
  obtain ⟨hg, hrow⟩ := wideS_good h.ok h.rect h.len
  refine ⟨wideS_length h.len, hrow, fun j => ?_⟩
  unfold goodM at hg
  simp only [Bool.and_eq_true] at hg
  by_cases hj : j < (wideS m b).length
  · rw [getD_row hj]
    exact List.all_eq_true.1 hg.1.1.2 _ (List.getElem_mem _)
  · rw [List.getD_eq_getElem?_getD, List.getElem?_eq_none (by omega)]
    rfl
theorem Sys.red (h : Sys p m b) : RedM p (wideS m b) m.length ((m.headD []).length + 1) (m.headD []).length (redAll p (wideS m b) (m.headD []).length).1 (redAll p (wideS m b) (m.headD []).length).2.1 := redM_all h.hp h.wide _ (by omega)
theorem Sys.row (h : Sys p m b) {i : Nat} (hi : i < m.length) : (wideS m b).getD i [] = m.getD i [] ++ [b.getD i 0] := by
  have := h.len
  have hl := wideS_length h.len
  rw [getD_row (by omega), wideS_at hi (by omega)]
theorem Sys.dot (h : Sys p m b) {i : Nat} (hi : i < m.length) (x : Nat → Int) : dotZ ((wideS m b).getD i []) (ext (m.headD []).length x) = sumZ (m.headD []).length (fun j => cellAt m i j * x j) - b.getD i 0 := by
  have hr := rect_row h.rect hi
  rw [h.row hi, dot_ext _ _ (by rw [List.length_append, hr]; rfl)]
  congr 1
  · refine sumZ_congr _ fun j hj => ?_
    unfold cellAt
    rw [List.getD_eq_getElem?_getD, List.getElem?_append_left (by omega), ← List.getD_eq_getElem?_getD]
  · rw [List.getD_eq_getElem?_getD, List.getElem?_append_right (by omega), hr, Nat.sub_self]
    rfl
theorem Sys.code (h : Sys p m b) : solveS p m b = if (((redAll p (wideS m b) (m.headD []).length).1.drop (redAll p (wideS m b) (m.headD []).length).2.1.length).all fun r => decide (r.getD (m.headD []).length 0 = 0)) = true then (solveOut (redAll p (wideS m b) (m.headD []).length).1 (m.headD []).length (redAll p (wideS m b) (m.headD []).length).2.1, 0) else ([], 6) := by
  unfold solveS
  rw [h.rect, decide_eq_true h.len]
  rfl
theorem drop_all {T : List (List Int)} {r n : Nat} : ((T.drop r).all fun x => decide (x.getD n 0 = 0)) = true ↔ ∀ i, r ≤ i → i < T.length → cellAt T i n = 0 := by
  rw [List.all_eq_true]
  constructor
  · intro h i h1 h2
    unfold cellAt
    rw [getD_row h2]
    refine of_decide_eq_true (h _ ?_)
    rw [List.mem_iff_getElem]
    exact ⟨i - r, by rw [List.length_drop]; omega, by rw [List.getElem_drop]; congr 1; omega⟩
  · intro h x hx
    obtain ⟨i, hi, rfl⟩ := List.mem_iff_getElem.1 hx
    rw [List.length_drop] at hi
    have := h (r + i) (by omega) (by omega)
    unfold cellAt at this
    rw [getD_row (by omega)] at this
    rw [List.getElem_drop]
    exact decide_eq_true this
theorem solve_parts (h : (solveS p m b).2 ≠ 1) (hok : okSys p m b = true) : Sys p m b := by
  unfold solveS at h
  by_cases hb : (rectB m && decide (m.length = b.length)) = true
  · rw [Bool.and_eq_true, decide_eq_true_eq] at hb
    exact ⟨hok, hb.1, hb.2⟩
  · rw [if_neg hb] at h
    exact absurd rfl h
theorem Sys.zero_or (h : Sys p m b) : (solveS p m b).2 = 0 ∨ (solveS p m b).2 = 6 := by
  rw [h.code]
  split
  · exact .inl rfl
  · exact .inr rfl
theorem solveOut_allF {p : Int} (hp : okp p = true) {T : List (List Int)} (hT : ∀ i j, inF p (cellAt T i j) = true) (n : Nat) (piv : List Int) : allF p (solveOut T n piv) = true := by
  unfold solveOut
  have key : ∀ (L : List (Int × Nat)) (o : List Int), allF p o = true → allF p (L.foldl (fun o q => o.set q.1.toNat (cellAt T q.2 n)) o) = true := by
    intro L
    induction L with
    | nil => intro o ho; exact ho
    | cons q L ih =>
      intro o ho
      rw [List.foldl_cons]
      refine ih _ (List.all_eq_true.2 fun x hx => ?_)
      rcases List.mem_or_eq_of_mem_set hx with h | h
      · exact List.all_eq_true.1 ho x h
      · rw [h]; exact hT _ _
  refine key _ _ (List.all_eq_true.2 fun x hx => ?_)
  rw [(List.mem_replicate.1 hx).2]
  exact inF_iff.2 ⟨by omega, by have := okp_lo hp; omega⟩
theorem Sys.sound (h : Sys p m b) (e : (solveS p m b).2 = 0) : (solveS p m b).1.length = (m.headD []).length ∧ allF p (solveS p m b).1 = true ∧ ∀ i, i < m.length → Cg p (sumZ (m.headD []).length (fun j => cellAt m i j * (solveS p m b).1.getD j 0)) (b.getD i 0) := by
  rw [h.code] at e ⊢
  split at e
  · rename_i hz
    rw [if_pos hz]
    have hr := h.red
    have hl := hr.wide.len
    rw [drop_all] at hz
    refine ⟨?_, solveOut_allF h.hp (fun i j => hr.wide.at h.hp i j) _ _, fun i hi => ?_⟩
    · show (solveOut _ _ _).length = _
      unfold solveOut
      have key : ∀ (T : List (List Int)) (n : Nat) (l : List (Int × Nat)) (o : List Int), (l.foldl (fun o q => o.set q.1.toNat (cellAt T q.2 n)) o).length = o.length := by
        intro T n l
        induction l with
        | nil => intro o; rfl
        | cons q l ih => intro o; rw [List.foldl_cons, ih, List.length_set]
      rw [key, List.length_replicate]
    · have h1 := hr.solves rfl (fun i h1 h2 => hz i h1 (by omega)) i hi
      rw [h.dot hi] at h1
      have h2 := h1.add (Cg.refl p (b.getD i 0))
      have e1 : ∀ s : Int, s - b.getD i 0 + b.getD i 0 = s := fun s => by omega
      rw [e1, Int.zero_add] at h2
      exact h2
  · cases e
theorem Sys.complete (h : Sys p m b) (x : Nat → Int) (hx : ∀ i, i < m.length → Cg p (sumZ (m.headD []).length (fun j => cellAt m i j * x j)) (b.getD i 0)) : (solveS p m b).2 = 0 := by
  have hr := h.red
  have hl := hr.wide.len
  rw [h.code, if_pos]
  rw [drop_all]
  intro i h1 h2
  refine hr.complete h.hp rfl (wideS_length h.len) x (fun i hi => ?_) i h1 (by omega)
  rw [h.dot hi]
  have := (hx i hi).sub (Cg.refl p (b.getD i 0))
  rw [Int.sub_self] at this
  exact this
/-- ErrNotFound has a witness. -/
theorem Sys.witness (h : Sys p m b) (e : (solveS p m b).2 = 6) : ∃ y : Nat → Int, (∀ c, c < (m.headD []).length → Cg p (sumZ m.length fun j => y j * cellAt m j c) 0) ∧ Cg p (sumZ m.length fun j => y j * b.getD j 0) 1 := by
  have hr := h.red
  have hl := hr.wide.len
  have hW := h.wide
  rw [h.code] at e
  split at e
  · cases e
  · rename_i hz
    rw [drop_all] at hz
    have hz2 : ∃ i, (redAll p (wideS m b) (m.headD []).length).2.1.length ≤ i ∧ i < m.length ∧ cellAt (redAll p (wideS m b) (m.headD []).length).1 i (m.headD []).length ≠ 0 := by
      refine Classical.byContradiction fun hn => hz fun i h1 h2 => Classical.byContradiction fun h3 => hn ⟨i, h1, by omega, h3⟩
    obtain ⟨i, h1, h2, h3⟩ := hz2
    obtain ⟨y, hy⟩ := hr.comb i h2
    rw [wideS_length h.len] at hy
    obtain ⟨x, hx⟩ : ∃ x, x = cellAt (redAll p (wideS m b) (m.headD []).length).1 i (m.headD []).length := ⟨_, rfl⟩
    rw [← hx] at h3
    have hxF : inF p x = true := by rw [hx]; exact hr.wide.at h.hp _ _
    have hinv := inv_mul h.hp hxF h3
    have key : ∀ c, c < (m.headD []).length + 1 → Cg p (cellAt (redAll p (wideS m b) (m.headD []).length).1 i c) (sumZ m.length fun j => y j * cellAt (wideS m b) j c) := fun c hc => by
      have := hy (fun q => if q = c then 1 else 0)
      rw [dot_ind _ _ (by rw [hr.wide.row i h2]; exact hc)] at this
      refine Cg.trans this (Cg.of_eq (sumZ_congr _ fun j hj => ?_))
      rw [dot_ind _ _ (by rw [hW.row j hj]; exact hc)]
      rfl
    have scale : ∀ c, c < (m.headD []).length + 1 → Cg p (sumZ m.length fun j => (invF p x).1 * y j * cellAt (wideS m b) j c) ((invF p x).1 * cellAt (redAll p (wideS m b) (m.headD []).length).1 i c) := fun c hc => by
      refine Cg.trans (Cg.of_eq ?_) ((key c hc).symm.mul (invF p x).1)
      rw [← sumZ_mul]
      exact sumZ_congr _ fun j _ => Int.mul_assoc ..
    refine ⟨fun j => (invF p x).1 * y j, fun c hc => ?_, ?_⟩
    · have h4 := scale c (by omega)
      rw [hr.low i h1 h2 c hc, Int.mul_zero] at h4
      refine Cg.trans (Cg.of_eq (sumZ_congr _ fun j hj => ?_)) h4
      have hrj := rect_row h.rect hj
      show _ * cellAt m j c = _
      congr 1
      unfold cellAt
      rw [h.row hj, List.getD_eq_getElem?_getD (l := _ ++ _), List.getElem?_append_left (by omega), ← List.getD_eq_getElem?_getD]
    · have h4 := scale (m.headD []).length (by omega)
      rw [← hx] at h4
      have h5 : Cg p ((invF p x).1 * x) 1 := by
        have := Cg.mod p (x * (invF p x).1)
        rw [hinv] at this
        rw [Int.mul_comm]
        exact this.symm
      refine Cg.trans (Cg.of_eq (sumZ_congr _ fun j hj => ?_)) (h4.trans h5)
      have hrj := rect_row h.rect hj
      show _ * b.getD j 0 = _
      congr 1
      unfold cellAt
      rw [h.row hj, List.getD_eq_getElem?_getD (l := _ ++ _), List.getElem?_append_right (by omega), hrj, Nat.sub_self]
      rfl
end
end Go.Proofs.Ytkjknpibcbpdfaa
