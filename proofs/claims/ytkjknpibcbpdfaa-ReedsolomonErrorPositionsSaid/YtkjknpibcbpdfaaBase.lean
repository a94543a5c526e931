/- The contracts of the field functions of the program and of the reference, by the specifications of the text Spec: for the supported primes and reduced elements. -/
import Derived.Test.YtkjknpibcbpdfaaB
import Derived.Test.YtkjknpibcbpdfaaSpec
namespace Go.Proofs.Ytkjknpibcbpdfaa
open Go.RowKit Go.Proofs.YtkjknpibcbpdfaaW.PrintWords
set_option linter.unusedVariables false
set_option linter.unusedSimpArgs false

theorem pow_emod (a p : Int) (n : Nat) : (a % p) ^ n % p = a ^ n % p := by
  induction n with
  | zero => simp
  | succ n ih => rw [Int.pow_succ, Int.pow_succ, Int.mul_emod, ih, Int.emod_emod_of_dvd _ (Int.dvd_refl p), ← Int.mul_emod]
theorem pow_half (x : Int) (n : Nat) : (x * x) ^ n = x ^ (2 * n) := by rw [Int.pow_mul, Int.pow_succ, Int.pow_succ, Int.pow_zero, Int.one_mul]
theorem step_odd (p x y : Int) (n : Nat) : (y * x % p) * (x * x % p) ^ n % p = y * x ^ (2 * n + 1) % p := by
  rw [Int.mul_emod, Int.emod_emod_of_dvd _ (Int.dvd_refl p), pow_emod, ← Int.mul_emod, pow_half, Int.pow_succ, Int.mul_assoc, Int.mul_comm x, ← Int.mul_assoc]
theorem step_even (p x y : Int) (n : Nat) : y * (x * x % p) ^ n % p = y * x ^ (2 * n) % p := by
  rw [Int.mul_emod, pow_emod, ← Int.mul_emod, pow_half]
theorem and_one (x : Int) (h0 : 0 ≤ x) (h1 : x < 18446744073709551616) : Go.bits .and .u64 x 1 = x % 2 := Fold.and_plain 1 1 x h0 h1 (by decide) (by decide)
theorem w64 (x : Int) (h0 : 0 ≤ x) (h1 : x < 18446744073709551616) : IntKind.u64.wrap x = x := by rw [IntKind.wrap_u64]; omega

/-! ### the program's field -/
theorem b_mul (p a b : Int) (hp : okp p = true) (ha : inF p a = true) (hb : inF p b = true) : B.field_Mul.f p a b = some (a * b % p) := by
  have h1 := inF_isW hp ha
  have h2 := inF_isW hp hb
  have l1 := isW_iff.1 h1
  have l2 := isW_iff.1 h2
  have hab : 0 ≤ a * b := Int.mul_nonneg l1.1 l2.1
  have hle : a * b ≤ 18446744073709551615 * 18446744073709551615 := Int.mul_le_mul (by omega) (by omega) l2.1 (by omega)
  have hi : isW (a * b / 18446744073709551616) = true := isW_iff.2 ⟨by omega, by omega⟩
  have lo : isW (a * b % 18446744073709551616) = true := isW_iff.2 ⟨by omega, by omega⟩
  unfold B.field_Mul.f bits_Mul64.f
  simp only [h1, h2, Bool.and_true, if_true, Option.bind_some]
  unfold field_fold.f
  simp only [hp, hi, lo, Bool.and_true, if_true, Option.bind_some]
  congr 2
  omega
theorem b_add (p a b : Int) (hp : okp p = true) (ha : inF p a = true) (hb : inF p b = true) : B.field_Add.f p a b = some ((a + b) % p) := by
  have := inF_iff.1 ha
  have := inF_iff.1 hb
  have := okp_hi hp
  have e := w64 (a + b) (by omega) (by omega)
  have h : isW (a + b) = true := isW_iff.2 ⟨by omega, by omega⟩
  unfold B.field_Add.f field_fold.f
  rw [e]
  simp only [hp, h, show isW 0 = true from rfl, Bool.and_true, if_true, Option.bind_some]
  congr 2
  omega
theorem b_neg (p a : Int) (hp : okp p = true) (ha : inF p a = true) : B.field_Neg.f p a = some ((-a) % p) := by
  have := inF_iff.1 ha
  have := okp_hi hp
  unfold B.field_Neg.f
  by_cases h : a = 0
  · rw [if_pos h, h]; simp
  · rw [if_neg h, w64 _ (by omega) (by omega)]
    congr 1
    rw [← Int.add_emod_right, Int.emod_eq_of_lt (by omega) (by omega)]
    omega
theorem b_sub (p a b : Int) (hp : okp p = true) (ha : inF p a = true) (hb : inF p b = true) : B.field_Sub.f p a b = some ((a - b) % p) := by
  unfold B.field_Sub.f
  rw [b_neg p b hp hb]
  simp only [Option.bind_some]
  rw [b_add p a _ hp ha (inF_mod hp _)]
  simp only [Option.bind_some]
  congr 1
  rw [Int.add_emod, Int.emod_emod_of_dvd _ (Int.dvd_refl p), ← Int.add_emod, Int.sub_eq_add_neg]
theorem b_pow_l (p : Int) (hp : okp p = true) (d : Nat) : ∀ (k : Nat) (x n y : Int), inF p x = true → inF p y = true → 0 ≤ n → n < 2 ^ d → n < 18446744073709551616 → d < k →
    B.field_Pow.l0 k p x n y = some (y * x ^ n.toNat % p) := by
  induction d with
  | zero =>
    intro k x n y hx hy h0 h1 hw hk
    obtain ⟨k, rfl⟩ : ∃ m, k = m + 1 := ⟨k - 1, by omega⟩
    have hn : n = 0 := by simp at h1; omega
    have hy' := inF_iff.1 hy
    simp only [B.field_Pow.l0]
    rw [if_neg (by omega), hn]
    simp only [Int.toNat_zero, Int.pow_zero, Int.mul_one]
    rw [Int.emod_eq_of_lt hy'.1 hy'.2]
  | succ d ih =>
    intro k x n y hx hy h0 h1 hw hk
    obtain ⟨k, rfl⟩ : ∃ m, k = m + 1 := ⟨k - 1, by omega⟩
    have hy' := inF_iff.1 hy
    simp only [B.field_Pow.l0]
    by_cases hn : n = 0
    · rw [if_neg (by omega), hn]
      simp only [Int.toNat_zero, Int.pow_zero, Int.mul_one]
      rw [Int.emod_eq_of_lt hy'.1 hy'.2]
    · have h2 : n / 2 < 2 ^ d := by rw [Int.pow_succ] at h1; omega
      rw [if_pos (by omega), and_one n h0 hw, b_mul p x x hp hx hx]
      by_cases ho : n % 2 = 1
      · rw [if_pos ho, b_mul p y x hp hy hx]
        simp only [Option.bind_some]
        rw [ih k _ _ _ (inF_mod hp _) (inF_mod hp _) (by omega) h2 (by omega) (by omega), step_odd, show 2 * (n / 2).toNat + 1 = n.toNat by omega]
      · rw [if_neg ho]
        simp only [Option.bind_some]
        rw [ih k _ _ _ (inF_mod hp _) hy (by omega) h2 (by omega) (by omega), step_even, show 2 * (n / 2).toNat = n.toNat by omega]
theorem inF_one {p : Int} (hp : okp p = true) : inF p 1 = true := inF_iff.2 ⟨by omega, by have := okp_lo hp; omega⟩
theorem b_pow (p a n : Int) (hp : okp p = true) (ha : inF p a = true) (hn : isW n = true) : B.field_Pow.f 65 p a n = some (a ^ n.toNat % p) := by
  have h := isW_iff.1 hn
  unfold B.field_Pow.f
  rw [b_pow_l p hp 64 65 a n 1 ha (inF_one hp) h.1 h.2 h.2 (by omega), Int.one_mul]
theorem p2_isW {p : Int} (hp : okp p = true) : isW (p - 2) = true := isW_iff.2 ⟨by have := okp_lo hp; omega, by have := okp_hi hp; omega⟩
theorem b_inverse (p a : Int) (hp : okp p = true) (ha : inF p a = true) : B.field_Inverse.f 65 p a = some (invF p a) := by
  have hw := isW_iff.1 (p2_isW hp)
  unfold B.field_Inverse.f invF
  by_cases h : a = 0
  · rw [if_pos h, if_pos h]
  · rw [if_neg h, if_neg h, w64 _ hw.1 hw.2, b_pow p a _ hp ha (p2_isW hp)]
    rfl

theorem field_Mul.calls (a0 a1 a2 : Int) (r : Int) (w : World) (h : field_Mul.f a0 a1 a2 = some r) :
    Calls Try.prog 60 #[.int .u64 a0, .int .u64 a1, .int .u64 a2] w fun e w' => e = .returned (.int .u64 r) ∧ Drawn0 w w' := by
  unfold field_Mul.f at h
  split at h
  · rename_i hg
    simp only [Bool.and_eq_true] at hg
    rw [← b_mul a0 a1 a2 hg.1.1 hg.1.2 hg.2] at h
    exact B.field_Mul.calls a0 a1 a2 r w h
  · cases h
theorem field_Add.calls (a0 a1 a2 : Int) (r : Int) (w : World) (h : field_Add.f a0 a1 a2 = some r) :
    Calls Try.prog 59 #[.int .u64 a0, .int .u64 a1, .int .u64 a2] w fun e w' => e = .returned (.int .u64 r) ∧ Drawn0 w w' := by
  unfold field_Add.f at h
  split at h
  · rename_i hg
    simp only [Bool.and_eq_true] at hg
    rw [← b_add a0 a1 a2 hg.1.1 hg.1.2 hg.2] at h
    exact B.field_Add.calls a0 a1 a2 r w h
  · cases h
theorem field_Sub.calls (a0 a1 a2 : Int) (r : Int) (w : World) (h : field_Sub.f a0 a1 a2 = some r) :
    Calls Try.prog 79 #[.int .u64 a0, .int .u64 a1, .int .u64 a2] w fun e w' => e = .returned (.int .u64 r) ∧ Drawn0 w w' := by
  unfold field_Sub.f at h
  split at h
  · rename_i hg
    simp only [Bool.and_eq_true] at hg
    rw [← b_sub a0 a1 a2 hg.1.1 hg.1.2 hg.2] at h
    exact B.field_Sub.calls a0 a1 a2 r w h
  · cases h
theorem field_Neg.calls (a0 a1 : Int) (r : Int) (w : World) (h : field_Neg.f a0 a1 = some r) :
    Calls Try.prog 77 #[.int .u64 a0, .int .u64 a1] w fun e w' => e = .returned (.int .u64 r) ∧ Drawn0 w w' := by
  unfold field_Neg.f at h
  split at h
  · rename_i hg
    simp only [Bool.and_eq_true] at hg
    rw [← b_neg a0 a1 hg.1 hg.2] at h
    exact B.field_Neg.calls a0 a1 r w h
  · cases h
theorem field_Pow.calls (a0 a1 a2 : Int) (r : Int) (w : World) (h : field_Pow.f a0 a1 a2 = some r) :
    Calls Try.prog 88 #[.int .u64 a0, .int .u64 a1, .int .u64 a2] w fun e w' => e = .returned (.int .u64 r) ∧ Drawn0 w w' := by
  unfold field_Pow.f at h
  split at h
  · rename_i hg
    simp only [Bool.and_eq_true] at hg
    rw [← b_pow a0 a1 a2 hg.1.1 hg.1.2 hg.2] at h
    exact B.field_Pow.calls 65 a0 a1 a2 r w h
  · cases h
theorem field_Inverse.calls (a0 a1 : Int) (r1 r2 : Int) (w : World) (h : field_Inverse.f a0 a1 = some (r1, r2)) :
    Calls Try.prog 78 #[.int .u64 a0, .int .u64 a1] w fun e w' => e = .returned (.tuple #[.int .u64 r1, .int .i64 r2]) ∧ Drawn0 w w' := by
  unfold field_Inverse.f at h
  split at h
  · rename_i hg
    simp only [Bool.and_eq_true] at hg
    rw [← b_inverse a0 a1 hg.1 hg.2] at h
    exact B.field_Inverse.calls 65 a0 a1 r1 r2 w h
  · cases h

/-! ### the reference's field -/
theorem tmod_nn (a p : Int) (h : 0 ≤ a) : Int.tmod a p = a % p := by rw [Int.tmod_eq_emod_of_nonneg h]
theorem tdiv_two (n : Int) (h0 : 0 ≤ n) : Int.tdiv n 2 = n / 2 := by rw [Int.tdiv_eq_ediv_of_nonneg h0]
theorem r_add (p a b : Int) (hp : okp p = true) (ha : inF p a = true) (hb : inF p b = true) : B.privityref01_Add.f p a b = some ((a + b) % p) := by
  have := inF_iff.1 ha
  have := inF_iff.1 hb
  have := okp_hi hp
  have := okp_lo hp
  unfold B.privityref01_Add.f
  rw [if_neg (by omega), w64 _ (by omega) (by omega), tmod_nn _ _ (by omega)]
theorem r_sub (p a b : Int) (hp : okp p = true) (ha : inF p a = true) (hb : inF p b = true) : B.privityref01_Sub.f p a b = some ((a - b) % p) := by
  have := inF_iff.1 ha
  have := inF_iff.1 hb
  have := okp_hi hp
  have := okp_lo hp
  unfold B.privityref01_Sub.f
  rw [if_neg (by omega), w64 (a + p) (by omega) (by omega), w64 _ (by omega) (by omega), tmod_nn _ _ (by omega), show a + p - b = a - b + p by omega, Int.add_emod_right]
theorem r_neg (p a : Int) (hp : okp p = true) (ha : inF p a = true) : B.privityref01_Neg.f p a = some ((-a) % p) := by
  have := inF_iff.1 ha
  have := okp_hi hp
  have := okp_lo hp
  unfold B.privityref01_Neg.f
  rw [if_neg (by omega), w64 _ (by omega) (by omega), tmod_nn _ _ (by omega), show p - a = -a + p by omega, Int.add_emod_right]
theorem big_mul (x y : Int) (x0 : 0 ≤ x) (x1 : x < 2305843009213693951) (y0 : 0 ≤ y) (y1 : y < 2305843009213693951) :
    Int.tmod (IntKind.u64.wrap ((IntKind.u64.wrap ((IntKind.u64.wrap ((IntKind.u64.wrap ((IntKind.u64.wrap (2 * (x / 2147483648))) * (y / 2147483648))) + ((IntKind.u64.wrap ((IntKind.u64.wrap ((x / 2147483648) * (Int.tmod y 2147483648))) + (IntKind.u64.wrap ((Int.tmod x 2147483648) * (y / 2147483648))))) / 1073741824))) + (IntKind.u64.wrap ((Int.tmod (IntKind.u64.wrap ((IntKind.u64.wrap ((x / 2147483648) * (Int.tmod y 2147483648))) + (IntKind.u64.wrap ((Int.tmod x 2147483648) * (y / 2147483648))))) 1073741824) * 2147483648)))) + (IntKind.u64.wrap ((Int.tmod x 2147483648) * (Int.tmod y 2147483648))))) 2305843009213693951 = x * y % 2305843009213693951 := by
  rw [tmod_nn x _ x0, tmod_nn y _ y0]
  obtain ⟨a, ha⟩ : ∃ a, a = x / 2147483648 := ⟨_, rfl⟩
  obtain ⟨b, hb⟩ : ∃ b, b = x % 2147483648 := ⟨_, rfl⟩
  obtain ⟨c, hc⟩ : ∃ c, c = y / 2147483648 := ⟨_, rfl⟩
  obtain ⟨d, hd⟩ : ∃ d, d = y % 2147483648 := ⟨_, rfl⟩
  have ex : x = a * 2147483648 + b := by omega
  have ey : y = c * 2147483648 + d := by omega
  rw [← ha, ← hb, ← hc, ← hd]
  have a0 : 0 ≤ a := by omega
  have a1 : a ≤ 1073741823 := by omega
  have b0 : 0 ≤ b := by omega
  have b1 : b ≤ 2147483647 := by omega
  have c0 : 0 ≤ c := by omega
  have c1 : c ≤ 1073741823 := by omega
  have d0 : 0 ≤ d := by omega
  have d1 : d ≤ 2147483647 := by omega
  have exy : x * y = (a * c) * 4611686018427387904 + (a * d + b * c) * 2147483648 + b * d := by
    rw [ex, ey]
    grind
  have e2 : 2 * a * c = 2 * (a * c) := Int.mul_assoc ..
  have p0 : 0 ≤ a * c := Int.mul_nonneg a0 c0
  have p1 : a * c ≤ 1073741823 * 1073741823 := Int.mul_le_mul a1 c1 c0 (by omega)
  have q0 : 0 ≤ a * d := Int.mul_nonneg a0 d0
  have q1 : a * d ≤ 1073741823 * 2147483647 := Int.mul_le_mul a1 d1 d0 (by omega)
  have r0 : 0 ≤ b * c := Int.mul_nonneg b0 c0
  have r1 : b * c ≤ 2147483647 * 1073741823 := Int.mul_le_mul b1 c1 c0 (by omega)
  have s0 : 0 ≤ b * d := Int.mul_nonneg b0 d0
  have s1 : b * d ≤ 2147483647 * 2147483647 := Int.mul_le_mul b1 d1 d0 (by omega)
  rw [exy]
  clear exy ex ey ha hb hc hd
  rw [w64 (2 * a) (by omega) (by omega), e2]
  generalize a * c = P at *
  generalize a * d = Q at *
  generalize b * c = R at *
  generalize b * d = S at *
  rw [w64 (2 * P) (by omega) (by omega), w64 Q (by omega) (by omega), w64 R (by omega) (by omega), w64 S (by omega) (by omega), w64 (Q + R) (by omega) (by omega), tmod_nn (Q + R) _ (by omega)]
  rw [w64 (2 * P + _) (by omega) (by omega), w64 (_ * 2147483648) (by omega) (by omega), w64 (_ + _ * 2147483648) (by omega) (by omega), w64 _ (by omega) (by omega), tmod_nn _ _ (by omega)]
  omega
theorem r_mul (p a b : Int) (hp : okp p = true) (ha : inF p a = true) (hb : inF p b = true) : B.privityref01_Mul.f 2 p a b = some (a * b % p) := by
  have h1 := inF_iff.1 ha
  have h2 := inF_iff.1 hb
  have h3 := okp_lo hp
  have h4 := okp_hi hp
  by_cases hs : p < 2147483648
  · have hab : 0 ≤ a * b := Int.mul_nonneg h1.1 h2.1
    have hle : a * b ≤ 2147483647 * 2147483647 := Int.mul_le_mul (by omega) (by omega) h2.1 (by omega)
    unfold B.privityref01_Mul.f
    rw [if_pos (by omega), if_pos hs, if_pos (by omega), decide_eq_true (by omega)]
    simp only [B.privityref01_Mul.j0, if_true]
    rw [if_neg (by omega), w64 _ (by omega) (by omega), tmod_nn _ _ hab]
  · obtain rfl : p = 2305843009213693951 := by
      rcases okp_cases hp with h | h | h | h | h | h | h <;> omega
    have e : B.privityref01_Mul.f 2 2305843009213693951 a b = B.privityref01_Mul.j0 2 2305843009213693951 a b false := by
      unfold B.privityref01_Mul.f
      rw [if_pos (by omega), if_neg (by omega)]
    rw [e]
    simp only [B.privityref01_Mul.j0]
    rw [if_neg (by decide)]
    simp only [if_true]
    rw [if_pos h1.2, decide_eq_true h2.2]
    simp only [B.privityref01_Mul.j1, if_true]
    rw [if_neg (by decide), big_mul a b h1.1 h1.2 h2.1 h2.2]
theorem r_mul_k (p a b : Int) (hp : okp p = true) (ha : inF p a = true) (hb : inF p b = true) (k : Nat) (hk : 2 ≤ k) : B.privityref01_Mul.f k p a b = some (a * b % p) :=
  at_rounds (k := 2) (B.privityref01_Mul.mono p a b) hk (r_mul p a b hp ha hb)
theorem r_pow_l (p : Int) (hp : okp p = true) (d : Nat) : ∀ (k : Nat) (x n y : Int), inF p x = true → inF p y = true → 0 ≤ n → n < 2 ^ d → n < 18446744073709551616 → d + 2 < k →
    B.privityref01_Pow.l0 k p x n y = some (y * x ^ n.toNat % p) := by
  induction d with
  | zero =>
    intro k x n y hx hy h0 h1 hw hk
    obtain ⟨k, rfl⟩ : ∃ m, k = m + 1 := ⟨k - 1, by omega⟩
    have hn : n = 0 := by simp at h1; omega
    have hy' := inF_iff.1 hy
    simp only [B.privityref01_Pow.l0]
    rw [if_neg (by omega), hn]
    simp only [Int.toNat_zero, Int.pow_zero, Int.mul_one]
    rw [Int.emod_eq_of_lt hy'.1 hy'.2]
  | succ d ih =>
    intro k x n y hx hy h0 h1 hw hk
    obtain ⟨k, rfl⟩ : ∃ m, k = m + 1 := ⟨k - 1, by omega⟩
    have hy' := inF_iff.1 hy
    simp only [B.privityref01_Pow.l0]
    by_cases hn : n = 0
    · rw [if_neg (by omega), hn]
      simp only [Int.toNat_zero, Int.pow_zero, Int.mul_one]
      rw [Int.emod_eq_of_lt hy'.1 hy'.2]
    · have h2 : n / 2 < 2 ^ d := by rw [Int.pow_succ] at h1; omega
      rw [if_pos (by omega), tmod_nn n _ h0, tdiv_two n h0, w64 (n / 2) (by omega) (by omega), r_mul_k p x x hp hx hx k (by omega)]
      by_cases ho : n % 2 = 1
      · rw [if_pos ho, r_mul_k p y x hp hy hx k (by omega)]
        simp only [Option.bind_some]
        rw [ih k _ _ _ (inF_mod hp _) (inF_mod hp _) (by omega) h2 (by omega) (by omega), step_odd, show 2 * (n / 2).toNat + 1 = n.toNat by omega]
      · rw [if_neg ho]
        simp only [Option.bind_some]
        rw [ih k _ _ _ (inF_mod hp _) hy (by omega) h2 (by omega) (by omega), step_even, show 2 * (n / 2).toNat = n.toNat by omega]
theorem r_pow (p a n : Int) (hp : okp p = true) (ha : inF p a = true) (hn : isW n = true) : B.privityref01_Pow.f 67 p a n = some (a ^ n.toNat % p) := by
  have h := isW_iff.1 hn
  unfold B.privityref01_Pow.f
  rw [r_pow_l p hp 64 67 a n 1 ha (inF_one hp) h.1 h.2 h.2 (by omega), Int.one_mul]
theorem r_inverse (p a : Int) (hp : okp p = true) (ha : inF p a = true) : B.privityref01_Inverse.f 67 p a = some (invF p a) := by
  have hw := isW_iff.1 (p2_isW hp)
  unfold B.privityref01_Inverse.f invF
  by_cases h : a = 0
  · rw [if_pos h, if_pos h]
  · rw [if_neg h, if_neg h, w64 _ hw.1 hw.2, r_pow p a _ hp ha (p2_isW hp)]
    rfl

theorem privityref01_Add.calls (a0 a1 a2 : Int) (r : Int) (w : World) (h : privityref01_Add.f a0 a1 a2 = some r) :
    Calls Try.prog 45 #[.int .u64 a0, .int .u64 a1, .int .u64 a2] w fun e w' => e = .returned (.int .u64 r) ∧ Drawn0 w w' := by
  unfold privityref01_Add.f at h
  split at h
  · rename_i hg
    simp only [Bool.and_eq_true] at hg
    rw [← r_add a0 a1 a2 hg.1.1 hg.1.2 hg.2] at h
    exact B.privityref01_Add.calls a0 a1 a2 r w h
  · cases h
theorem privityref01_Sub.calls (a0 a1 a2 : Int) (r : Int) (w : World) (h : privityref01_Sub.f a0 a1 a2 = some r) :
    Calls Try.prog 80 #[.int .u64 a0, .int .u64 a1, .int .u64 a2] w fun e w' => e = .returned (.int .u64 r) ∧ Drawn0 w w' := by
  unfold privityref01_Sub.f at h
  split at h
  · rename_i hg
    simp only [Bool.and_eq_true] at hg
    rw [← r_sub a0 a1 a2 hg.1.1 hg.1.2 hg.2] at h
    exact B.privityref01_Sub.calls a0 a1 a2 r w h
  · cases h
theorem privityref01_Neg.calls (a0 a1 : Int) (r : Int) (w : World) (h : privityref01_Neg.f a0 a1 = some r) :
    Calls Try.prog 98 #[.int .u64 a0, .int .u64 a1] w fun e w' => e = .returned (.int .u64 r) ∧ Drawn0 w w' := by
  unfold privityref01_Neg.f at h
  split at h
  · rename_i hg
    simp only [Bool.and_eq_true] at hg
    rw [← r_neg a0 a1 hg.1 hg.2] at h
    exact B.privityref01_Neg.calls a0 a1 r w h
  · cases h
theorem privityref01_Mul.calls (a0 a1 a2 : Int) (r : Int) (w : World) (h : privityref01_Mul.f a0 a1 a2 = some r) :
    Calls Try.prog 62 #[.int .u64 a0, .int .u64 a1, .int .u64 a2] w fun e w' => e = .returned (.int .u64 r) ∧ Drawn0 w w' := by
  unfold privityref01_Mul.f at h
  split at h
  · rename_i hg
    simp only [Bool.and_eq_true] at hg
    rw [← r_mul a0 a1 a2 hg.1.1 hg.1.2 hg.2] at h
    exact B.privityref01_Mul.calls 2 a0 a1 a2 r w h
  · cases h
theorem privityref01_Pow.calls (a0 a1 a2 : Int) (r : Int) (w : World) (h : privityref01_Pow.f a0 a1 a2 = some r) :
    Calls Try.prog 89 #[.int .u64 a0, .int .u64 a1, .int .u64 a2] w fun e w' => e = .returned (.int .u64 r) ∧ Drawn0 w w' := by
  unfold privityref01_Pow.f at h
  split at h
  · rename_i hg
    simp only [Bool.and_eq_true] at hg
    rw [← r_pow a0 a1 a2 hg.1.1 hg.1.2 hg.2] at h
    exact B.privityref01_Pow.calls 67 a0 a1 a2 r w h
  · cases h
theorem privityref01_Inverse.calls (a0 a1 : Int) (r1 r2 : Int) (w : World) (h : privityref01_Inverse.f a0 a1 = some (r1, r2)) :
    Calls Try.prog 81 #[.int .u64 a0, .int .u64 a1] w fun e w' => e = .returned (.tuple #[.int .u64 r1, .int .i64 r2]) ∧ Drawn0 w w' := by
  unfold privityref01_Inverse.f at h
  split at h
  · rename_i hg
    simp only [Bool.and_eq_true] at hg
    rw [← r_inverse a0 a1 hg.1 hg.2] at h
    exact B.privityref01_Inverse.calls 67 a0 a1 r1 r2 w h
  · cases h
end Go.Proofs.Ytkjknpibcbpdfaa
