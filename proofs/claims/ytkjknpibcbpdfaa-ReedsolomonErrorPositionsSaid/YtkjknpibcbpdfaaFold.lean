/- What field.fold computes at each supported prime p = 2^q - 1: the number hi 2^64 + lo modulo p. -/
import Derived.Test.YtkjknpibcbpdfaaProg
import Derived.Test.YtkjknpibcbpdfaaWWords
import Derived.Test.YtkjknpibcbpdfaaWMore
import Derived.Test.YtkjknpibcbpdfaaSpec
import Derived.Laws.Externs
import Derived.Laws.Bits64b
import Derived.Lib.Mul64
import Derived.WalkKit
import Derived.WalkSpells
import Derived.KernelRfl
import Derived.Outline
import Derived.Lib.Hide
namespace Go.Proofs.Ytkjknpibcbpdfaa.Fold
open Go.RowKit Go.Proofs.YtkjknpibcbpdfaaW.PrintWords
set_option linter.unusedVariables false
set_option linter.unusedSimpArgs false

theorem add64 (x y : Int) (hx : 0 ≤ x) (hy : 0 ≤ y) (w : World) : (callFunc 91 #[.int .u64 x, .int .u64 y, .int .u64 0]).run Try.prog w =
    .ok (.value (.tuple #[.int .u64 ((x + y) % 18446744073709551616), .int .u64 ((x + y) / 18446744073709551616)])) w := by
  rw [run_callFunc_extern Try.func91 (by kernel_rfl) (by kernel_rfl) (by kernel_rfl) (e := add64Entry) (by kernel_rfl), run_add64 x y 0 hx hy (by omega) (by omega)]
  simp only [Result.andThen, Int.add_zero]

theorem ret_int {k : IntKind} {a b : Int} (h : a = b) : Ending.returned (.int k a) = .returned (.int k b) := by rw [h]
theorem or_plain (i : Nat) (a b : Int) (ha : 0 ≤ a) (hb : 0 ≤ b) (hlt : a < 2 ^ i) (hd : b % 2 ^ i = 0) (h : a + b < 18446744073709551616) : Go.bits .or .u64 a b = a + b := by
  obtain ⟨x, rfl⟩ := Int.eq_ofNat_of_zero_le ha
  obtain ⟨y, rfl⟩ := Int.eq_ofNat_of_zero_le hb
  rw [bits_or_u64_nat x y (by omega) (by omega)]
  have hx : x < 2 ^ i := by exact_mod_cast hlt
  have hy : y % 2 ^ i = 0 := by exact_mod_cast hd
  obtain ⟨c, hc⟩ : ∃ c, y = 2 ^ i * c := ⟨y / 2 ^ i, by have := Nat.div_add_mod y (2 ^ i); omega⟩
  have e := Nat.two_pow_add_eq_or_of_lt hx c
  rw [Nat.or_comm, hc, ← e]
  push_cast
  omega
theorem and_plain (q m : Nat) (a : Int) (ha : 0 ≤ a) (h : a < 18446744073709551616) (hm : m + 1 = 2 ^ q) (hq : m < 18446744073709551616) : Go.bits .and .u64 a (m : Int) = a % ((m + 1 : Nat) : Int) := by
  obtain ⟨x, rfl⟩ := Int.eq_ofNat_of_zero_le ha
  have e : m = 2 ^ q - 1 := by omega
  rw [bits_and_u64_nat x m (by omega) (by omega), hm, e, Nat.and_two_pow_sub_one_eq_mod]
  exact Int.natCast_emod _ _

/-! ### q = 5 -/
set_option maxRecDepth 100000 in
theorem width5 (w : World) : Calls Try.prog 90 #[.int .u64 31] w fun e w' => e = .returned (.int .u64 5) ∧ w = w' := by
  go_enter Try.func90, Try.ntmps90
  go_wp2
  go_ret
  exact ⟨by kernel_rfl, rfl⟩
theorem or5 (hi lo : Int) (h0 : 0 ≤ hi) (l0 : 0 ≤ lo) (l1 : lo ≤ 18446744073709551615) : Go.bits .or .u64 (lo / 32) (IntKind.u64.wrap (hi * 576460752303423488)) = lo / 32 + (hi % 32) * 576460752303423488 := by
  have e : IntKind.u64.wrap (hi * 576460752303423488) = (hi % 32) * 576460752303423488 := by rw [IntKind.wrap_u64]; omega
  rw [e, or_plain 59 _ _ (by omega) (by omega) (by omega) (by omega) (by omega)]
theorem and5 (lo : Int) (l0 : 0 ≤ lo) (l1 : lo ≤ 18446744073709551615) : Go.bits .and .u64 lo 31 = lo % 32 := by
  have h := and_plain 5 31 lo l0 (by omega) (by decide) (by decide)
  exact h

theorem step5 (hi lo : Int) (h0 : 0 ≤ hi) (h1 : hi ≤ 18446744073709551615) (l0 : 0 ≤ lo) (l1 : lo ≤ 18446744073709551615) (hb : ¬(hi = 0 ∧ lo ≤ 31)) :
    let s := lo / 32 + (hi % 32) * 576460752303423488 + lo % 32
    0 ≤ s ∧ 0 ≤ hi / 32 + s / 18446744073709551616 ∧ hi / 32 + s / 18446744073709551616 ≤ 18446744073709551615 ∧
      (hi / 32 + s / 18446744073709551616) * 18446744073709551616 + s % 18446744073709551616 < hi * 18446744073709551616 + lo ∧
      ((hi / 32 + s / 18446744073709551616) * 18446744073709551616 + s % 18446744073709551616) % 31 = (hi * 18446744073709551616 + lo) % 31 := by
  intro s
  have hs : s = lo / 32 + (hi % 32) * 576460752303423488 + lo % 32 := rfl
  clear_value s
  have e : (hi / 32 + s / 18446744073709551616) * 18446744073709551616 + s % 18446744073709551616 = (hi * 18446744073709551616 + lo) / 32 + (hi * 18446744073709551616 + lo) % 32 := by omega
  rw [e]
  refine ⟨by omega, by omega, by omega, by omega, by omega⟩

set_option maxHeartbeats 1000000 in
theorem fold5 (hi lo : Int) (h0 : 0 ≤ hi) (h1 : hi ≤ 18446744073709551615) (l0 : 0 ≤ lo) (l1 : lo ≤ 18446744073709551615) (w : World) :
    Calls Try.prog 82 #[.int .u64 31, .int .u64 hi, .int .u64 lo] w fun e w' => e = .returned (.int .u64 ((hi * 18446744073709551616 + lo) % 31)) ∧ w = w' := by
  go_enter Try.func82, Try.ntmps82
  go_wp2_with (go_at_call 90; refine (width5 _).mono ?_; rintro e w' ⟨rfl, rfl⟩)
  go_loop [1, 2] (fun a b => ∃ x y : Int, 0 ≤ x ∧ x ≤ 18446744073709551615 ∧ 0 ≤ y ∧ y ≤ 18446744073709551615 ∧ a = .int .u64 x ∧ b = .int .u64 y ∧ Hid ((x * 18446744073709551616 + y) % 31 = (hi * 18446744073709551616 + lo) % 31)) (fun a b => (intOf a * 18446744073709551616 + intOf b).toNat)
  case atStart => exact ⟨hi, lo, h0, h1, l0, l1, rfl, rfl, Lib.hid rfl⟩
  case round =>
    obtain ⟨x, y, x0, x1, y0, y1, rfl, rfl, he⟩ := hrel
    by_cases c : x = 0 ∧ y ≤ 31
    · obtain ⟨rfl, hy⟩ := c
      by_cases e : y = 31
      · subst e
        go_wp2
        go_ret
        exact ⟨ret_int (by have := he.out; omega), rfl⟩
      · have e1 : (y == 31) = false := by simpa using e
        go_wp2
        go_ret
        exact ⟨ret_int (by have := he.out; omega), rfl⟩
    · have st := Lib.hid (step5 x y x0 x1 y0 y1 c)
      have eo := or5 x y x0 y0 y1
      have ea := and5 y y0 y1
      have k0 : 0 ≤ y / 32 + (x % 32) * 576460752303423488 := by omega
      have k1 : 0 ≤ y % 32 := by omega
      have ad := fun W => add64 (y / 32 + (x % 32) * 576460752303423488) (y % 32) k0 k1 W
      have k2 : 0 ≤ (y / 32 + (x % 32) * 576460752303423488 + y % 32) / 18446744073709551616 := by omega
      by_cases c0 : x = 0
      · have c1 : 31 < y := by omega
        have c2 : (x != 0) = false := by simpa using c0
        clear c0 c
        go_wp2
        go_round
        case rel => exact ⟨_, _, st.out.2.1, st.out.2.2.1, by omega, by omega, rfl, rfl, Lib.hid (st.out.2.2.2.2.trans he.out)⟩
        case measure => have := st.out.2.2.2.1; have := st.out.2.1; simp only [intOf]; omega
      · have c2 : (x != 0) = true := by simpa using c0
        clear c0 c
        go_wp2
        go_round
        case rel => exact ⟨_, _, st.out.2.1, st.out.2.2.1, by omega, by omega, rfl, rfl, Lib.hid (st.out.2.2.2.2.trans he.out)⟩
        case measure => have := st.out.2.2.2.1; have := st.out.2.1; simp only [intOf]; omega

/-! ### q = 7 -/
set_option maxRecDepth 100000 in
theorem width7 (w : World) : Calls Try.prog 90 #[.int .u64 127] w fun e w' => e = .returned (.int .u64 7) ∧ w = w' := by
  go_enter Try.func90, Try.ntmps90
  go_wp2
  go_ret
  exact ⟨by kernel_rfl, rfl⟩
theorem or7 (hi lo : Int) (h0 : 0 ≤ hi) (l0 : 0 ≤ lo) (l1 : lo ≤ 18446744073709551615) : Go.bits .or .u64 (lo / 128) (IntKind.u64.wrap (hi * 144115188075855872)) = lo / 128 + (hi % 128) * 144115188075855872 := by
  have e : IntKind.u64.wrap (hi * 144115188075855872) = (hi % 128) * 144115188075855872 := by rw [IntKind.wrap_u64]; omega
  rw [e, or_plain 57 _ _ (by omega) (by omega) (by omega) (by omega) (by omega)]
theorem and7 (lo : Int) (l0 : 0 ≤ lo) (l1 : lo ≤ 18446744073709551615) : Go.bits .and .u64 lo 127 = lo % 128 := by
  have h := and_plain 7 127 lo l0 (by omega) (by decide) (by decide)
  exact h

theorem step7 (hi lo : Int) (h0 : 0 ≤ hi) (h1 : hi ≤ 18446744073709551615) (l0 : 0 ≤ lo) (l1 : lo ≤ 18446744073709551615) (hb : ¬(hi = 0 ∧ lo ≤ 127)) :
    let s := lo / 128 + (hi % 128) * 144115188075855872 + lo % 128
    0 ≤ s ∧ 0 ≤ hi / 128 + s / 18446744073709551616 ∧ hi / 128 + s / 18446744073709551616 ≤ 18446744073709551615 ∧
      (hi / 128 + s / 18446744073709551616) * 18446744073709551616 + s % 18446744073709551616 < hi * 18446744073709551616 + lo ∧
      ((hi / 128 + s / 18446744073709551616) * 18446744073709551616 + s % 18446744073709551616) % 127 = (hi * 18446744073709551616 + lo) % 127 := by
  intro s
  have hs : s = lo / 128 + (hi % 128) * 144115188075855872 + lo % 128 := rfl
  clear_value s
  have e : (hi / 128 + s / 18446744073709551616) * 18446744073709551616 + s % 18446744073709551616 = (hi * 18446744073709551616 + lo) / 128 + (hi * 18446744073709551616 + lo) % 128 := by omega
  rw [e]
  refine ⟨by omega, by omega, by omega, by omega, by omega⟩

set_option maxHeartbeats 1000000 in
theorem fold7 (hi lo : Int) (h0 : 0 ≤ hi) (h1 : hi ≤ 18446744073709551615) (l0 : 0 ≤ lo) (l1 : lo ≤ 18446744073709551615) (w : World) :
    Calls Try.prog 82 #[.int .u64 127, .int .u64 hi, .int .u64 lo] w fun e w' => e = .returned (.int .u64 ((hi * 18446744073709551616 + lo) % 127)) ∧ w = w' := by
  go_enter Try.func82, Try.ntmps82
  go_wp2_with (go_at_call 90; refine (width7 _).mono ?_; rintro e w' ⟨rfl, rfl⟩)
  go_loop [1, 2] (fun a b => ∃ x y : Int, 0 ≤ x ∧ x ≤ 18446744073709551615 ∧ 0 ≤ y ∧ y ≤ 18446744073709551615 ∧ a = .int .u64 x ∧ b = .int .u64 y ∧ Hid ((x * 18446744073709551616 + y) % 127 = (hi * 18446744073709551616 + lo) % 127)) (fun a b => (intOf a * 18446744073709551616 + intOf b).toNat)
  case atStart => exact ⟨hi, lo, h0, h1, l0, l1, rfl, rfl, Lib.hid rfl⟩
  case round =>
    obtain ⟨x, y, x0, x1, y0, y1, rfl, rfl, he⟩ := hrel
    by_cases c : x = 0 ∧ y ≤ 127
    · obtain ⟨rfl, hy⟩ := c
      by_cases e : y = 127
      · subst e
        go_wp2
        go_ret
        exact ⟨ret_int (by have := he.out; omega), rfl⟩
      · have e1 : (y == 127) = false := by simpa using e
        go_wp2
        go_ret
        exact ⟨ret_int (by have := he.out; omega), rfl⟩
    · have st := Lib.hid (step7 x y x0 x1 y0 y1 c)
      have eo := or7 x y x0 y0 y1
      have ea := and7 y y0 y1
      have k0 : 0 ≤ y / 128 + (x % 128) * 144115188075855872 := by omega
      have k1 : 0 ≤ y % 128 := by omega
      have ad := fun W => add64 (y / 128 + (x % 128) * 144115188075855872) (y % 128) k0 k1 W
      have k2 : 0 ≤ (y / 128 + (x % 128) * 144115188075855872 + y % 128) / 18446744073709551616 := by omega
      by_cases c0 : x = 0
      · have c1 : 127 < y := by omega
        have c2 : (x != 0) = false := by simpa using c0
        clear c0 c
        go_wp2
        go_round
        case rel => exact ⟨_, _, st.out.2.1, st.out.2.2.1, by omega, by omega, rfl, rfl, Lib.hid (st.out.2.2.2.2.trans he.out)⟩
        case measure => have := st.out.2.2.2.1; have := st.out.2.1; simp only [intOf]; omega
      · have c2 : (x != 0) = true := by simpa using c0
        clear c0 c
        go_wp2
        go_round
        case rel => exact ⟨_, _, st.out.2.1, st.out.2.2.1, by omega, by omega, rfl, rfl, Lib.hid (st.out.2.2.2.2.trans he.out)⟩
        case measure => have := st.out.2.2.2.1; have := st.out.2.1; simp only [intOf]; omega

/-! ### q = 13 -/
set_option maxRecDepth 100000 in
theorem width13 (w : World) : Calls Try.prog 90 #[.int .u64 8191] w fun e w' => e = .returned (.int .u64 13) ∧ w = w' := by
  go_enter Try.func90, Try.ntmps90
  go_wp2
  go_ret
  exact ⟨by kernel_rfl, rfl⟩
theorem or13 (hi lo : Int) (h0 : 0 ≤ hi) (l0 : 0 ≤ lo) (l1 : lo ≤ 18446744073709551615) : Go.bits .or .u64 (lo / 8192) (IntKind.u64.wrap (hi * 2251799813685248)) = lo / 8192 + (hi % 8192) * 2251799813685248 := by
  have e : IntKind.u64.wrap (hi * 2251799813685248) = (hi % 8192) * 2251799813685248 := by rw [IntKind.wrap_u64]; omega
  rw [e, or_plain 51 _ _ (by omega) (by omega) (by omega) (by omega) (by omega)]
theorem and13 (lo : Int) (l0 : 0 ≤ lo) (l1 : lo ≤ 18446744073709551615) : Go.bits .and .u64 lo 8191 = lo % 8192 := by
  have h := and_plain 13 8191 lo l0 (by omega) (by decide) (by decide)
  exact h

theorem step13 (hi lo : Int) (h0 : 0 ≤ hi) (h1 : hi ≤ 18446744073709551615) (l0 : 0 ≤ lo) (l1 : lo ≤ 18446744073709551615) (hb : ¬(hi = 0 ∧ lo ≤ 8191)) :
    let s := lo / 8192 + (hi % 8192) * 2251799813685248 + lo % 8192
    0 ≤ s ∧ 0 ≤ hi / 8192 + s / 18446744073709551616 ∧ hi / 8192 + s / 18446744073709551616 ≤ 18446744073709551615 ∧
      (hi / 8192 + s / 18446744073709551616) * 18446744073709551616 + s % 18446744073709551616 < hi * 18446744073709551616 + lo ∧
      ((hi / 8192 + s / 18446744073709551616) * 18446744073709551616 + s % 18446744073709551616) % 8191 = (hi * 18446744073709551616 + lo) % 8191 := by
  intro s
  have hs : s = lo / 8192 + (hi % 8192) * 2251799813685248 + lo % 8192 := rfl
  clear_value s
  have e : (hi / 8192 + s / 18446744073709551616) * 18446744073709551616 + s % 18446744073709551616 = (hi * 18446744073709551616 + lo) / 8192 + (hi * 18446744073709551616 + lo) % 8192 := by omega
  rw [e]
  refine ⟨by omega, by omega, by omega, by omega, by omega⟩

set_option maxHeartbeats 1000000 in
theorem fold13 (hi lo : Int) (h0 : 0 ≤ hi) (h1 : hi ≤ 18446744073709551615) (l0 : 0 ≤ lo) (l1 : lo ≤ 18446744073709551615) (w : World) :
    Calls Try.prog 82 #[.int .u64 8191, .int .u64 hi, .int .u64 lo] w fun e w' => e = .returned (.int .u64 ((hi * 18446744073709551616 + lo) % 8191)) ∧ w = w' := by
  go_enter Try.func82, Try.ntmps82
  go_wp2_with (go_at_call 90; refine (width13 _).mono ?_; rintro e w' ⟨rfl, rfl⟩)
  go_loop [1, 2] (fun a b => ∃ x y : Int, 0 ≤ x ∧ x ≤ 18446744073709551615 ∧ 0 ≤ y ∧ y ≤ 18446744073709551615 ∧ a = .int .u64 x ∧ b = .int .u64 y ∧ Hid ((x * 18446744073709551616 + y) % 8191 = (hi * 18446744073709551616 + lo) % 8191)) (fun a b => (intOf a * 18446744073709551616 + intOf b).toNat)
  case atStart => exact ⟨hi, lo, h0, h1, l0, l1, rfl, rfl, Lib.hid rfl⟩
  case round =>
    obtain ⟨x, y, x0, x1, y0, y1, rfl, rfl, he⟩ := hrel
    by_cases c : x = 0 ∧ y ≤ 8191
    · obtain ⟨rfl, hy⟩ := c
      by_cases e : y = 8191
      · subst e
        go_wp2
        go_ret
        exact ⟨ret_int (by have := he.out; omega), rfl⟩
      · have e1 : (y == 8191) = false := by simpa using e
        go_wp2
        go_ret
        exact ⟨ret_int (by have := he.out; omega), rfl⟩
    · have st := Lib.hid (step13 x y x0 x1 y0 y1 c)
      have eo := or13 x y x0 y0 y1
      have ea := and13 y y0 y1
      have k0 : 0 ≤ y / 8192 + (x % 8192) * 2251799813685248 := by omega
      have k1 : 0 ≤ y % 8192 := by omega
      have ad := fun W => add64 (y / 8192 + (x % 8192) * 2251799813685248) (y % 8192) k0 k1 W
      have k2 : 0 ≤ (y / 8192 + (x % 8192) * 2251799813685248 + y % 8192) / 18446744073709551616 := by omega
      by_cases c0 : x = 0
      · have c1 : 8191 < y := by omega
        have c2 : (x != 0) = false := by simpa using c0
        clear c0 c
        go_wp2
        go_round
        case rel => exact ⟨_, _, st.out.2.1, st.out.2.2.1, by omega, by omega, rfl, rfl, Lib.hid (st.out.2.2.2.2.trans he.out)⟩
        case measure => have := st.out.2.2.2.1; have := st.out.2.1; simp only [intOf]; omega
      · have c2 : (x != 0) = true := by simpa using c0
        clear c0 c
        go_wp2
        go_round
        case rel => exact ⟨_, _, st.out.2.1, st.out.2.2.1, by omega, by omega, rfl, rfl, Lib.hid (st.out.2.2.2.2.trans he.out)⟩
        case measure => have := st.out.2.2.2.1; have := st.out.2.1; simp only [intOf]; omega

/-! ### q = 17 -/
set_option maxRecDepth 100000 in
theorem width17 (w : World) : Calls Try.prog 90 #[.int .u64 131071] w fun e w' => e = .returned (.int .u64 17) ∧ w = w' := by
  go_enter Try.func90, Try.ntmps90
  go_wp2
  go_ret
  exact ⟨by kernel_rfl, rfl⟩
theorem or17 (hi lo : Int) (h0 : 0 ≤ hi) (l0 : 0 ≤ lo) (l1 : lo ≤ 18446744073709551615) : Go.bits .or .u64 (lo / 131072) (IntKind.u64.wrap (hi * 140737488355328)) = lo / 131072 + (hi % 131072) * 140737488355328 := by
  have e : IntKind.u64.wrap (hi * 140737488355328) = (hi % 131072) * 140737488355328 := by rw [IntKind.wrap_u64]; omega
  rw [e, or_plain 47 _ _ (by omega) (by omega) (by omega) (by omega) (by omega)]
theorem and17 (lo : Int) (l0 : 0 ≤ lo) (l1 : lo ≤ 18446744073709551615) : Go.bits .and .u64 lo 131071 = lo % 131072 := by
  have h := and_plain 17 131071 lo l0 (by omega) (by decide) (by decide)
  exact h

theorem step17 (hi lo : Int) (h0 : 0 ≤ hi) (h1 : hi ≤ 18446744073709551615) (l0 : 0 ≤ lo) (l1 : lo ≤ 18446744073709551615) (hb : ¬(hi = 0 ∧ lo ≤ 131071)) :
    let s := lo / 131072 + (hi % 131072) * 140737488355328 + lo % 131072
    0 ≤ s ∧ 0 ≤ hi / 131072 + s / 18446744073709551616 ∧ hi / 131072 + s / 18446744073709551616 ≤ 18446744073709551615 ∧
      (hi / 131072 + s / 18446744073709551616) * 18446744073709551616 + s % 18446744073709551616 < hi * 18446744073709551616 + lo ∧
      ((hi / 131072 + s / 18446744073709551616) * 18446744073709551616 + s % 18446744073709551616) % 131071 = (hi * 18446744073709551616 + lo) % 131071 := by
  intro s
  have hs : s = lo / 131072 + (hi % 131072) * 140737488355328 + lo % 131072 := rfl
  clear_value s
  have e : (hi / 131072 + s / 18446744073709551616) * 18446744073709551616 + s % 18446744073709551616 = (hi * 18446744073709551616 + lo) / 131072 + (hi * 18446744073709551616 + lo) % 131072 := by omega
  rw [e]
  refine ⟨by omega, by omega, by omega, by omega, by omega⟩

set_option maxHeartbeats 1000000 in
theorem fold17 (hi lo : Int) (h0 : 0 ≤ hi) (h1 : hi ≤ 18446744073709551615) (l0 : 0 ≤ lo) (l1 : lo ≤ 18446744073709551615) (w : World) :
    Calls Try.prog 82 #[.int .u64 131071, .int .u64 hi, .int .u64 lo] w fun e w' => e = .returned (.int .u64 ((hi * 18446744073709551616 + lo) % 131071)) ∧ w = w' := by
  go_enter Try.func82, Try.ntmps82
  go_wp2_with (go_at_call 90; refine (width17 _).mono ?_; rintro e w' ⟨rfl, rfl⟩)
  go_loop [1, 2] (fun a b => ∃ x y : Int, 0 ≤ x ∧ x ≤ 18446744073709551615 ∧ 0 ≤ y ∧ y ≤ 18446744073709551615 ∧ a = .int .u64 x ∧ b = .int .u64 y ∧ Hid ((x * 18446744073709551616 + y) % 131071 = (hi * 18446744073709551616 + lo) % 131071)) (fun a b => (intOf a * 18446744073709551616 + intOf b).toNat)
  case atStart => exact ⟨hi, lo, h0, h1, l0, l1, rfl, rfl, Lib.hid rfl⟩
  case round =>
    obtain ⟨x, y, x0, x1, y0, y1, rfl, rfl, he⟩ := hrel
    by_cases c : x = 0 ∧ y ≤ 131071
    · obtain ⟨rfl, hy⟩ := c
      by_cases e : y = 131071
      · subst e
        go_wp2
        go_ret
        exact ⟨ret_int (by have := he.out; omega), rfl⟩
      · have e1 : (y == 131071) = false := by simpa using e
        go_wp2
        go_ret
        exact ⟨ret_int (by have := he.out; omega), rfl⟩
    · have st := Lib.hid (step17 x y x0 x1 y0 y1 c)
      have eo := or17 x y x0 y0 y1
      have ea := and17 y y0 y1
      have k0 : 0 ≤ y / 131072 + (x % 131072) * 140737488355328 := by omega
      have k1 : 0 ≤ y % 131072 := by omega
      have ad := fun W => add64 (y / 131072 + (x % 131072) * 140737488355328) (y % 131072) k0 k1 W
      have k2 : 0 ≤ (y / 131072 + (x % 131072) * 140737488355328 + y % 131072) / 18446744073709551616 := by omega
      by_cases c0 : x = 0
      · have c1 : 131071 < y := by omega
        have c2 : (x != 0) = false := by simpa using c0
        clear c0 c
        go_wp2
        go_round
        case rel => exact ⟨_, _, st.out.2.1, st.out.2.2.1, by omega, by omega, rfl, rfl, Lib.hid (st.out.2.2.2.2.trans he.out)⟩
        case measure => have := st.out.2.2.2.1; have := st.out.2.1; simp only [intOf]; omega
      · have c2 : (x != 0) = true := by simpa using c0
        clear c0 c
        go_wp2
        go_round
        case rel => exact ⟨_, _, st.out.2.1, st.out.2.2.1, by omega, by omega, rfl, rfl, Lib.hid (st.out.2.2.2.2.trans he.out)⟩
        case measure => have := st.out.2.2.2.1; have := st.out.2.1; simp only [intOf]; omega

/-! ### q = 19 -/
set_option maxRecDepth 100000 in
theorem width19 (w : World) : Calls Try.prog 90 #[.int .u64 524287] w fun e w' => e = .returned (.int .u64 19) ∧ w = w' := by
  go_enter Try.func90, Try.ntmps90
  go_wp2
  go_ret
  exact ⟨by kernel_rfl, rfl⟩
theorem or19 (hi lo : Int) (h0 : 0 ≤ hi) (l0 : 0 ≤ lo) (l1 : lo ≤ 18446744073709551615) : Go.bits .or .u64 (lo / 524288) (IntKind.u64.wrap (hi * 35184372088832)) = lo / 524288 + (hi % 524288) * 35184372088832 := by
  have e : IntKind.u64.wrap (hi * 35184372088832) = (hi % 524288) * 35184372088832 := by rw [IntKind.wrap_u64]; omega
  rw [e, or_plain 45 _ _ (by omega) (by omega) (by omega) (by omega) (by omega)]
theorem and19 (lo : Int) (l0 : 0 ≤ lo) (l1 : lo ≤ 18446744073709551615) : Go.bits .and .u64 lo 524287 = lo % 524288 := by
  have h := and_plain 19 524287 lo l0 (by omega) (by decide) (by decide)
  exact h

theorem step19 (hi lo : Int) (h0 : 0 ≤ hi) (h1 : hi ≤ 18446744073709551615) (l0 : 0 ≤ lo) (l1 : lo ≤ 18446744073709551615) (hb : ¬(hi = 0 ∧ lo ≤ 524287)) :
    let s := lo / 524288 + (hi % 524288) * 35184372088832 + lo % 524288
    0 ≤ s ∧ 0 ≤ hi / 524288 + s / 18446744073709551616 ∧ hi / 524288 + s / 18446744073709551616 ≤ 18446744073709551615 ∧
      (hi / 524288 + s / 18446744073709551616) * 18446744073709551616 + s % 18446744073709551616 < hi * 18446744073709551616 + lo ∧
      ((hi / 524288 + s / 18446744073709551616) * 18446744073709551616 + s % 18446744073709551616) % 524287 = (hi * 18446744073709551616 + lo) % 524287 := by
  intro s
  have hs : s = lo / 524288 + (hi % 524288) * 35184372088832 + lo % 524288 := rfl
  clear_value s
  have e : (hi / 524288 + s / 18446744073709551616) * 18446744073709551616 + s % 18446744073709551616 = (hi * 18446744073709551616 + lo) / 524288 + (hi * 18446744073709551616 + lo) % 524288 := by omega
  rw [e]
  refine ⟨by omega, by omega, by omega, by omega, by omega⟩

set_option maxHeartbeats 1000000 in
theorem fold19 (hi lo : Int) (h0 : 0 ≤ hi) (h1 : hi ≤ 18446744073709551615) (l0 : 0 ≤ lo) (l1 : lo ≤ 18446744073709551615) (w : World) :
    Calls Try.prog 82 #[.int .u64 524287, .int .u64 hi, .int .u64 lo] w fun e w' => e = .returned (.int .u64 ((hi * 18446744073709551616 + lo) % 524287)) ∧ w = w' := by
  go_enter Try.func82, Try.ntmps82
  go_wp2_with (go_at_call 90; refine (width19 _).mono ?_; rintro e w' ⟨rfl, rfl⟩)
  go_loop [1, 2] (fun a b => ∃ x y : Int, 0 ≤ x ∧ x ≤ 18446744073709551615 ∧ 0 ≤ y ∧ y ≤ 18446744073709551615 ∧ a = .int .u64 x ∧ b = .int .u64 y ∧ Hid ((x * 18446744073709551616 + y) % 524287 = (hi * 18446744073709551616 + lo) % 524287)) (fun a b => (intOf a * 18446744073709551616 + intOf b).toNat)
  case atStart => exact ⟨hi, lo, h0, h1, l0, l1, rfl, rfl, Lib.hid rfl⟩
  case round =>
    obtain ⟨x, y, x0, x1, y0, y1, rfl, rfl, he⟩ := hrel
    by_cases c : x = 0 ∧ y ≤ 524287
    · obtain ⟨rfl, hy⟩ := c
      by_cases e : y = 524287
      · subst e
        go_wp2
        go_ret
        exact ⟨ret_int (by have := he.out; omega), rfl⟩
      · have e1 : (y == 524287) = false := by simpa using e
        go_wp2
        go_ret
        exact ⟨ret_int (by have := he.out; omega), rfl⟩
    · have st := Lib.hid (step19 x y x0 x1 y0 y1 c)
      have eo := or19 x y x0 y0 y1
      have ea := and19 y y0 y1
      have k0 : 0 ≤ y / 524288 + (x % 524288) * 35184372088832 := by omega
      have k1 : 0 ≤ y % 524288 := by omega
      have ad := fun W => add64 (y / 524288 + (x % 524288) * 35184372088832) (y % 524288) k0 k1 W
      have k2 : 0 ≤ (y / 524288 + (x % 524288) * 35184372088832 + y % 524288) / 18446744073709551616 := by omega
      by_cases c0 : x = 0
      · have c1 : 524287 < y := by omega
        have c2 : (x != 0) = false := by simpa using c0
        clear c0 c
        go_wp2
        go_round
        case rel => exact ⟨_, _, st.out.2.1, st.out.2.2.1, by omega, by omega, rfl, rfl, Lib.hid (st.out.2.2.2.2.trans he.out)⟩
        case measure => have := st.out.2.2.2.1; have := st.out.2.1; simp only [intOf]; omega
      · have c2 : (x != 0) = true := by simpa using c0
        clear c0 c
        go_wp2
        go_round
        case rel => exact ⟨_, _, st.out.2.1, st.out.2.2.1, by omega, by omega, rfl, rfl, Lib.hid (st.out.2.2.2.2.trans he.out)⟩
        case measure => have := st.out.2.2.2.1; have := st.out.2.1; simp only [intOf]; omega

/-! ### q = 31 -/
set_option maxRecDepth 100000 in
theorem width31 (w : World) : Calls Try.prog 90 #[.int .u64 2147483647] w fun e w' => e = .returned (.int .u64 31) ∧ w = w' := by
  go_enter Try.func90, Try.ntmps90
  go_wp2
  go_ret
  exact ⟨by kernel_rfl, rfl⟩
theorem or31 (hi lo : Int) (h0 : 0 ≤ hi) (l0 : 0 ≤ lo) (l1 : lo ≤ 18446744073709551615) : Go.bits .or .u64 (lo / 2147483648) (IntKind.u64.wrap (hi * 8589934592)) = lo / 2147483648 + (hi % 2147483648) * 8589934592 := by
  have e : IntKind.u64.wrap (hi * 8589934592) = (hi % 2147483648) * 8589934592 := by rw [IntKind.wrap_u64]; omega
  rw [e, or_plain 33 _ _ (by omega) (by omega) (by omega) (by omega) (by omega)]
theorem and31 (lo : Int) (l0 : 0 ≤ lo) (l1 : lo ≤ 18446744073709551615) : Go.bits .and .u64 lo 2147483647 = lo % 2147483648 := by
  have h := and_plain 31 2147483647 lo l0 (by omega) (by decide) (by decide)
  exact h

theorem step31 (hi lo : Int) (h0 : 0 ≤ hi) (h1 : hi ≤ 18446744073709551615) (l0 : 0 ≤ lo) (l1 : lo ≤ 18446744073709551615) (hb : ¬(hi = 0 ∧ lo ≤ 2147483647)) :
    let s := lo / 2147483648 + (hi % 2147483648) * 8589934592 + lo % 2147483648
    0 ≤ s ∧ 0 ≤ hi / 2147483648 + s / 18446744073709551616 ∧ hi / 2147483648 + s / 18446744073709551616 ≤ 18446744073709551615 ∧
      (hi / 2147483648 + s / 18446744073709551616) * 18446744073709551616 + s % 18446744073709551616 < hi * 18446744073709551616 + lo ∧
      ((hi / 2147483648 + s / 18446744073709551616) * 18446744073709551616 + s % 18446744073709551616) % 2147483647 = (hi * 18446744073709551616 + lo) % 2147483647 := by
  intro s
  have hs : s = lo / 2147483648 + (hi % 2147483648) * 8589934592 + lo % 2147483648 := rfl
  clear_value s
  have e : (hi / 2147483648 + s / 18446744073709551616) * 18446744073709551616 + s % 18446744073709551616 = (hi * 18446744073709551616 + lo) / 2147483648 + (hi * 18446744073709551616 + lo) % 2147483648 := by omega
  rw [e]
  refine ⟨by omega, by omega, by omega, by omega, by omega⟩

set_option maxHeartbeats 1000000 in
theorem fold31 (hi lo : Int) (h0 : 0 ≤ hi) (h1 : hi ≤ 18446744073709551615) (l0 : 0 ≤ lo) (l1 : lo ≤ 18446744073709551615) (w : World) :
    Calls Try.prog 82 #[.int .u64 2147483647, .int .u64 hi, .int .u64 lo] w fun e w' => e = .returned (.int .u64 ((hi * 18446744073709551616 + lo) % 2147483647)) ∧ w = w' := by
  go_enter Try.func82, Try.ntmps82
  go_wp2_with (go_at_call 90; refine (width31 _).mono ?_; rintro e w' ⟨rfl, rfl⟩)
  go_loop [1, 2] (fun a b => ∃ x y : Int, 0 ≤ x ∧ x ≤ 18446744073709551615 ∧ 0 ≤ y ∧ y ≤ 18446744073709551615 ∧ a = .int .u64 x ∧ b = .int .u64 y ∧ Hid ((x * 18446744073709551616 + y) % 2147483647 = (hi * 18446744073709551616 + lo) % 2147483647)) (fun a b => (intOf a * 18446744073709551616 + intOf b).toNat)
  case atStart => exact ⟨hi, lo, h0, h1, l0, l1, rfl, rfl, Lib.hid rfl⟩
  case round =>
    obtain ⟨x, y, x0, x1, y0, y1, rfl, rfl, he⟩ := hrel
    by_cases c : x = 0 ∧ y ≤ 2147483647
    · obtain ⟨rfl, hy⟩ := c
      by_cases e : y = 2147483647
      · subst e
        go_wp2
        go_ret
        exact ⟨ret_int (by have := he.out; omega), rfl⟩
      · have e1 : (y == 2147483647) = false := by simpa using e
        go_wp2
        go_ret
        exact ⟨ret_int (by have := he.out; omega), rfl⟩
    · have st := Lib.hid (step31 x y x0 x1 y0 y1 c)
      have eo := or31 x y x0 y0 y1
      have ea := and31 y y0 y1
      have k0 : 0 ≤ y / 2147483648 + (x % 2147483648) * 8589934592 := by omega
      have k1 : 0 ≤ y % 2147483648 := by omega
      have ad := fun W => add64 (y / 2147483648 + (x % 2147483648) * 8589934592) (y % 2147483648) k0 k1 W
      have k2 : 0 ≤ (y / 2147483648 + (x % 2147483648) * 8589934592 + y % 2147483648) / 18446744073709551616 := by omega
      by_cases c0 : x = 0
      · have c1 : 2147483647 < y := by omega
        have c2 : (x != 0) = false := by simpa using c0
        clear c0 c
        go_wp2
        go_round
        case rel => exact ⟨_, _, st.out.2.1, st.out.2.2.1, by omega, by omega, rfl, rfl, Lib.hid (st.out.2.2.2.2.trans he.out)⟩
        case measure => have := st.out.2.2.2.1; have := st.out.2.1; simp only [intOf]; omega
      · have c2 : (x != 0) = true := by simpa using c0
        clear c0 c
        go_wp2
        go_round
        case rel => exact ⟨_, _, st.out.2.1, st.out.2.2.1, by omega, by omega, rfl, rfl, Lib.hid (st.out.2.2.2.2.trans he.out)⟩
        case measure => have := st.out.2.2.2.1; have := st.out.2.1; simp only [intOf]; omega

/-! ### q = 61 -/
set_option maxRecDepth 100000 in
theorem width61 (w : World) : Calls Try.prog 90 #[.int .u64 2305843009213693951] w fun e w' => e = .returned (.int .u64 61) ∧ w = w' := by
  go_enter Try.func90, Try.ntmps90
  go_wp2
  go_ret
  exact ⟨by kernel_rfl, rfl⟩
theorem or61 (hi lo : Int) (h0 : 0 ≤ hi) (l0 : 0 ≤ lo) (l1 : lo ≤ 18446744073709551615) : Go.bits .or .u64 (lo / 2305843009213693952) (IntKind.u64.wrap (hi * 8)) = lo / 2305843009213693952 + (hi % 2305843009213693952) * 8 := by
  have e : IntKind.u64.wrap (hi * 8) = (hi % 2305843009213693952) * 8 := by rw [IntKind.wrap_u64]; omega
  rw [e, or_plain 3 _ _ (by omega) (by omega) (by omega) (by omega) (by omega)]
theorem and61 (lo : Int) (l0 : 0 ≤ lo) (l1 : lo ≤ 18446744073709551615) : Go.bits .and .u64 lo 2305843009213693951 = lo % 2305843009213693952 := by
  have h := and_plain 61 2305843009213693951 lo l0 (by omega) (by decide) (by decide)
  exact h

theorem step61 (hi lo : Int) (h0 : 0 ≤ hi) (h1 : hi ≤ 18446744073709551615) (l0 : 0 ≤ lo) (l1 : lo ≤ 18446744073709551615) (hb : ¬(hi = 0 ∧ lo ≤ 2305843009213693951)) :
    let s := lo / 2305843009213693952 + (hi % 2305843009213693952) * 8 + lo % 2305843009213693952
    0 ≤ s ∧ 0 ≤ hi / 2305843009213693952 + s / 18446744073709551616 ∧ hi / 2305843009213693952 + s / 18446744073709551616 ≤ 18446744073709551615 ∧
      (hi / 2305843009213693952 + s / 18446744073709551616) * 18446744073709551616 + s % 18446744073709551616 < hi * 18446744073709551616 + lo ∧
      ((hi / 2305843009213693952 + s / 18446744073709551616) * 18446744073709551616 + s % 18446744073709551616) % 2305843009213693951 = (hi * 18446744073709551616 + lo) % 2305843009213693951 := by
  intro s
  have hs : s = lo / 2305843009213693952 + (hi % 2305843009213693952) * 8 + lo % 2305843009213693952 := rfl
  clear_value s
  have e : (hi / 2305843009213693952 + s / 18446744073709551616) * 18446744073709551616 + s % 18446744073709551616 = (hi * 18446744073709551616 + lo) / 2305843009213693952 + (hi * 18446744073709551616 + lo) % 2305843009213693952 := by omega
  rw [e]
  refine ⟨by omega, by omega, by omega, by omega, by omega⟩

set_option maxHeartbeats 1000000 in
theorem fold61 (hi lo : Int) (h0 : 0 ≤ hi) (h1 : hi ≤ 18446744073709551615) (l0 : 0 ≤ lo) (l1 : lo ≤ 18446744073709551615) (w : World) :
    Calls Try.prog 82 #[.int .u64 2305843009213693951, .int .u64 hi, .int .u64 lo] w fun e w' => e = .returned (.int .u64 ((hi * 18446744073709551616 + lo) % 2305843009213693951)) ∧ w = w' := by
  go_enter Try.func82, Try.ntmps82
  go_wp2_with (go_at_call 90; refine (width61 _).mono ?_; rintro e w' ⟨rfl, rfl⟩)
  go_loop [1, 2] (fun a b => ∃ x y : Int, 0 ≤ x ∧ x ≤ 18446744073709551615 ∧ 0 ≤ y ∧ y ≤ 18446744073709551615 ∧ a = .int .u64 x ∧ b = .int .u64 y ∧ Hid ((x * 18446744073709551616 + y) % 2305843009213693951 = (hi * 18446744073709551616 + lo) % 2305843009213693951)) (fun a b => (intOf a * 18446744073709551616 + intOf b).toNat)
  case atStart => exact ⟨hi, lo, h0, h1, l0, l1, rfl, rfl, Lib.hid rfl⟩
  case round =>
    obtain ⟨x, y, x0, x1, y0, y1, rfl, rfl, he⟩ := hrel
    by_cases c : x = 0 ∧ y ≤ 2305843009213693951
    · obtain ⟨rfl, hy⟩ := c
      by_cases e : y = 2305843009213693951
      · subst e
        go_wp2
        go_ret
        exact ⟨ret_int (by have := he.out; omega), rfl⟩
      · have e1 : (y == 2305843009213693951) = false := by simpa using e
        go_wp2
        go_ret
        exact ⟨ret_int (by have := he.out; omega), rfl⟩
    · have st := Lib.hid (step61 x y x0 x1 y0 y1 c)
      have eo := or61 x y x0 y0 y1
      have ea := and61 y y0 y1
      have k0 : 0 ≤ y / 2305843009213693952 + (x % 2305843009213693952) * 8 := by omega
      have k1 : 0 ≤ y % 2305843009213693952 := by omega
      have ad := fun W => add64 (y / 2305843009213693952 + (x % 2305843009213693952) * 8) (y % 2305843009213693952) k0 k1 W
      have k2 : 0 ≤ (y / 2305843009213693952 + (x % 2305843009213693952) * 8 + y % 2305843009213693952) / 18446744073709551616 := by omega
      by_cases c0 : x = 0
      · have c1 : 2305843009213693951 < y := by omega
        have c2 : (x != 0) = false := by simpa using c0
        clear c0 c
        go_wp2
        go_round
        case rel => exact ⟨_, _, st.out.2.1, st.out.2.2.1, by omega, by omega, rfl, rfl, Lib.hid (st.out.2.2.2.2.trans he.out)⟩
        case measure => have := st.out.2.2.2.1; have := st.out.2.1; simp only [intOf]; omega
      · have c2 : (x != 0) = true := by simpa using c0
        clear c0 c
        go_wp2
        go_round
        case rel => exact ⟨_, _, st.out.2.1, st.out.2.2.1, by omega, by omega, rfl, rfl, Lib.hid (st.out.2.2.2.2.trans he.out)⟩
        case measure => have := st.out.2.2.2.1; have := st.out.2.1; simp only [intOf]; omega

/-! ### bits.Mul64: the walk of the library's text, after Derived/Shelf/Bits/Mul64.lean -/
theorem maskN (a : Nat) (ha : a < 18446744073709551616) : Go.bits .and .u64 (a : Int) 4294967295 = ((a % 4294967296 : Nat) : Int) := by
  have h := bits_and_u64_nat a 4294967295 ha (by omega)
  have e : a &&& 4294967295 = a % 4294967296 := Nat.and_two_pow_sub_one_eq_mod a 32
  rw [e] at h
  exact h
theorem divN (a : Nat) : (a : Int) / 4294967296 = ((a / 4294967296 : Nat) : Int) := by omega
theorem mulN (a b : Nat) : (a : Int) * (b : Int) = ((a * b : Nat) : Int) := (Int.natCast_mul a b).symm
theorem addN (a b : Nat) : (a : Int) + (b : Int) = ((a + b : Nat) : Int) := (Int.natCast_add a b).symm
theorem wrapN (a : Nat) (ha : a < 18446744073709551616) : IntKind.u64.wrap (a : Int) = (a : Int) := by rw [IntKind.wrap_u64]; omega
theorem wrapM (a : Nat) : IntKind.u64.wrap (a : Int) = ((a % 18446744073709551616 : Nat) : Int) := by rw [IntKind.wrap_u64]; omega

set_option maxHeartbeats 1000000 in
theorem mul64 (x y : Nat) (hx : x < 18446744073709551616) (hy : y < 18446744073709551616) (w : World) :
    Calls Try.prog 83 #[.int .u64 x, .int .u64 y] w fun e w' => e = .returned (.tuple #[.int .u64 ((x * y / 18446744073709551616 : Nat) : Int), .int .u64 ((x * y % 18446744073709551616 : Nat) : Int)]) ∧ w = w' := by
  obtain ⟨bd, bt, bw, hhi⟩ := Lib.mul64_hi x y hx hy
  have ba := Lib.half_mul_le (a := x / 4294967296) (b := y / 4294967296) (by omega) (by omega)
  have bb := Lib.half_mul_le (a := x / 4294967296) (b := y % 4294967296) (by omega) (by omega)
  have bc := Lib.half_mul_le (a := x % 4294967296) (b := y / 4294967296) (by omega) (by omega)
  have ba' : x / 4294967296 * (y / 4294967296) < 18446744073709551616 := by omega
  have bb' : x / 4294967296 * (y % 4294967296) < 18446744073709551616 := by omega
  have bc' : x % 4294967296 * (y / 4294967296) < 18446744073709551616 := by omega
  have bh1 : x / 4294967296 * (y / 4294967296) + (x / 4294967296 * (y % 4294967296) + x % 4294967296 * (y % 4294967296) / 4294967296) / 4294967296 < 18446744073709551616 := by omega
  have bh : x / 4294967296 * (y / 4294967296) + (x / 4294967296 * (y % 4294967296) + x % 4294967296 * (y % 4294967296) / 4294967296) / 4294967296 + ((x / 4294967296 * (y % 4294967296) + x % 4294967296 * (y % 4294967296) / 4294967296) % 4294967296 + x % 4294967296 * (y / 4294967296)) / 4294967296 < 18446744073709551616 := by omega
  go_enter Try.func83, Try.ntmps83
  go_wp2
  simp only [maskN x hx, maskN y hy, divN, mulN, addN, wrapN _ bd, wrapN _ bb', wrapN _ bt, maskN _ bt, wrapN _ bc', wrapN _ bw, wrapN _ ba', wrapN _ bh1, wrapN _ bh, wrapM (x * y)]
  rw [hhi]
  go_ret2
  exact ⟨rfl, rfl⟩

end Go.Proofs.Ytkjknpibcbpdfaa.Fold
namespace Go.Proofs.Ytkjknpibcbpdfaa
open Go.RowKit Go.Proofs.YtkjknpibcbpdfaaW.PrintWords
theorem bits_Mul64.calls (a0 a1 : Int) (r1 r2 : Int) (w : World) (h : bits_Mul64.f a0 a1 = some (r1, r2)) :
    Calls Try.prog 83 #[.int .u64 a0, .int .u64 a1] w fun e w' => e = .returned (.tuple #[.int .u64 r1, .int .u64 r2]) ∧ Drawn0 w w' := by
  unfold bits_Mul64.f at h
  split at h
  · rename_i hg
    simp only [Bool.and_eq_true, isW_iff] at hg
    obtain ⟨⟨x0, x1⟩, y0, y1⟩ := hg
    simp only [Option.some.injEq, Prod.mk.injEq] at h
    obtain ⟨rfl, rfl⟩ := h
    obtain ⟨x, rfl⟩ := Int.eq_ofNat_of_zero_le x0
    obtain ⟨y, rfl⟩ := Int.eq_ofNat_of_zero_le y0
    refine (Fold.mul64 x y (by omega) (by omega) w).mono ?_
    rintro e w' ⟨he, rfl⟩
    refine ⟨?_, Drawn0.refl _⟩
    rw [he]
    simp only [Int.natCast_ediv, Int.natCast_emod, Int.natCast_mul]
    rfl
  · cases h
theorem field_fold.calls (a0 a1 a2 : Int) (r : Int) (w : World) (h : field_fold.f a0 a1 a2 = some r) :
    Calls Try.prog 82 #[.int .u64 a0, .int .u64 a1, .int .u64 a2] w fun e w' => e = .returned (.int .u64 r) ∧ Drawn0 w w' := by
  unfold field_fold.f at h
  split at h
  · rename_i hg
    simp only [Bool.and_eq_true, isW_iff] at hg
    obtain ⟨⟨hp, x0, x1⟩, y0, y1⟩ := hg
    obtain rfl := Option.some.inj h
    rcases okp_cases hp with rfl | rfl | rfl | rfl | rfl | rfl | rfl
    · exact (Fold.fold5 a1 a2 x0 (by omega) y0 (by omega) w).mono fun e w' ⟨he, hw⟩ => ⟨he, hw ▸ Drawn0.refl _⟩
    · exact (Fold.fold7 a1 a2 x0 (by omega) y0 (by omega) w).mono fun e w' ⟨he, hw⟩ => ⟨he, hw ▸ Drawn0.refl _⟩
    · exact (Fold.fold13 a1 a2 x0 (by omega) y0 (by omega) w).mono fun e w' ⟨he, hw⟩ => ⟨he, hw ▸ Drawn0.refl _⟩
    · exact (Fold.fold17 a1 a2 x0 (by omega) y0 (by omega) w).mono fun e w' ⟨he, hw⟩ => ⟨he, hw ▸ Drawn0.refl _⟩
    · exact (Fold.fold19 a1 a2 x0 (by omega) y0 (by omega) w).mono fun e w' ⟨he, hw⟩ => ⟨he, hw ▸ Drawn0.refl _⟩
    · exact (Fold.fold31 a1 a2 x0 (by omega) y0 (by omega) w).mono fun e w' ⟨he, hw⟩ => ⟨he, hw ▸ Drawn0.refl _⟩
    · exact (Fold.fold61 a1 a2 x0 (by omega) y0 (by omega) w).mono fun e w' ⟨he, hw⟩ => ⟨he, hw ▸ Drawn0.refl _⟩
  · cases h
end Go.Proofs.Ytkjknpibcbpdfaa
