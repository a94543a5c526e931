/- What the functions of the program compute, as plain Lean functions on whole numbers and lists; 'none' where nothing is claimed. No statement is proved here. -/
import Derived.Test.YtkjknpibcbpdfaaWWords
namespace Go.Proofs.Ytkjknpibcbpdfaa

/-- The supported primes. -/
def okp (p : Int) : Bool := p == 31 || p == 127 || p == 8191 || p == 131071 || p == 524287 || p == 2147483647 || p == 2305843009213693951
/-- An element of the field. -/
def inF (p a : Int) : Bool := decide (0 ≤ a) && decide (a < p)
def allF (p : Int) (l : List Int) : Bool := l.all (inF p)
/-- A number of 64 bits. -/
def isW (x : Int) : Bool := decide (0 ≤ x) && decide (x < 18446744073709551616)

def bits_Mul64.f (a b : Int) : Option (Int × Int) := if (isW a && isW b) = true then some (a * b / 18446744073709551616, a * b % 18446744073709551616) else none
def field_fold.f (p hi lo : Int) : Option Int := if (okp p && isW hi && isW lo) = true then some ((hi * 18446744073709551616 + lo) % p) else none
def field_Add.f (p a b : Int) : Option Int := if (okp p && inF p a && inF p b) = true then some ((a + b) % p) else none
def field_Sub.f (p a b : Int) : Option Int := if (okp p && inF p a && inF p b) = true then some ((a - b) % p) else none
def field_Neg.f (p a : Int) : Option Int := if (okp p && inF p a) = true then some ((-a) % p) else none
def field_Mul.f (p a b : Int) : Option Int := if (okp p && inF p a && inF p b) = true then some (a * b % p) else none
def field_Pow.f (p a n : Int) : Option Int := if (okp p && inF p a && isW n) = true then some (a ^ n.toNat % p) else none
def field_Reduce.f (p n : Int) : Option Int := if (okp p && isW n) = true then some (n % p) else none
/-- The inverse by Fermat; 0 has none: ErrZero. -/
def invF (p a : Int) : Int × Int := if a = 0 then (0, 8) else (a ^ (p - 2).toNat % p, 0)
def field_Inverse.f (p a : Int) : Option (Int × Int) := if (okp p && inF p a) = true then some (invF p a) else none
def privityref01_Add.f (p a b : Int) : Option Int := if (okp p && inF p a && inF p b) = true then some ((a + b) % p) else none
def privityref01_Sub.f (p a b : Int) : Option Int := if (okp p && inF p a && inF p b) = true then some ((a - b) % p) else none
def privityref01_Neg.f (p a : Int) : Option Int := if (okp p && inF p a) = true then some ((-a) % p) else none
def privityref01_Mul.f (p a b : Int) : Option Int := if (okp p && inF p a && inF p b) = true then some (a * b % p) else none
def privityref01_Pow.f (p a n : Int) : Option Int := if (okp p && inF p a && isW n) = true then some (a ^ n.toNat % p) else none
def privityref01_Inverse.f (p a : Int) : Option (Int × Int) := if (okp p && inF p a) = true then some (invF p a) else none

theorem okp_cases {p : Int} (h : okp p = true) : p = 31 ∨ p = 127 ∨ p = 8191 ∨ p = 131071 ∨ p = 524287 ∨ p = 2147483647 ∨ p = 2305843009213693951 := by
  simp only [okp, Bool.or_eq_true, beq_iff_eq] at h
  omega
theorem okp_lo {p : Int} (h : okp p = true) : 31 ≤ p := by rcases okp_cases h with rfl | rfl | rfl | rfl | rfl | rfl | rfl <;> decide
theorem okp_hi {p : Int} (h : okp p = true) : p ≤ 2305843009213693951 := by rcases okp_cases h with rfl | rfl | rfl | rfl | rfl | rfl | rfl <;> decide
theorem inF_iff {p a : Int} : inF p a = true ↔ 0 ≤ a ∧ a < p := by simp [inF]
theorem isW_iff {x : Int} : isW x = true ↔ 0 ≤ x ∧ x < 18446744073709551616 := by simp [isW]
theorem inF_mod {p : Int} (h : okp p = true) (a : Int) : inF p (a % p) = true := by
  have := okp_lo h
  exact inF_iff.2 ⟨Int.emod_nonneg _ (by omega), Int.emod_lt_of_pos _ (by omega)⟩
theorem inF_isW {p a : Int} (h : okp p = true) (ha : inF p a = true) : isW a = true := by
  have := okp_hi h
  have := inF_iff.1 ha
  exact isW_iff.2 ⟨by omega, by omega⟩
end Go.Proofs.Ytkjknpibcbpdfaa
