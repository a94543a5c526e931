/- The two laws of layer 1 over plain numbers: for all arguments the printed functions answer true. -/
import Derived.Test.YthlokgappehhgaaDoorX
namespace Go.Proofs.YthlokgappehhgaaDoor
open Go.RowKit Go.Proofs.YthlokgappehhgaaDoorW.PrintWords
set_option linter.unusedVariables false
set_option linter.unusedSimpArgs false

theorem awake_true : X.privitylaw01_awake.f = some true := by decide +kernel

theorem fit_7 : ∀ i : Nat, i < 7 → ∃ p, okp p = true ∧ (∀ a : Int, 0 ≤ a → a % 7 = i → X.privityref01_Fit.f a = some p) := by
  intro i hi
  have key : ∀ (j : Int) (p : Int), X.privityref01_Fit.f j = some p → 0 ≤ j → j < 7 → ∀ a : Int, 0 ≤ a → a % 7 = j → X.privityref01_Fit.f a = some p := by
    intro j p h j0 j1 a a0 e
    unfold X.privityref01_Fit.f at h ⊢
    have e7 : IntKind.u64.wrap (([5, 7, 13, 17, 19, 31, 61] : List Int).length : Int) = 7 := by decide
    simp only [X.privityref01_exps.f, Option.bind_some, e7] at h ⊢
    rw [tmod_nn j 7 j0, show j % 7 = j by omega] at h
    rw [tmod_nn a 7 a0, e]
    exact h
  match i, hi with
  | 0, _ => exact ⟨31, by decide, key 0 31 (by decide +kernel) (by omega) (by omega)⟩
  | 1, _ => exact ⟨127, by decide, key 1 127 (by decide +kernel) (by omega) (by omega)⟩
  | 2, _ => exact ⟨8191, by decide, key 2 8191 (by decide +kernel) (by omega) (by omega)⟩
  | 3, _ => exact ⟨131071, by decide, key 3 131071 (by decide +kernel) (by omega) (by omega)⟩
  | 4, _ => exact ⟨524287, by decide, key 4 524287 (by decide +kernel) (by omega) (by omega)⟩
  | 5, _ => exact ⟨2147483647, by decide, key 5 2147483647 (by decide +kernel) (by omega) (by omega)⟩
  | 6, _ => exact ⟨2305843009213693951, by decide, key 6 2305843009213693951 (by decide +kernel) (by omega) (by omega)⟩
theorem fit_ok (a : Int) (h : 0 ≤ a) : ∃ p, okp p = true ∧ X.privityref01_Fit.f a = some p := by
  obtain ⟨p, hp, hf⟩ := fit_7 (a % 7).toNat (by omega)
  exact ⟨p, hp, hf a h (by omega)⟩

theorem law_fit (a0 a1 a2 a3 : Int) (h0 : 0 ≤ a0) (h1 : 0 ≤ a1) (h2 : 0 ≤ a2) (h3 : 0 ≤ a3) : ∃ p, okp p = true ∧ X.privitylaw01_fit.f a0 a1 a2 a3 = some (p, a1 % p, a2 % p, a3 % p) := by
  obtain ⟨p, hp, hf⟩ := fit_ok a0 h0
  have := okp_lo hp
  refine ⟨p, hp, ?_⟩
  unfold X.privitylaw01_fit.f
  rw [hf]
  simp only [Option.bind_some]
  rw [if_neg (by omega), tmod_nn _ _ h1, tmod_nn _ _ h2, tmod_nn _ _ h3]

/-- The exponent of the root. -/
def rootE (p : Int) : Int := (p + 1) / 4
theorem rootE_isW {p : Int} (hp : okp p = true) : isW (rootE p) = true := by
  have := okp_lo hp
  have := okp_hi hp
  unfold rootE
  exact isW_iff.2 ⟨by omega, by omega⟩
theorem rootE_spelt {p : Int} (hp : okp p = true) : IntKind.u64.wrap (Int.tdiv (IntKind.u64.wrap (p + 1)) 4) = rootE p := by
  have := okp_lo hp
  have := okp_hi hp
  unfold rootE
  rw [w64 (p + 1) (by omega) (by omega), Int.tdiv_eq_ediv_of_nonneg (by omega), w64 _ (by omega) (by omega)]
theorem half_spelt {p : Int} (hp : okp p = true) : IntKind.u64.wrap (Int.tdiv (IntKind.u64.wrap (p - 1)) 2) = (p - 1) / 2 := by
  have := okp_lo hp
  have := okp_hi hp
  rw [w64 (p - 1) (by omega) (by omega), Int.tdiv_eq_ediv_of_nonneg (by omega), w64 _ (by omega) (by omega)]
theorem lesser {p r : Int} (hp : okp p = true) (hr : inF p r = true) : mn r (-r % p) = (if r > (p - 1) / 2 then p - r else r) := by
  have h := inF_iff.1 hr
  have e : -r % p = if r = 0 then 0 else p - r := by
    split
    · rename_i e; subst e; simp
    · have := okp_lo hp
      rw [← Int.add_emod_right, Int.emod_eq_of_lt (by omega) (by omega)]
      omega
  rw [e]
  unfold mn
  rcases okp_cases hp with rfl | rfl | rfl | rfl | rfl | rfl | rfl <;> (repeat' split) <;> omega
theorem square_neg (p r : Int) : (p - r) * (p - r) % p = r * r % p := by
  have e : (p - r) * (p - r) = r * r + p * (p - 2 * r) := by grind
  rw [e, Int.add_mul_emod_self_left]

theorem pure_sqrt (a0 a1 a2 a3 : Int) (h0 : 0 ≤ a0) (h1 : 0 ≤ a1) (h2 : 0 ≤ a2) (h3 : 0 ≤ a3) : X.privitylaw01_FieldSqrt.f a0 a1 a2 a3 = some true := by
  obtain ⟨p, hp, hf⟩ := law_fit a0 a1 a2 a3 h0 h1 h2 h3
  have ha := inF_mod hp a1
  unfold X.privitylaw01_FieldSqrt.f
  rw [hf]
  simp only [Option.bind_some]
  generalize a1 % p = a at ha
  obtain ⟨r, hr⟩ : ∃ r, r = a ^ (rootE p).toNat % p := ⟨_, rfl⟩
  have hrf : inF p r = true := hr ▸ inF_mod hp _
  have hrb := inF_iff.1 hrf
  have hlo := okp_lo hp
  have hhi := okp_hi hp
  have e1 : X.field_Sqrt.f p a = if r * r % p = a then some (if r > (p - 1) / 2 then p - r else r, 0) else some (0, 8) := by
    unfold X.field_Sqrt.f field_Pow.f
    rw [rootE_spelt hp]
    simp only [hp, ha, rootE_isW hp, Bool.and_true, if_true, Option.bind_some, ← hr]
    simp only [field_Mul.f, field_Neg.f, hp, hrf, Bool.and_true, if_true, Option.bind_some, lesser hp hrf]
  have e2 : X.privityref01_Sqrt.f p a = if r * r % p = a then some (if r > (p - 1) / 2 then p - r else r, 0) else some (0, 8) := by
    unfold X.privityref01_Sqrt.f privityref01_Pow.f
    rw [rootE_spelt hp]
    simp only [hp, ha, rootE_isW hp, Bool.and_true, if_true, Option.bind_some, ← hr]
    simp only [privityref01_Mul.f, hp, hrf, Bool.and_true, if_true, Option.bind_some, half_spelt hp]
    split
    · split
      · rw [w64 (p - r) (by omega) (by omega)]
      · rfl
    · rfl
  rw [e1, e2]
  by_cases hs : r * r % p = a
  · rw [if_pos hs, awake_true]
    simp only [Option.bind_some, if_true]
    by_cases hb : r > (p - 1) / 2
    · rw [if_pos hb]
      have hpr : inF p (p - r) = true := inF_iff.2 ⟨by omega, by omega⟩
      simp only [field_Mul.f, hp, hpr, Bool.and_true, if_true, Option.bind_some, half_spelt hp, square_neg]
      rw [if_pos hs, decide_eq_true (by rcases okp_cases hp with rfl | rfl | rfl | rfl | rfl | rfl | rfl <;> omega)]
    · rw [if_neg hb]
      simp only [field_Mul.f, hp, hrf, Bool.and_true, if_true, Option.bind_some, half_spelt hp]
      rw [if_pos hs, decide_eq_true (by omega)]
  · rw [if_neg hs, awake_true]
    simp

theorem pure_arith (a0 a1 a2 a3 : Int) (h0 : 0 ≤ a0) (h1 : 0 ≤ a1) (h2 : 0 ≤ a2) (h3 : 0 ≤ a3) (h4 : a3 < 18446744073709551616) : ∃ k, X.privitylaw01_FieldArithmetic.f k a0 a1 a2 a3 = some true := by
  obtain ⟨p, hp, hf⟩ := law_fit a0 a1 a2 a3 h0 h1 h2 h3
  have ha := inF_mod hp a1
  have hb := inF_mod hp a2
  have hw : isW a3 = true := isW_iff.2 ⟨h3, h4⟩
  have hlo := okp_lo hp
  refine ⟨2, ?_⟩
  unfold X.privitylaw01_FieldArithmetic.f
  rw [hf]
  simp only [Option.bind_some]
  generalize a1 % p = a at ha
  generalize a2 % p = b at hb
  simp only [field_Reduce.f, hp, hw, Bool.and_true, if_true, Option.bind_some, tmod_nn a3 p h3]
  rw [if_neg (by omega)]
  simp only [field_Add.f, privityref01_Add.f, field_Sub.f, privityref01_Sub.f, field_Neg.f, privityref01_Neg.f, hp, ha, hb, Bool.and_true, if_true, Option.bind_some, bne_self_eq_false]
  simp only [X.privitylaw01_FieldArithmetic.j0, awake_true, field_Mul.f, privityref01_Mul.f, field_Pow.f, privityref01_Pow.f, hp, ha, hb, hw, Bool.and_true, if_true, Option.bind_some, Bool.false_eq_true, if_false, beq_self_eq_true]
end Go.Proofs.YthlokgappehhgaaDoor
