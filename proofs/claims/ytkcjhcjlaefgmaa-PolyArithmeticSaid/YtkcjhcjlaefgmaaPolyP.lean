/- The printed functions on polynomials, over plain numbers: each comes to the specification of the text List. -/
import Derived.Test.YtkcjhcjlaefgmaaX4
import Derived.Test.YtkcjhcjlaefgmaaX5
import Derived.Test.YtkcjhcjlaefgmaaMul
namespace Go.Proofs.Ytkcjhcjlaefgmaa
open Go.RowKit Go.Proofs.YtkcjhcjlaefgmaaW.PrintWords
set_option linter.unusedVariables false
set_option linter.unusedSimpArgs false

theorem getD_lt {l : List Int} {i : Nat} (h : i < l.length) : l.getD i 0 = l[i] := by rw [List.getD_eq_getElem?_getD, List.getElem?_eq_getElem h]; rfl
theorem getD_ge {l : List Int} {i : Nat} (h : l.length ≤ i) : l.getD i 0 = 0 := by rw [List.getD_eq_getElem?_getD, List.getElem?_eq_none h]; rfl
theorem list_ext {l m : List Int} (hl : l.length = m.length) (h : ∀ i, l.getD i 0 = m.getD i 0) : l = m := by
  refine List.ext_getElem hl fun i h1 h2 => ?_
  have := h i
  rwa [getD_lt h1, getD_lt h2] at this
theorem set_getD {l : List Int} {i : Nat} (h : i < l.length) (x : Int) (j : Nat) : (l.set i x).getD j 0 = if j = i then x else l.getD j 0 := by
  rw [List.getD_eq_getElem?_getD, List.getElem?_set]
  by_cases e : i = j
  · subst e; rw [if_pos rfl, if_pos h, if_pos rfl]; rfl
  · rw [if_neg e, if_neg (fun e2 => e e2.symm), ← List.getD_eq_getElem?_getD]
theorem replicate_getD (n j : Nat) : (List.replicate n (0 : Int)).getD j 0 = 0 := by
  rw [List.getD_eq_getElem?_getD, List.getElem?_replicate]
  split <;> rfl
theorem set_allF {p : Int} {l : List Int} (hl : allF p l = true) {x : Int} (hx : inF p x = true) (i : Nat) : allF p (l.set i x) = true :=
  allF_of fun y hy => by
    rcases List.mem_or_eq_of_mem_set hy with h | h
    · exact allF_mem hl h
    · exact h ▸ hx
theorem zeros_allF {p : Int} (hp : okp p = true) (n : Nat) : allF p (List.replicate n 0) = true :=
  allF_of fun y hy => by
    rw [(List.mem_replicate.1 hy).2]
    exact inF_iff.2 ⟨by omega, by have := okp_lo hp; omega⟩

/-! ### the field's operations at reduced numbers -/
theorem fmul {p a b : Int} (hp : okp p = true) (ha : inF p a = true) (hb : inF p b = true) : field_Mul.f p a b = some (a * b % p) := by unfold field_Mul.f; rw [hp, ha, hb]; rfl
theorem fadd {p a b : Int} (hp : okp p = true) (ha : inF p a = true) (hb : inF p b = true) : field_Add.f p a b = some ((a + b) % p) := by unfold field_Add.f; rw [hp, ha, hb]; rfl
theorem fsub {p a b : Int} (hp : okp p = true) (ha : inF p a = true) (hb : inF p b = true) : field_Sub.f p a b = some ((a - b) % p) := by unfold field_Sub.f; rw [hp, ha, hb]; rfl
theorem gmul {p a b : Int} (hp : okp p = true) (ha : inF p a = true) (hb : inF p b = true) : privityref01_Mul.f p a b = some (a * b % p) := by unfold privityref01_Mul.f; rw [hp, ha, hb]; rfl
theorem gadd {p a b : Int} (hp : okp p = true) (ha : inF p a = true) (hb : inF p b = true) : privityref01_Add.f p a b = some ((a + b) % p) := by unfold privityref01_Add.f; rw [hp, ha, hb]; rfl
theorem inF_pred {p : Int} (hp : okp p = true) : inF p (p - 1) = true := inF_iff.2 ⟨by have := okp_lo hp; omega, by omega⟩
theorem inF_zero {p : Int} (hp : okp p = true) : inF p 0 = true := inF_iff.2 ⟨by omega, by have := okp_lo hp; omega⟩
theorem pred_spelt {p : Int} (hp : okp p = true) : IntKind.u64.wrap (p - 1) = p - 1 := w64 _ (by have := okp_lo hp; omega) (by have := okp_hi hp; omega)

/-! ### Trim, Add, Scale, Sub of the reference -/
theorem r04_trim_l (l : List Int) (hl : l.length ≤ 1099511627776) : ∀ (i k : Nat), (trimL l).length ≤ i → i ≤ l.length → i < k → X.privityref04_Trim.l0 k l (i : Int) = some (trimL l) := by
  have fin : ∀ i : Nat, i = (trimL l).length → i ≤ l.length → ((some (([] : List Int) : List Int)).bind fun y => (if 0 ≤ (i : Int) then (if (i : Int) ≤ (l.length : Int) then (if y.length + (l.take ((i : Int)).toNat).length < 17592186044416 then (some (y ++ (l.take ((i : Int)).toNat))) else (none)) else (none)) else (none))) = some (trimL l) := by
    intro i hi hle
    simp only [Option.bind_some, Int.toNat_natCast]
    rw [if_pos (by omega), if_pos (by omega), if_pos (by rw [List.length_take]; simp; omega), hi, trimL_take]
    rfl
  intro i
  induction i with
  | zero =>
    intro k h1 h2 h3
    obtain ⟨k, rfl⟩ : ∃ m, k = m + 1 := ⟨k - 1, by omega⟩
    simp only [X.privityref04_Trim.l0]
    rw [if_neg (by omega)]
    exact fin 0 (by omega) (by omega)
  | succ i ih =>
    intro k h1 h2 h3
    obtain ⟨k, rfl⟩ : ∃ m, k = m + 1 := ⟨k - 1, by omega⟩
    simp only [X.privityref04_Trim.l0]
    rw [if_pos (by omega), wrap_in (by omega) (by omega), show ((i + 1 : Nat) : Int) - 1 = (i : Int) by omega, if_pos (by omega), if_pos (by omega), rd_nat]
    by_cases hz : l.getD i 0 = 0
    · rw [if_pos hz]
      refine ih k ?_ (by omega) (by omega)
      rcases Nat.lt_or_ge i (trimL l).length with hlt | hge
      · exfalso
        have hne : trimL l ≠ [] := by intro e; rw [e] at hlt; simp at hlt
        have h4 := trimL_last l hne
        rw [List.getLast_eq_getElem] at h4
        have hi : (trimL l).length - 1 = i := by omega
        rw [← trimL_getD, getD_lt hlt] at hz
        simp only [hi] at h4
        exact h4 hz
      · exact hge
    · rw [if_neg hz]
      have : ¬ (trimL l).length ≤ i := fun h => hz (trimL_zero l i h)
      exact fin (i + 1) (by omega) h2
theorem r04_trim (l : List Int) (hl : l.length ≤ 1099511627776) (k : Nat) (hk : l.length < k) : X.privityref04_Trim.f k l = some (trimL l) := by
  unfold X.privityref04_Trim.f
  exact r04_trim_l l hl l.length k (trimL_le l) (Nat.le_refl _) hk
theorem coef_eq (l : List Int) (i : Nat) : X.privityref04_Coefficient.f l (i : Int) = some (l.getD i 0) := by
  unfold X.privityref04_Coefficient.f
  rw [if_neg (by omega)]
  by_cases h : i < l.length
  · rw [if_neg (by omega), if_pos (by omega), if_pos (by omega), rd_nat]
  · rw [if_pos (by omega), getD_ge (by omega)]

theorem r04_add_l (p : Int) (hp : okp p = true) (a b : List Int) (ha : allF p a = true) (hb : allF p b = true) (la : a.length ≤ 1000000) (lb : b.length ≤ 1000000) : ∀ (d k : Nat) (i : Nat) (acc : List Int), max a.length b.length - i = d → i ≤ max a.length b.length → acc = (padd p a b).take i → max a.length b.length + d + d + 2 < k →
    X.privityref04_Add.l0 k p a b acc (i : Int) = some (trimL (padd p a b)) := by
  intro d
  have hlen := padd_length p a b
  induction d with
  | zero =>
    intro k i acc hd hi hacc hk
    obtain ⟨k, rfl⟩ : ∃ m, k = m + 2 := ⟨k - 2, by omega⟩
    have hia : ¬ ((i : Int) < (a.length : Int)) := by omega
    have hib : ¬ ((i : Int) < (b.length : Int)) := by omega
    simp only [X.privityref04_Add.l0]
    rw [if_neg hia, decide_eq_false hib]
    simp only [X.privityref04_Add.j1, Bool.false_eq_true, if_false]
    have e : acc = padd p a b := by rw [hacc, show i = (padd p a b).length by omega, List.take_length]
    rw [e, r04_trim _ (by omega) k (by omega)]
    rfl
  | succ d ih =>
    intro k i acc hd hi hacc hk
    obtain ⟨k, rfl⟩ : ∃ m, k = m + 2 := ⟨k - 2, by omega⟩
    have hj : X.privityref04_Add.l0 (k + 2) p a b acc (i : Int) = X.privityref04_Add.j1 (k + 1) p a b acc (i : Int) true := by
      simp only [X.privityref04_Add.l0]
      by_cases hia : (i : Int) < (a.length : Int)
      · rw [if_pos hia]
      · rw [if_neg hia, decide_eq_true (by omega)]
    rw [hj]
    simp only [X.privityref04_Add.j1, if_true, coef_eq, Option.bind_some]
    rw [gadd hp (allF_getD hp ha i) (allF_getD hp hb i)]
    simp only [Option.bind_some]
    have hal : acc.length ≤ 1000000 := by rw [hacc, List.length_take]; omega
    rw [if_pos (by omega), wrap_in (by omega) (by omega)]
    refine ih k (i + 1) _ (by omega) (by omega) ?_ (by omega)
    rw [take_succ_snoc _ i (by omega), padd_getD p hp a b ha hb, hacc]
theorem r04_add (p : Int) (hp : okp p = true) (a b : List Int) (ha : allF p a = true) (hb : allF p b = true) (la : a.length ≤ 1000000) (lb : b.length ≤ 1000000) (k : Nat) (hk : 3 * (a.length + b.length) + 3 ≤ k) :
    X.privityref04_Add.f k p a b = some (trimL (padd p a b)) := by
  unfold X.privityref04_Add.f
  exact r04_add_l p hp a b ha hb la lb (max a.length b.length) k 0 [] (by omega) (by omega) rfl (by omega)

theorem r04_scale_l (p x : Int) (hp : okp p = true) (hx : inF p x = true) (b : List Int) (hb : allF p b = true) (lb : b.length ≤ 1000000) : ∀ (d k : Nat) (i : Nat) (acc : List Int), b.length - i = d → i ≤ b.length → acc = (pscale p x b).take i → b.length + d + 1 < k →
    X.privityref04_Scale.l0 k p x b acc (i : Int) = some (trimL (pscale p x b)) := by
  intro d
  have hlen : (pscale p x b).length = b.length := by unfold pscale; simp
  induction d with
  | zero =>
    intro k i acc hd hi hacc hk
    obtain ⟨k, rfl⟩ : ∃ m, k = m + 1 := ⟨k - 1, by omega⟩
    simp only [X.privityref04_Scale.l0]
    rw [if_neg (by omega)]
    have e : acc = pscale p x b := by rw [hacc, show i = (pscale p x b).length by omega, List.take_length]
    rw [e, r04_trim _ (by omega) k (by omega)]
    rfl
  | succ d ih =>
    intro k i acc hd hi hacc hk
    obtain ⟨k, rfl⟩ : ∃ m, k = m + 1 := ⟨k - 1, by omega⟩
    simp only [X.privityref04_Scale.l0]
    rw [if_pos (by omega), if_pos (by omega), rd_nat, gmul hp hx (allF_getD hp hb i)]
    simp only [Option.bind_some]
    have hal : acc.length ≤ 1000000 := by rw [hacc, List.length_take]; omega
    rw [if_pos (by omega), wrap_in (by omega) (by omega)]
    refine ih k (i + 1) _ (by omega) (by omega) ?_ (by omega)
    rw [take_succ_snoc _ i (by omega), pscale_getD, hacc]
theorem r04_scale (p x : Int) (hp : okp p = true) (hx : inF p x = true) (b : List Int) (hb : allF p b = true) (lb : b.length ≤ 1000000) (k : Nat) (hk : 2 * b.length + 2 ≤ k) :
    X.privityref04_Scale.f k p x b = some (trimL (pscale p x b)) := by
  unfold X.privityref04_Scale.f
  exact r04_scale_l p x hp hx b hb lb b.length k 0 [] (by omega) (by omega) rfl (by omega)
/-- The difference's specification. -/
def psub (p : Int) (a b : List Int) : List Int := trimL (padd p a (pscale p (p - 1) b))
theorem psub_trim (p : Int) (hp : okp p = true) (a b : List Int) (ha : allF p a = true) : trimL (padd p a (trimL (pscale p (p - 1) b))) = psub p a b := by
  have h1 := pscale_allF p (p - 1) hp b
  refine trimL_ext fun i => ?_
  rw [padd_getD p hp _ _ ha (allF_trimL h1), padd_getD p hp _ _ ha h1, trimL_getD]
theorem r04_sub (p : Int) (hp : okp p = true) (a b : List Int) (ha : allF p a = true) (hb : allF p b = true) (la : a.length ≤ 1000000) (lb : b.length ≤ 1000000) (k : Nat) (hk : 3 * (a.length + b.length) + 3 ≤ k) :
    X.privityref04_Sub.f k p a b = some (psub p a b) := by
  have h1 := pscale_allF p (p - 1) hp b
  have h2 : (trimL (pscale p (p - 1) b)).length ≤ b.length := Nat.le_trans (trimL_le _) (by unfold pscale; simp)
  unfold X.privityref04_Sub.f
  rw [pred_spelt hp, r04_scale p _ hp (inF_pred hp) b hb lb k (by omega)]
  simp only [Option.bind_some]
  rw [r04_add p hp a _ ha (allF_trimL h1) la (by omega) k (by omega), psub_trim p hp a b ha]
  rfl

/-! ### Mul of the reference -/
theorem pmul_nil (p : Int) (hp : okp p = true) (a : List Int) : trimL (pmul p a []) = [] := by
  have key : ∀ (a : List Int) (j : Nat), (pmul p a []).getD j 0 = 0 := by
    intro a
    induction a with
    | nil => intro j; rfl
    | cons x a ih =>
      intro j
      rw [pmul_cons_getD p hp, List.getD_nil]
      split
      · simp
      · rw [ih]; simp
  exact trimL_ext (m := []) fun i => by rw [key]; rfl
theorem r04_mul_l1 (p : Int) (hp : okp p = true) (a b : List Int) (ha : allF p a = true) (hb : allF p b = true) (la : a.length ≤ 1000000) (lb : b.length ≤ 1000000) (i : Nat) (hi : i < a.length) : ∀ (d k m : Nat) (c : List Int), b.length - m = d → m ≤ b.length → c.length + 1 = a.length + b.length → allF p c = true → d < k →
    (∀ j, c.getD j 0 = ((pmul p (a.take i) b).getD j 0 + (if i ≤ j ∧ j - i < m then a.getD i 0 * b.getD (j - i) 0 else 0)) % p) →
    ∃ c', c'.length + 1 = a.length + b.length ∧ allF p c' = true ∧ (∀ j, c'.getD j 0 = (pmul p (a.take (i + 1)) b).getD j 0) ∧ X.privityref04_Mul.l1 k p a b c (i : Int) (m : Int) = X.privityref04_Mul.l0 (k - d - 1) p a b c' ((i + 1 : Nat) : Int) := by
  intro d
  induction d with
  | zero =>
    intro k m c hd hm hc hcf hk hcd
    obtain ⟨k, rfl⟩ : ∃ q, k = q + 1 := ⟨k - 1, by omega⟩
    refine ⟨c, hc, hcf, fun j => ?_, ?_⟩
    · rw [hcd j, take_succ_snoc a i hi, pmul_snoc_getD p hp, List.length_take, Nat.min_eq_left (by omega)]
      by_cases hj : i ≤ j
      · rw [if_pos hj]
        by_cases hj2 : j - i < m
        · rw [if_pos ⟨hj, hj2⟩]
        · rw [if_neg (by omega), getD_ge (l := b) (by omega), Int.mul_zero]
      · rw [if_neg (by omega), if_neg hj]
    · simp only [X.privityref04_Mul.l1]
      rw [if_neg (by omega), wrap_in (by omega) (by omega)]
      rfl
  | succ d ih =>
    intro k m c hd hm hc hcf hk hcd
    obtain ⟨k, rfl⟩ : ∃ q, k = q + 1 := ⟨k - 1, by omega⟩
    have hx := allF_getD hp ha i
    have hy := allF_getD hp hb m
    have hcx := allF_getD hp hcf (i + m)
    have hcl : i + m < c.length := by omega
    have hstep : X.privityref04_Mul.l1 (k + 1) p a b c (i : Int) (m : Int) = X.privityref04_Mul.l1 k p a b (c.set (i + m) ((c.getD (i + m) 0 + a.getD i 0 * b.getD m 0 % p) % p)) (i : Int) ((m + 1 : Nat) : Int) := by
      simp only [X.privityref04_Mul.l1]
      rw [if_pos (by omega), wrap_in (by omega) (by omega), if_pos (by omega), if_pos (by omega), if_pos (by omega), if_pos (by omega), if_pos (by omega), rd_nat, rd_nat, gmul hp hx hy]
      simp only [Option.bind_some]
      rw [show ((i : Int) + (m : Int)) = ((i + m : Nat) : Int) by omega, rd_nat, gadd hp hcx (inF_mod hp _)]
      simp only [Option.bind_some]
      rw [Int.toNat_natCast, wrap_in (by omega) (by omega)]
      rfl
    obtain ⟨c', h1, h2, h3, h4⟩ := ih k (m + 1) (c.set (i + m) ((c.getD (i + m) 0 + a.getD i 0 * b.getD m 0 % p) % p)) (by omega) (by omega) (by rw [List.length_set]; exact hc) (set_allF hcf (inF_mod hp _) (i + m)) (by omega) (fun j => by
      rw [set_getD hcl]
      by_cases hj : j = i + m
      · subst hj
        rw [if_pos rfl, hcd, if_neg (by omega), if_pos (by omega), Int.add_zero, Int.emod_add_emod, Int.add_emod_emod, show i + m - i = m by omega]
      · rw [if_neg hj, hcd j]
        by_cases hj2 : i ≤ j ∧ j - i < m
        · rw [if_pos hj2, if_pos (by omega)]
        · rw [if_neg hj2, if_neg (by omega)])
    refine ⟨c', h1, h2, h3, ?_⟩
    rw [hstep, h4, show k + 1 - (d + 1) - 1 = k - d - 1 by omega]
theorem r04_mul_l0 (p : Int) (hp : okp p = true) (a b : List Int) (ha : allF p a = true) (hb : allF p b = true) (la : a.length ≤ 1000000) (lb : b.length ≤ 1000000) : ∀ (d k i : Nat) (c : List Int), a.length - i = d → i ≤ a.length → c.length + 1 = a.length + b.length → allF p c = true → d * (b.length + 2) + a.length + b.length < k →
    (∀ j, c.getD j 0 = (pmul p (a.take i) b).getD j 0) → X.privityref04_Mul.l0 k p a b c (i : Int) = some (trimL (pmul p a b)) := by
  intro d
  induction d with
  | zero =>
    intro k i c hd hi hc hcf hk hcd
    obtain ⟨k, rfl⟩ : ∃ q, k = q + 1 := ⟨k - 1, by omega⟩
    simp only [X.privityref04_Mul.l0]
    rw [if_neg (by omega), r04_trim c (by omega) k (by omega)]
    simp only [Option.bind_some]
    congr 1
    refine trimL_ext fun j => ?_
    rw [hcd j, List.take_of_length_le (by omega)]
  | succ d ih =>
    intro k i c hd hi hc hcf hk hcd
    obtain ⟨k, rfl⟩ : ∃ q, k = q + 1 := ⟨k - 1, by omega⟩
    rw [Nat.succ_mul] at hk
    simp only [X.privityref04_Mul.l0]
    rw [if_pos (by omega)]
    obtain ⟨c', h1, h2, h3, h4⟩ := r04_mul_l1 p hp a b ha hb la lb i (by omega) b.length k 0 c (by omega) (by omega) hc hcf (by omega) (fun j => by
      rw [hcd j, if_neg (by omega), Int.add_zero, modF (allF_getD hp (pmul_allF p hp _ _) j)])
    have h4' : X.privityref04_Mul.l1 k p a b c (i : Int) 0 = X.privityref04_Mul.l0 (k - b.length - 1) p a b c' ((i + 1 : Nat) : Int) := h4
    rw [h4']
    exact ih (k - b.length - 1) (i + 1) c' (by omega) (by omega) h1 h2 (by omega) h3
theorem r04_mul (p : Int) (hp : okp p = true) (a b : List Int) (ha : allF p a = true) (hb : allF p b = true) (la : a.length ≤ 1000000) (lb : b.length ≤ 1000000) (k : Nat) (hk : a.length * (b.length + 2) + a.length + b.length + 2 ≤ k) :
    X.privityref04_Mul.f k p a b = some (trimL (pmul p a b)) := by
  obtain ⟨k, rfl⟩ : ∃ q, k = q + 1 := ⟨k - 1, by omega⟩
  unfold X.privityref04_Mul.f
  by_cases h1 : a.length = 0
  · rw [if_pos (by omega)]
    have : a = [] := List.length_eq_zero_iff.1 h1
    subst this
    simp only [X.privityref04_Mul.j0, if_true]
    rfl
  · rw [if_neg (by omega)]
    by_cases h2 : b.length = 0
    · have : b = [] := List.length_eq_zero_iff.1 h2
      subst this
      simp only [X.privityref04_Mul.j0, List.length_nil]
      rw [if_pos (by decide), pmul_nil p hp]
    · have e : (((b.length : Nat) : Int) == 0) = false := by simpa using h2
      rw [e]
      simp only [X.privityref04_Mul.j0, Bool.false_eq_true, if_false]
      rw [wrap_in (x := (a.length : Int) + b.length) (by omega) (by omega), wrap_in (by omega) (by omega), if_pos (by omega), if_pos (by omega)]
      refine r04_mul_l0 p hp a b ha hb la lb a.length k 0 _ (by omega) (by omega) (by rw [List.length_replicate]; omega) (zeros_allF hp _) (by omega) (fun j => by rw [replicate_getD]; rfl)
end Go.Proofs.Ytkcjhcjlaefgmaa
