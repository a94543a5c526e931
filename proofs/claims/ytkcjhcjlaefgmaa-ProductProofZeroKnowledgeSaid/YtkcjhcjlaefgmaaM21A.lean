/- Laws 21 over plain numbers: what the guards and the comparisons say. -/
import Derived.Test.YtkcjhcjlaefgmaaQ2
namespace Go.Proofs.Ytkcjhcjlaefgmaa.L21
open Go.RowKit Go.Proofs.YtkcjhcjlaefgmaaW.PrintWords
set_option linter.unusedVariables false
set_option linter.unusedSimpArgs false

theorem getD_lt {l : List Int} {i : Nat} (h : i < l.length) : l.getD i 0 = l[i] := by rw [List.getD_eq_getElem?_getD, List.getElem?_eq_getElem h]; rfl
theorem getD_ge {l : List Int} {i : Nat} (h : l.length ≤ i) : l.getD i 0 = 0 := by rw [List.getD_eq_getElem?_getD, List.getElem?_eq_none h]; rfl
theorem list_ext {l m : List Int} (hl : l.length = m.length) (h : ∀ i, l.getD i 0 = m.getD i 0) : l = m := by
  refine List.ext_getElem hl fun i h1 h2 => ?_
  have := h i
  rwa [getD_lt h1, getD_lt h2] at this
theorem set_getD {l : List Int} {i : Nat} (h : i < l.length) (x : Int) (j : Nat) : (l.set i x).getD j 0 = if j = i then x else l.getD j 0 := by
  rw [List.getD_eq_getElem?_getD, List.getElem?_set]
  by_cases e : i = j
  · subst e; rw [if_pos rfl, if_pos h, if_pos rfl]; rfl
  · rw [if_neg e, if_neg (fun e2 => e e2.symm), ← List.getD_eq_getElem?_getD]
theorem replicate_getD (n j : Nat) : (List.replicate n (0 : Int)).getD j 0 = 0 := by
  rw [List.getD_eq_getElem?_getD, List.getElem?_replicate]
  split <;> rfl
theorem set_allF {p : Int} {l : List Int} (hl : allF p l = true) {x : Int} (hx : inF p x = true) (i : Nat) : allF p (l.set i x) = true :=
  allF_of fun y hy => by
    rcases List.mem_or_eq_of_mem_set hy with h | h
    · exact allF_mem hl h
    · exact h ▸ hx
theorem zeros_allF {p : Int} (hp : okp p = true) (n : Nat) : allF p (List.replicate n 0) = true :=
  allF_of fun y hy => by
    rw [(List.mem_replicate.1 hy).2]
    exact inF_iff.2 ⟨by omega, by have := okp_lo hp; omega⟩

theorem fmul {p a b : Int} (hp : okp p = true) (ha : inF p a = true) (hb : inF p b = true) : field_Mul.f p a b = some (a * b % p) := by unfold field_Mul.f; rw [hp, ha, hb]; rfl
theorem fadd {p a b : Int} (hp : okp p = true) (ha : inF p a = true) (hb : inF p b = true) : field_Add.f p a b = some ((a + b) % p) := by unfold field_Add.f; rw [hp, ha, hb]; rfl
theorem fsub {p a b : Int} (hp : okp p = true) (ha : inF p a = true) (hb : inF p b = true) : field_Sub.f p a b = some ((a - b) % p) := by unfold field_Sub.f; rw [hp, ha, hb]; rfl
theorem gmul {p a b : Int} (hp : okp p = true) (ha : inF p a = true) (hb : inF p b = true) : privityref01_Mul.f p a b = some (a * b % p) := by unfold privityref01_Mul.f; rw [hp, ha, hb]; rfl
theorem gadd {p a b : Int} (hp : okp p = true) (ha : inF p a = true) (hb : inF p b = true) : privityref01_Add.f p a b = some ((a + b) % p) := by unfold privityref01_Add.f; rw [hp, ha, hb]; rfl
theorem inF_zero {p : Int} (hp : okp p = true) : inF p 0 = true := inF_iff.2 ⟨by omega, by have := okp_lo hp; omega⟩
theorem gsub {p a b : Int} (hp : okp p = true) (ha : inF p a = true) (hb : inF p b = true) : privityref01_Sub.f p a b = some ((a - b) % p) := by unfold privityref01_Sub.f; rw [hp, ha, hb]; rfl
theorem pmul_len (p : Int) (b : List Int) (hb : 0 < b.length) : ∀ a : List Int, 0 < a.length → (pmul p a b).length + 1 = a.length + b.length := by
  intro a
  induction a with
  | nil => intro h; simp at h
  | cons x a ih =>
    intro _
    have hs : (pscale p x b).length = b.length := by unfold pscale; simp
    simp only [pmul, padd_length, List.length_cons, hs]
    by_cases ha : 0 < a.length
    · have := ih ha; omega
    · have : a = [] := List.length_eq_zero_iff.1 (by omega)
      subst this
      simp [pmul]
      omega
/-! ### the guards and the comparisons -/
theorem expo (k : Nat) (p : Int) (hk : 8 ≤ k) : Q.privityref01_Exponent.f k p = some (if p = 31 then 5 else if p = 127 then 7 else if p = 8191 then 13 else if p = 131071 then 17 else if p = 524287 then 19 else if p = 2147483647 then 31 else if p = 2305843009213693951 then 61 else 0) := by
  obtain ⟨k, rfl⟩ : ∃ q, k = q + 8 := ⟨k - 8, by omega⟩
  have key : ∀ (i j v e : Int), (decide (i < 7) && decide (0 ≤ i) && decide (0 ≤ IntKind.u64.wrap (rd [5, 7, 13, 17, 19, 31, 61] i)) && (IntKind.u64.wrap ((shl .u64 1 (IntKind.u64.wrap (rd [5, 7, 13, 17, 19, 31, 61] i))) - 1) == v) && (rd [5, 7, 13, 17, 19, 31, 61] i == e) && (wrap64 (i + 1) == j)) = true →
      ∀ k, Q.privityref01_Exponent.l0 (k + 1) p [5, 7, 13, 17, 19, 31, 61] i = if p = v then some e else Q.privityref01_Exponent.l0 k p [5, 7, 13, 17, 19, 31, 61] j := by
    intro i j v e h k
    simp only [Bool.and_eq_true, decide_eq_true_eq, beq_iff_eq] at h
    obtain ⟨⟨⟨⟨⟨h1, h2⟩, h3⟩, h4⟩, h5⟩, h6⟩ := h
    simp only [Q.privityref01_Exponent.l0]
    rw [if_pos (by simpa using h1), if_pos h2, if_pos h3, h4, h5, h6]
  have e0 := key 0 1 31 5 (by decide +kernel)
  have e1 := key 1 2 127 7 (by decide +kernel)
  have e2 := key 2 3 8191 13 (by decide +kernel)
  have e3 := key 3 4 131071 17 (by decide +kernel)
  have e4 := key 4 5 524287 19 (by decide +kernel)
  have e5 := key 5 6 2147483647 31 (by decide +kernel)
  have e6 := key 6 7 2305843009213693951 61 (by decide +kernel)
  have e7 : ∀ k, Q.privityref01_Exponent.l0 (k + 1) p [5, 7, 13, 17, 19, 31, 61] 7 = some 0 := by
    intro k
    simp only [Q.privityref01_Exponent.l0]
    rw [if_neg (by simp)]
  unfold Q.privityref01_Exponent.f Q.privityref01_exps.f
  simp only [Option.bind_some]
  rw [e0, e1, e2, e3, e4, e5, e6, e7]
  repeat' split
  all_goals rfl
theorem supported (k : Nat) (p : Int) (hk : 8 ≤ k) : Q.privityref01_Supported.f k p = some (okp p) := by
  unfold Q.privityref01_Supported.f
  rw [expo k p hk]
  simp only [Option.bind_some]
  congr 1
  by_cases h : okp p = true
  · rw [h]
    rcases okp_cases h with rfl | rfl | rfl | rfl | rfl | rfl | rfl <;> decide
  · have h' : okp p = false := by simpa using h
    rw [h']
    unfold okp at h'
    simp only [Bool.or_eq_false_iff, beq_eq_false_iff_ne, ne_eq] at h'
    obtain ⟨⟨⟨⟨⟨⟨h1, h2⟩, h3⟩, h4⟩, h5⟩, h6⟩, h7⟩ := h'
    rw [if_neg h1, if_neg h2, if_neg h3, if_neg h4, if_neg h5, if_neg h6, if_neg h7]
    decide
theorem below_l (p : Int) (l : List Int) (m : Nat) (hm : m ≤ 1000000) (hl : ∀ x ∈ l, 0 ≤ x) : ∀ (d i k : Nat), i + d = m + 1 → i ≤ l.length → allF p (l.take i) = true → 2 * d + 2 ≤ k →
    Q.privityref06_Below.l0 k p l (m : Int) (i : Int) = some (decide (l.length ≤ m) && allF p l) := by
  intro d
  induction d with
  | zero =>
    intro i k hd hi hf hk
    obtain ⟨k, rfl⟩ : ∃ q, k = q + 2 := ⟨k - 2, by omega⟩
    simp only [Q.privityref06_Below.l0, Q.privityref06_Below.j1]
    rw [decide_eq_false (p := (i : Int) ≤ (m : Int)) (by omega)]
    have : decide (l.length ≤ m) = false := decide_eq_false (by omega)
    simp only [Bool.false_eq_true, if_false, ite_self]
    rw [this, decide_eq_false (by omega)]
    rfl
  | succ d ih =>
    intro i k hd hi hf hk
    obtain ⟨k, rfl⟩ : ∃ q, k = q + 2 := ⟨k - 2, by omega⟩
    simp only [Q.privityref06_Below.l0, Q.privityref06_Below.j1]
    by_cases hlt : i < l.length
    · rw [if_pos (by omega), decide_eq_true (p := (i : Int) ≤ (m : Int)) (by omega), if_pos rfl, if_pos (by omega), if_pos (by omega), rd_nat]
      have hx : l.getD i 0 ∈ l := by rw [getD_lt hlt]; exact List.getElem_mem _
      have h0 := hl _ hx
      by_cases hge : l.getD i 0 ≥ p
      · rw [if_pos hge]
        have : allF p l = false := by
          rw [← Bool.not_eq_true]
          intro h
          have := (inF_iff.1 (allF_mem h hx)).2
          omega
        rw [this, Bool.and_false]
      · rw [if_neg hge, wrap_in (by omega) (by omega)]
        refine ih (i + 1) k (by omega) (by omega) ?_ (by omega)
        rw [take_succ_snoc l i hlt]
        refine allF_append hf ?_
        show (inF p (l.getD i 0) && true) = true
        rw [inF_iff.2 ⟨h0, by omega⟩]; rfl
    · rw [if_neg (by omega)]
      have e : i = l.length := by omega
      subst e
      rw [List.take_length] at hf
      simp only [Bool.false_eq_true, if_false]
      rw [hf, Bool.and_true]
      congr 1
      simp
theorem below (p : Int) (l : List Int) (m : Nat) (hm : m ≤ 1000000) (hl : ∀ x ∈ l, 0 ≤ x) (k : Nat) (hk : 2 * m + 4 ≤ k) : Q.privityref06_Below.f k p l (m : Int) = some (decide (l.length ≤ m) && allF p l) := by
  unfold Q.privityref06_Below.f
  exact below_l p l m hm hl (m + 1) 0 k (by omega) (by omega) rfl (by omega)
theorem same_l (l : List Int) (hl : l.length ≤ 1000000) : ∀ (d i k : Nat), i + d = l.length → d < k → Q.privityref06_SameList.l0 k l l (i : Int) = some true := by
  intro d
  induction d with
  | zero =>
    intro i k hd hk
    obtain ⟨k, rfl⟩ : ∃ q, k = q + 1 := ⟨k - 1, by omega⟩
    simp only [Q.privityref06_SameList.l0]
    rw [if_neg (by omega)]
  | succ d ih =>
    intro i k hd hk
    obtain ⟨k, rfl⟩ : ∃ q, k = q + 1 := ⟨k - 1, by omega⟩
    simp only [Q.privityref06_SameList.l0]
    rw [if_pos (by omega), if_pos (by omega), if_pos (by omega), if_pos trivial, wrap_in (by omega) (by omega)]
    exact ih (i + 1) k (by omega) (by omega)
theorem sameList (l : List Int) (hl : l.length ≤ 1000000) (k : Nat) (hk : l.length < k) : Q.privityref06_SameList.f k l l = some true := by
  unfold Q.privityref06_SameList.f
  rw [if_pos rfl]
  exact same_l l hl l.length 0 k (by omega) hk
theorem sameT_l (D : List (List Int)) (m : Nat) (hm : m ≤ 1000000) (hD : D.length ≤ 1000000) (hl : ∀ x ∈ D, x.length ≤ m) : ∀ (d i k : Nat), i + d = D.length → d + m + 1 < k → Q.privityref06_Same.l0 k D D (i : Int) = some true := by
  intro d
  induction d with
  | zero =>
    intro i k hd hk
    obtain ⟨k, rfl⟩ : ∃ q, k = q + 1 := ⟨k - 1, by omega⟩
    simp only [Q.privityref06_Same.l0]
    rw [if_neg (by omega)]
  | succ d ih =>
    intro i k hd hk
    obtain ⟨k, rfl⟩ : ∃ q, k = q + 1 := ⟨k - 1, by omega⟩
    have hx : (Q.rd_L2 D (i : Int)).length ≤ m := by
      unfold Q.rd_L2
      rw [Int.toNat_natCast, List.getD_eq_getElem?_getD, List.getElem?_eq_getElem (show i < D.length by omega)]
      exact hl _ (List.getElem_mem _)
    simp only [Q.privityref06_Same.l0]
    rw [if_pos (by omega), if_pos (by omega), if_pos (by omega), sameList _ (by omega) k (by omega)]
    simp only [Option.bind_some, if_true]
    rw [wrap_in (by omega) (by omega)]
    exact ih (i + 1) k (by omega) (by omega)
theorem same (D : List (List Int)) (m : Nat) (hm : m ≤ 1000000) (hD : D.length ≤ 1000000) (hl : ∀ x ∈ D, x.length ≤ m) (k : Nat) (hk : D.length + m + 1 < k) : Q.privityref06_Same.f k D D = some true := by
  unfold Q.privityref06_Same.f
  rw [if_pos rfl]
  exact sameT_l D m hm hD hl D.length 0 k (by omega) hk
theorem awake (k : Nat) (hk : 100 ≤ k) : Q.privitylaw21_awake.f k = some true :=
  at_rounds (k := 100) Q.privitylaw21_awake.mono hk (by decide +kernel)
end Go.Proofs.Ytkcjhcjlaefgmaa.L21
