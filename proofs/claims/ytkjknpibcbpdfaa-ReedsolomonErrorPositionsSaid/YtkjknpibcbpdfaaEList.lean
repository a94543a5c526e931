/- Lists of coefficients: trimming, sums, products: plain definitions and laws. -/
import Derived.Test.YtkjknpibcbpdfaaSpec
namespace Go.Proofs.Ytkjknpibcbpdfaa.D
open Go.Proofs.YtkjknpibcbpdfaaW.PrintWords

/-- A list without its trailing zeros. -/
def trimL : List Int → List Int
  | [] => []
  | a :: l => match trimL l with
    | [] => if a = 0 then [] else [a]
    | b :: t => a :: b :: t
/-- The sum, place by place. -/
def padd (p : Int) : List Int → List Int → List Int
  | [], b => b
  | a, [] => a
  | x :: a, y :: b => ((x + y) % p) :: padd p a b
/-- x times each. -/
def pscale (p x : Int) (b : List Int) : List Int := b.map fun y => x * y % p
/-- The product. -/
def pmul (p : Int) : List Int → List Int → List Int
  | [], _ => []
  | x :: a, b => padd p (pscale p x b) (0 :: pmul p a b)
/-- Few enough for memory. -/
def fewL (l : List Int) : Bool := decide (l.length ≤ 1099511627776)
def poly_Trim.f (l : List Int) : Option (List Int) := if fewL l = true then some (trimL l) else none
def poly_Add.f (p : Int) (a b : List Int) : Option (List Int) := if (okp p && allF p a && allF p b && fewL a && fewL b) = true then some (trimL (padd p a b)) else none
def poly_Mul.f (p : Int) (a b : List Int) : Option (List Int) := if (okp p && allF p a && allF p b && decide (a.length ≤ 1048576) && decide (b.length ≤ 1048576)) = true then some (trimL (pmul p a b)) else none

theorem trimL_cons_nil {a : Int} {l : List Int} (h : trimL l = []) : trimL (a :: l) = if a = 0 then [] else [a] := by
  simp only [trimL, h]
theorem trimL_cons_ne {a : Int} {l : List Int} (h : trimL l ≠ []) : trimL (a :: l) = a :: trimL l := by
  rw [trimL]
  cases e : trimL l with
  | nil => exact absurd e h
  | cons b t => rfl
/-- A trimmed list is a beginning, and what is cut off is zero. -/
theorem trimL_spec (l : List Int) : l.take (trimL l).length = trimL l ∧ (trimL l).length ≤ l.length ∧ (∀ i, (trimL l).length ≤ i → l.getD i 0 = 0) ∧ (∀ h : trimL l ≠ [], (trimL l).getLast h ≠ 0) := by
  induction l with
  | nil => exact ⟨rfl, Nat.le_refl _, fun i _ => by simp, fun h => absurd rfl h⟩
  | cons a l ih =>
    obtain ⟨h1, h2, h3, h4⟩ := ih
    by_cases e : trimL l = []
    · rw [trimL_cons_nil e]
      rw [e] at h3
      by_cases ha : a = 0
      · rw [if_pos ha]
        refine ⟨rfl, Nat.zero_le _, fun i _ => ?_, fun h => absurd rfl h⟩
        cases i with
        | zero => simpa using ha
        | succ i => simpa using h3 i (Nat.zero_le _)
      · rw [if_neg ha]
        refine ⟨by simp, by simp, fun i hi => ?_, fun _ => by simpa using ha⟩
        cases i with
        | zero => simp at hi
        | succ i => simpa using h3 i (Nat.zero_le _)
    · rw [trimL_cons_ne e]
      refine ⟨by simp [h1], by simp [h2], fun i hi => ?_, fun h => by rw [List.getLast_cons e]; exact h4 e⟩
      cases i with
      | zero => simp at hi
      | succ i => simpa using h3 i (by simpa using hi)
theorem trimL_take (l : List Int) : l.take (trimL l).length = trimL l := (trimL_spec l).1
theorem trimL_le (l : List Int) : (trimL l).length ≤ l.length := (trimL_spec l).2.1
theorem trimL_zero (l : List Int) (i : Nat) (h : (trimL l).length ≤ i) : l.getD i 0 = 0 := (trimL_spec l).2.2.1 i h
theorem trimL_last (l : List Int) (h : trimL l ≠ []) : (trimL l).getLast h ≠ 0 := (trimL_spec l).2.2.2 h
theorem trimL_getD (l : List Int) (i : Nat) : (trimL l).getD i 0 = l.getD i 0 := by
  by_cases h : i < (trimL l).length
  · have e := trimL_take l
    have hl := trimL_le l
    rw [← e]
    simp [List.getD_eq_getElem?_getD, h]
  · rw [trimL_zero l i (by omega)]
    simp [List.getD_eq_getElem?_getD, List.getElem?_eq_none (show (trimL l).length ≤ i by omega)]
/-- A list whose last number is not zero is trimmed. -/
theorem trimL_of_last {l : List Int} (h : ∀ h : l ≠ [], l.getLast h ≠ 0) : trimL l = l := by
  induction l with
  | nil => rfl
  | cons a l ih =>
    by_cases e : l = []
    · subst e
      have := h (by simp)
      simp at this
      simp [trimL, this]
    · have h' : trimL l = l := ih (fun h2 => by have := h (by simp); rwa [List.getLast_cons h2] at this)
      rw [trimL_cons_ne (by rw [h']; exact e), h']
theorem trimL_trimL (l : List Int) : trimL (trimL l) = trimL l := trimL_of_last (fun h => trimL_last l h)
/-- Two lists with the same numbers at all places have one trimmed form. -/
theorem trimL_ext {l m : List Int} (h : ∀ i, l.getD i 0 = m.getD i 0) : trimL l = trimL m := by
  have key : ∀ l m : List Int, (∀ i, l.getD i 0 = m.getD i 0) → (trimL l).length ≤ (trimL m).length := by
    intro l m h
    rcases Nat.lt_or_ge (trimL m).length (trimL l).length with hlt | hge
    · exfalso
      have hne : trimL l ≠ [] := by intro e; rw [e] at hlt; simp at hlt
      have h1 := trimL_last l hne
      rw [List.getLast_eq_getElem] at h1
      have h2 := trimL_zero m ((trimL l).length - 1) (by omega)
      rw [← h, ← trimL_getD] at h2
      rw [List.getD_eq_getElem?_getD, List.getElem?_eq_getElem (by omega)] at h2
      exact h1 h2
    · exact hge
  have hl : (trimL l).length = (trimL m).length := Nat.le_antisymm (key l m h) (key m l (fun i => (h i).symm))
  refine List.ext_getElem hl fun i h1 h2 => ?_
  have e := h i
  rw [← trimL_getD, ← trimL_getD m] at e
  rw [List.getD_eq_getElem?_getD, List.getD_eq_getElem?_getD, List.getElem?_eq_getElem h1, List.getElem?_eq_getElem h2] at e
  exact e
theorem trimL_iff {l m : List Int} : trimL l = trimL m ↔ ∀ i, l.getD i 0 = m.getD i 0 := ⟨fun h i => by rw [← trimL_getD, h, trimL_getD], trimL_ext⟩
theorem allF_getD {p : Int} (hp : okp p = true) {l : List Int} (h : allF p l = true) (i : Nat) : inF p (l.getD i 0) = true := by
  have := okp_lo hp
  by_cases hi : i < l.length
  · rw [List.getD_eq_getElem?_getD, List.getElem?_eq_getElem hi]
    exact List.all_eq_true.1 h _ (List.getElem_mem _)
  · rw [List.getD_eq_getElem?_getD, List.getElem?_eq_none (by omega)]
    exact inF_iff.2 ⟨by simp, by simpa using by omega⟩
theorem allF_of {p : Int} {l : List Int} (h : ∀ x, x ∈ l → inF p x = true) : allF p l = true := List.all_eq_true.2 h
theorem allF_mem {p : Int} {l : List Int} (h : allF p l = true) {x : Int} (hx : x ∈ l) : inF p x = true := List.all_eq_true.1 h x hx
theorem allF_of_getD {p : Int} {l : List Int} (h : ∀ i, i < l.length → inF p (l.getD i 0) = true) : allF p l = true := by
  refine allF_of fun x hx => ?_
  obtain ⟨i, hi, rfl⟩ := List.getElem_of_mem hx
  have := h i hi
  rwa [List.getD_eq_getElem?_getD, List.getElem?_eq_getElem hi] at this
theorem allF_take {p : Int} {l : List Int} (h : allF p l = true) (n : Nat) : allF p (l.take n) = true := allF_of fun _ hx => allF_mem h (List.mem_of_mem_take hx)
theorem allF_drop {p : Int} {l : List Int} (h : allF p l = true) (n : Nat) : allF p (l.drop n) = true := allF_of fun _ hx => allF_mem h (List.mem_of_mem_drop hx)
theorem allF_trimL {p : Int} {l : List Int} (h : allF p l = true) : allF p (trimL l) = true := by rw [← trimL_take]; exact allF_take h _
theorem allF_append {p : Int} {l m : List Int} (h : allF p l = true) (k : allF p m = true) : allF p (l ++ m) = true := by unfold allF at *; rw [List.all_append, h, k]; rfl

theorem padd_getD (p : Int) (hp : okp p = true) : ∀ (a b : List Int), allF p a = true → allF p b = true → ∀ i, (padd p a b).getD i 0 = (a.getD i 0 + b.getD i 0) % p := by
  have key : ∀ (l : List Int), allF p l = true → ∀ i, l.getD i 0 % p = l.getD i 0 := by
    intro l h i
    have := inF_iff.1 (allF_getD hp h i)
    exact Int.emod_eq_of_lt this.1 this.2
  intro a
  induction a with
  | nil => intro b _ hb i; simp only [padd]; rw [List.getD_nil, Int.zero_add, key b hb]
  | cons x a ih =>
    intro b ha hb i
    cases b with
    | nil => simp only [padd]; rw [List.getD_nil, Int.add_zero, key _ ha]
    | cons y b =>
      have ha' : allF p a = true := allF_drop (n := 1) ha
      have hb' : allF p b = true := allF_drop (n := 1) hb
      cases i with
      | zero => simp [padd]
      | succ i => simpa [padd] using ih b ha' hb' i
theorem padd_allF (p : Int) (hp : okp p = true) : ∀ (a b : List Int), allF p a = true → allF p b = true → allF p (padd p a b) = true := by
  intro a
  induction a with
  | nil => intro b _ hb; exact hb
  | cons x a ih =>
    intro b ha hb
    cases b with
    | nil => exact ha
    | cons y b =>
      have ha' : allF p a = true := allF_drop (n := 1) ha
      have hb' : allF p b = true := allF_drop (n := 1) hb
      have := ih b ha' hb'
      simp only [padd, allF, List.all_cons, inF_mod hp, Bool.true_and]
      exact this
theorem padd_length (p : Int) : ∀ (a b : List Int), (padd p a b).length = max a.length b.length := by
  intro a
  induction a with
  | nil => intro b; simp [padd]
  | cons x a ih =>
    intro b
    cases b with
    | nil => simp [padd]
    | cons y b => simp [padd, ih b]
theorem pscale_getD (p x : Int) (b : List Int) (i : Nat) : (pscale p x b).getD i 0 = x * b.getD i 0 % p := by
  unfold pscale
  rw [List.getD_eq_getElem?_getD, List.getElem?_map, List.getD_eq_getElem?_getD]
  cases b[i]? <;> simp
theorem pscale_allF (p x : Int) (hp : okp p = true) (b : List Int) : allF p (pscale p x b) = true := by
  refine allF_of fun y hy => ?_
  unfold pscale at hy
  obtain ⟨z, _, rfl⟩ := List.mem_map.1 hy
  exact inF_mod hp _
theorem pmul_allF (p : Int) (hp : okp p = true) (a b : List Int) : allF p (pmul p a b) = true := by
  have hlo := okp_lo hp
  induction a with
  | nil => rfl
  | cons x a ih =>
    refine padd_allF p hp _ _ (pscale_allF p x hp b) ?_
    show (inF p 0 && allF p (pmul p a b)) = true
    rw [ih, Bool.and_true]
    exact inF_iff.2 ⟨by omega, by omega⟩
end Go.Proofs.Ytkjknpibcbpdfaa.D
