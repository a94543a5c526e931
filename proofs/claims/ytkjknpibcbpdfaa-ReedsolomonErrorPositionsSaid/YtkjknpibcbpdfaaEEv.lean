/- The values of polynomials, over plain numbers; the program's Eval. -/
import Derived.Test.YtkjknpibcbpdfaaEList
import Derived.Test.YtkjknpibcbpdfaaETrim
import Derived.Test.YtkjknpibcbpdfaaD1
namespace Go.Proofs.Ytkjknpibcbpdfaa.D
open Go.RowKit Go.Proofs.YtkjknpibcbpdfaaW.PrintWords
set_option linter.unusedVariables false
set_option linter.unusedSimpArgs false

theorem modF {p x : Int} (h : inF p x = true) : x % p = x := by
  have := inF_iff.1 h
  exact Int.emod_eq_of_lt this.1 this.2
theorem take_getD (a : List Int) (k j : Nat) : (a.take k).getD j 0 = if j < k then a.getD j 0 else 0 := by
  rw [List.getD_eq_getElem?_getD, List.getElem?_take, List.getD_eq_getElem?_getD]
  split <;> rfl

theorem pmul_cons_getD (p : Int) (hp : okp p = true) (x : Int) (a b : List Int) (j : Nat) : (pmul p (x :: a) b).getD j 0 = (x * b.getD j 0 + (if j = 0 then 0 else (pmul p a b).getD (j - 1) 0)) % p := by
  have hall : allF p (0 :: pmul p a b) = true := by
    show (inF p 0 && allF p (pmul p a b)) = true
    rw [pmul_allF p hp, Bool.and_true]
    exact inF_iff.2 ⟨by omega, by have := okp_lo hp; omega⟩
  simp only [pmul]
  rw [padd_getD p hp _ _ (pscale_allF p x hp _) hall, pscale_getD, Int.emod_add_emod]
  cases j with
  | zero => simp
  | succ j => simp
theorem pmul_snoc_getD (p : Int) (hp : okp p = true) (b : List Int) (x : Int) : ∀ (a : List Int) (j : Nat), (pmul p (a ++ [x]) b).getD j 0 = ((pmul p a b).getD j 0 + (if a.length ≤ j then x * b.getD (j - a.length) 0 else 0)) % p := by
  intro a
  induction a with
  | nil =>
    intro j
    show (pmul p [x] b).getD j 0 = _
    rw [pmul_cons_getD p hp]
    simp [pmul]
  | cons y a ih =>
    intro j
    show (pmul p (y :: (a ++ [x])) b).getD j 0 = _
    rw [pmul_cons_getD p hp, pmul_cons_getD p hp]
    cases j with
    | zero => simp
    | succ j =>
      simp only [Nat.succ_ne_zero, if_false, Nat.add_sub_cancel, Nat.add_one_sub_one, List.length_cons, Nat.add_le_add_iff_right, Nat.add_sub_add_right]
      rw [ih j, Int.add_emod_emod, Int.emod_add_emod, Int.add_assoc]
theorem take_succ_snoc (a : List Int) (k : Nat) (h : k < a.length) : a.take (k + 1) = a.take k ++ [a.getD k 0] := by
  rw [List.take_succ_eq_append_getElem h, List.getD_eq_getElem?_getD, List.getElem?_eq_getElem h]
  rfl

theorem getD_lt {l : List Int} {i : Nat} (h : i < l.length) : l.getD i 0 = l[i] := by rw [List.getD_eq_getElem?_getD, List.getElem?_eq_getElem h]; rfl
theorem getD_ge {l : List Int} {i : Nat} (h : l.length ≤ i) : l.getD i 0 = 0 := by rw [List.getD_eq_getElem?_getD, List.getElem?_eq_none h]; rfl
theorem list_ext {l m : List Int} (hl : l.length = m.length) (h : ∀ i, l.getD i 0 = m.getD i 0) : l = m := by
  refine List.ext_getElem hl fun i h1 h2 => ?_
  have := h i
  rwa [getD_lt h1, getD_lt h2] at this
theorem set_getD {l : List Int} {i : Nat} (h : i < l.length) (x : Int) (j : Nat) : (l.set i x).getD j 0 = if j = i then x else l.getD j 0 := by
  rw [List.getD_eq_getElem?_getD, List.getElem?_set]
  by_cases e : i = j
  · subst e; rw [if_pos rfl, if_pos h, if_pos rfl]; rfl
  · rw [if_neg e, if_neg (fun e2 => e e2.symm), ← List.getD_eq_getElem?_getD]
theorem replicate_getD (n j : Nat) : (List.replicate n (0 : Int)).getD j 0 = 0 := by
  rw [List.getD_eq_getElem?_getD, List.getElem?_replicate]
  split <;> rfl
theorem set_allF {p : Int} {l : List Int} (hl : allF p l = true) {x : Int} (hx : inF p x = true) (i : Nat) : allF p (l.set i x) = true :=
  allF_of fun y hy => by
    rcases List.mem_or_eq_of_mem_set hy with h | h
    · exact allF_mem hl h
    · exact h ▸ hx
theorem zeros_allF {p : Int} (hp : okp p = true) (n : Nat) : allF p (List.replicate n 0) = true :=
  allF_of fun y hy => by
    rw [(List.mem_replicate.1 hy).2]
    exact inF_iff.2 ⟨by omega, by have := okp_lo hp; omega⟩

/-! ### the field's operations at reduced numbers -/
theorem fmul {p a b : Int} (hp : okp p = true) (ha : inF p a = true) (hb : inF p b = true) : field_Mul.f p a b = some (a * b % p) := by unfold field_Mul.f; rw [hp, ha, hb]; rfl
theorem fadd {p a b : Int} (hp : okp p = true) (ha : inF p a = true) (hb : inF p b = true) : field_Add.f p a b = some ((a + b) % p) := by unfold field_Add.f; rw [hp, ha, hb]; rfl
theorem fsub {p a b : Int} (hp : okp p = true) (ha : inF p a = true) (hb : inF p b = true) : field_Sub.f p a b = some ((a - b) % p) := by unfold field_Sub.f; rw [hp, ha, hb]; rfl
theorem gmul {p a b : Int} (hp : okp p = true) (ha : inF p a = true) (hb : inF p b = true) : privityref01_Mul.f p a b = some (a * b % p) := by unfold privityref01_Mul.f; rw [hp, ha, hb]; rfl
theorem gadd {p a b : Int} (hp : okp p = true) (ha : inF p a = true) (hb : inF p b = true) : privityref01_Add.f p a b = some ((a + b) % p) := by unfold privityref01_Add.f; rw [hp, ha, hb]; rfl
theorem inF_pred {p : Int} (hp : okp p = true) : inF p (p - 1) = true := inF_iff.2 ⟨by have := okp_lo hp; omega, by omega⟩
theorem inF_zero {p : Int} (hp : okp p = true) : inF p 0 = true := inF_iff.2 ⟨by omega, by have := okp_lo hp; omega⟩
theorem pred_spelt {p : Int} (hp : okp p = true) : IntKind.u64.wrap (p - 1) = p - 1 := w64 _ (by have := okp_lo hp; omega) (by have := okp_hi hp; omega)

/-! ### values over the whole numbers -/
def ev : List Int → Int → Int
  | [], _ => 0
  | a :: l, x => a + x * ev l x
theorem ev_zero {p x : Int} {l : List Int} (h : ∀ j, l.getD j 0 % p = 0) : ev l x % p = 0 := by
  induction l with
  | nil => rfl
  | cons a l ih =>
    have h0 := h 0
    have hl := ih fun j => by have := h (j + 1); simpa using this
    simp only [List.getD_cons_zero] at h0
    show (a + x * ev l x) % p = 0
    rw [Int.add_emod, h0, Int.mul_emod, hl, Int.mul_zero, Int.zero_emod, Int.add_zero, Int.zero_emod]
/-- The value modulo p goes by the coefficients modulo p. -/
theorem ev_congr {p x : Int} : ∀ {l m : List Int}, (∀ j, l.getD j 0 % p = m.getD j 0 % p) → ev l x % p = ev m x % p := by
  intro l
  induction l with
  | nil => intro m h; rw [ev_zero (l := m) fun j => by rw [← h j]; rfl]; rfl
  | cons a l ih =>
    intro m h
    cases m with
    | nil => rw [ev_zero (l := a :: l) fun j => by rw [h j]; rfl]; rfl
    | cons b m =>
      have h0 := h 0
      have hl := ih (m := m) fun j => by have := h (j + 1); simpa using this
      simp only [List.getD_cons_zero] at h0
      show (a + x * ev l x) % p = (b + x * ev m x) % p
      rw [Int.add_emod, h0, Int.mul_emod x, hl, ← Int.mul_emod, ← Int.add_emod]
def addZ : List Int → List Int → List Int
  | [], b => b
  | a, [] => a
  | x :: a, y :: b => (x + y) :: addZ a b
theorem ev_addZ (x : Int) : ∀ l m : List Int, ev (addZ l m) x = ev l x + ev m x := by
  intro l
  induction l with
  | nil => intro m; simp [addZ, ev]
  | cons a l ih =>
    intro m
    cases m with
    | nil => simp [addZ, ev]
    | cons b m => simp only [addZ, ev, ih m, Int.mul_add]; omega
theorem addZ_getD : ∀ (l m : List Int) (j : Nat), (addZ l m).getD j 0 = l.getD j 0 + m.getD j 0 := by
  intro l
  induction l with
  | nil => intro m j; simp [addZ]
  | cons a l ih =>
    intro m j
    cases m with
    | nil => simp [addZ]
    | cons b m =>
      cases j with
      | zero => simp [addZ]
      | succ j => simpa [addZ] using ih m j
theorem ev_map_mul (k x : Int) (l : List Int) : ev (l.map (k * ·)) x = k * ev l x := by
  induction l with
  | nil => simp [ev]
  | cons a l ih => simp only [List.map_cons, ev, ih, Int.mul_add]; rw [Int.mul_left_comm]
theorem ev_shift (x : Int) (n : Nat) (l : List Int) : ev (List.replicate n 0 ++ l) x = x ^ n * ev l x := by
  induction n with
  | zero => simp
  | succ n ih =>
    show 0 + x * ev (List.replicate n 0 ++ l) x = _
    rw [ih, Int.pow_succ, Int.zero_add, Int.mul_assoc (x ^ n), Int.mul_left_comm]
theorem shift_getD (n : Nat) (l : List Int) (j : Nat) : (List.replicate n 0 ++ l).getD j 0 = if n ≤ j then l.getD (j - n) 0 else 0 := by
  rw [List.getD_eq_getElem?_getD, List.getElem?_append, List.length_replicate, List.getD_eq_getElem?_getD]
  split
  · rw [if_neg (by omega), List.getElem?_replicate, if_pos (by omega)]; rfl
  · rw [if_pos (by omega)]
theorem map_mul_getD (k : Int) (l : List Int) (j : Nat) : (l.map (k * ·)).getD j 0 = k * l.getD j 0 := by
  rw [List.getD_eq_getElem?_getD, List.getElem?_map, List.getD_eq_getElem?_getD]
  cases l[j]? <;> simp
theorem ev_trimL (p x : Int) (l : List Int) : ev (trimL l) x % p = ev l x % p := ev_congr fun j => by rw [trimL_getD]
theorem ev_padd (p x : Int) (hp : okp p = true) (a b : List Int) (ha : allF p a = true) (hb : allF p b = true) : ev (padd p a b) x % p = (ev a x + ev b x) % p := by
  rw [← ev_addZ]
  exact ev_congr fun j => by rw [padd_getD p hp a b ha hb, addZ_getD, Int.emod_emod_of_dvd _ (Int.dvd_refl p)]
theorem ev_pscale (p x y : Int) (b : List Int) : ev (pscale p y b) x % p = y * ev b x % p := by
  rw [← ev_map_mul]
  exact ev_congr fun j => by rw [pscale_getD, map_mul_getD, Int.emod_emod_of_dvd _ (Int.dvd_refl p)]
theorem ev_pmul (p x : Int) (hp : okp p = true) (a b : List Int) : ev (pmul p a b) x % p = ev a x * ev b x % p := by
  induction a with
  | nil => simp [pmul, ev]
  | cons y a ih =>
    have hall : allF p (0 :: pmul p a b) = true := by
      show (inF p 0 && allF p (pmul p a b)) = true
      rw [pmul_allF p hp, Bool.and_true]
      exact inF_zero hp
    simp only [pmul]
    rw [ev_padd p x hp _ _ (pscale_allF p y hp b) hall, Int.add_emod, ev_pscale]
    simp only [ev, Int.zero_add]
    rw [Int.mul_emod x, ih, ← Int.mul_emod, ← Int.add_emod, Int.add_mul, Int.mul_assoc]
theorem ev_append (x : Int) (l m : List Int) : ev (l ++ m) x = ev l x + x ^ l.length * ev m x := by
  induction l with
  | nil => simp [ev]
  | cons a l ih =>
    simp only [List.cons_append, ev, ih, List.length_cons, Int.pow_succ, Int.mul_add]
    rw [Int.mul_comm (x ^ l.length) x, Int.mul_assoc]
    omega

/-! ### Eval -/
theorem drop_ev (f : List Int) (x : Int) (i : Nat) (h : i < f.length) : ev (f.drop i) x = f.getD i 0 + x * ev (f.drop (i + 1)) x := by
  rw [List.drop_eq_getElem_cons h, getD_lt h]
  rfl
theorem p_eval_l (p x : Int) (hp : okp p = true) (hx : inF p x = true) (f : List Int) (hf : allF p f = true) (hl : f.length ≤ 1000000) : ∀ (i k : Nat), i ≤ f.length → i < k →
    D.poly_Eval.l0 k p f x (ev (f.drop i) x % p) ((i : Int) - 1) = some (ev f x % p) := by
  intro i
  induction i with
  | zero =>
    intro k hi hk
    obtain ⟨k, rfl⟩ : ∃ m, k = m + 1 := ⟨k - 1, by omega⟩
    simp only [D.poly_Eval.l0]
    rw [if_neg (by omega), List.drop_zero]
  | succ i ih =>
    intro k hi hk
    obtain ⟨k, rfl⟩ : ∃ m, k = m + 1 := ⟨k - 1, by omega⟩
    simp only [D.poly_Eval.l0]
    rw [if_pos (by omega), fmul hp (inF_mod hp _) hx]
    simp only [Option.bind_some]
    rw [show ((i + 1 : Nat) : Int) - 1 = (i : Int) by omega, if_pos (by omega), if_pos (by omega), rd_nat, fadd hp (inF_mod hp _) (allF_getD hp hf i)]
    simp only [Option.bind_some]
    rw [wrap_in (by omega) (by omega)]
    have e : (ev (f.drop (i + 1)) x % p * x % p + f.getD i 0) % p = ev (f.drop i) x % p := by
      rw [drop_ev f x i (by omega), Int.add_comm, Int.add_emod_emod, Int.mul_comm, Int.add_emod, Int.mul_emod x, Int.emod_emod_of_dvd _ (Int.dvd_refl p), ← Int.mul_emod, ← Int.add_emod]
    rw [e]
    exact ih k (by omega) (by omega)
theorem p_eval (p x : Int) (hp : okp p = true) (hx : inF p x = true) (f : List Int) (hf : allF p f = true) (hl : f.length ≤ 1000000) (k : Nat) (hk : f.length < k) : D.poly_Eval.f k p f x = some (ev f x % p) := by
  unfold D.poly_Eval.f
  rw [wrap_in (by omega) (by omega)]
  have := p_eval_l p x hp hx f hf hl f.length k (Nat.le_refl _) hk
  rwa [List.drop_length, show ev [] x % p = 0 from Int.zero_emod p] at this

/-! ### Equal -/
end Go.Proofs.Ytkjknpibcbpdfaa.D
