/- Evaluation and division of polynomials: the program's functions and the reference's come to one answer, and what that answer is. -/
import Derived.Test.YtkcjhcjlaefgmaaPolyP
import Derived.Test.YtkcjhcjlaefgmaaFermat
namespace Go.Proofs.Ytkcjhcjlaefgmaa
open Go.RowKit Go.Proofs.YtkcjhcjlaefgmaaW.PrintWords
set_option linter.unusedVariables false
set_option linter.unusedSimpArgs false

/-! ### values over the whole numbers -/
def ev : List Int → Int → Int
  | [], _ => 0
  | a :: l, x => a + x * ev l x
theorem ev_zero {p x : Int} {l : List Int} (h : ∀ j, l.getD j 0 % p = 0) : ev l x % p = 0 := by
  induction l with
  | nil => rfl
  | cons a l ih =>
    have h0 := h 0
    have hl := ih fun j => by have := h (j + 1); simpa using this
    simp only [List.getD_cons_zero] at h0
    show (a + x * ev l x) % p = 0
    rw [Int.add_emod, h0, Int.mul_emod, hl, Int.mul_zero, Int.zero_emod, Int.add_zero, Int.zero_emod]
/-- The value modulo p goes by the coefficients modulo p. -/
theorem ev_congr {p x : Int} : ∀ {l m : List Int}, (∀ j, l.getD j 0 % p = m.getD j 0 % p) → ev l x % p = ev m x % p := by
  intro l
  induction l with
  | nil => intro m h; rw [ev_zero (l := m) fun j => by rw [← h j]; rfl]; rfl
  | cons a l ih =>
    intro m h
    cases m with
    | nil => rw [ev_zero (l := a :: l) fun j => by rw [h j]; rfl]; rfl
    | cons b m =>
      have h0 := h 0
      have hl := ih (m := m) fun j => by have := h (j + 1); simpa using this
      simp only [List.getD_cons_zero] at h0
      show (a + x * ev l x) % p = (b + x * ev m x) % p
      rw [Int.add_emod, h0, Int.mul_emod x, hl, ← Int.mul_emod, ← Int.add_emod]
def addZ : List Int → List Int → List Int
  | [], b => b
  | a, [] => a
  | x :: a, y :: b => (x + y) :: addZ a b
theorem ev_addZ (x : Int) : ∀ l m : List Int, ev (addZ l m) x = ev l x + ev m x := by
  intro l
  induction l with
  | nil => intro m; simp [addZ, ev]
  | cons a l ih =>
    intro m
    cases m with
    | nil => simp [addZ, ev]
    | cons b m => simp only [addZ, ev, ih m, Int.mul_add]; omega
theorem addZ_getD : ∀ (l m : List Int) (j : Nat), (addZ l m).getD j 0 = l.getD j 0 + m.getD j 0 := by
  intro l
  induction l with
  | nil => intro m j; simp [addZ]
  | cons a l ih =>
    intro m j
    cases m with
    | nil => simp [addZ]
    | cons b m =>
      cases j with
      | zero => simp [addZ]
      | succ j => simpa [addZ] using ih m j
theorem ev_map_mul (k x : Int) (l : List Int) : ev (l.map (k * ·)) x = k * ev l x := by
  induction l with
  | nil => simp [ev]
  | cons a l ih => simp only [List.map_cons, ev, ih, Int.mul_add]; rw [Int.mul_left_comm]
theorem ev_shift (x : Int) (n : Nat) (l : List Int) : ev (List.replicate n 0 ++ l) x = x ^ n * ev l x := by
  induction n with
  | zero => simp
  | succ n ih =>
    show 0 + x * ev (List.replicate n 0 ++ l) x = _
    rw [ih, Int.pow_succ, Int.zero_add, Int.mul_assoc (x ^ n), Int.mul_left_comm]
theorem shift_getD (n : Nat) (l : List Int) (j : Nat) : (List.replicate n 0 ++ l).getD j 0 = if n ≤ j then l.getD (j - n) 0 else 0 := by
  rw [List.getD_eq_getElem?_getD, List.getElem?_append, List.length_replicate, List.getD_eq_getElem?_getD]
  split
  · rw [if_neg (by omega), List.getElem?_replicate, if_pos (by omega)]; rfl
  · rw [if_pos (by omega)]
theorem map_mul_getD (k : Int) (l : List Int) (j : Nat) : (l.map (k * ·)).getD j 0 = k * l.getD j 0 := by
  rw [List.getD_eq_getElem?_getD, List.getElem?_map, List.getD_eq_getElem?_getD]
  cases l[j]? <;> simp
theorem ev_trimL (p x : Int) (l : List Int) : ev (trimL l) x % p = ev l x % p := ev_congr fun j => by rw [trimL_getD]
theorem ev_padd (p x : Int) (hp : okp p = true) (a b : List Int) (ha : allF p a = true) (hb : allF p b = true) : ev (padd p a b) x % p = (ev a x + ev b x) % p := by
  rw [← ev_addZ]
  exact ev_congr fun j => by rw [padd_getD p hp a b ha hb, addZ_getD, Int.emod_emod_of_dvd _ (Int.dvd_refl p)]
theorem ev_pscale (p x y : Int) (b : List Int) : ev (pscale p y b) x % p = y * ev b x % p := by
  rw [← ev_map_mul]
  exact ev_congr fun j => by rw [pscale_getD, map_mul_getD, Int.emod_emod_of_dvd _ (Int.dvd_refl p)]
theorem ev_pmul (p x : Int) (hp : okp p = true) (a b : List Int) : ev (pmul p a b) x % p = ev a x * ev b x % p := by
  induction a with
  | nil => simp [pmul, ev]
  | cons y a ih =>
    have hall : allF p (0 :: pmul p a b) = true := by
      show (inF p 0 && allF p (pmul p a b)) = true
      rw [pmul_allF p hp, Bool.and_true]
      exact inF_zero hp
    simp only [pmul]
    rw [ev_padd p x hp _ _ (pscale_allF p y hp b) hall, Int.add_emod, ev_pscale]
    simp only [ev, Int.zero_add]
    rw [Int.mul_emod x, ih, ← Int.mul_emod, ← Int.add_emod, Int.add_mul, Int.mul_assoc]
theorem ev_append (x : Int) (l m : List Int) : ev (l ++ m) x = ev l x + x ^ l.length * ev m x := by
  induction l with
  | nil => simp [ev]
  | cons a l ih =>
    simp only [List.cons_append, ev, ih, List.length_cons, Int.pow_succ, Int.mul_add]
    rw [Int.mul_comm (x ^ l.length) x, Int.mul_assoc]
    omega

/-! ### Eval -/
theorem drop_ev (f : List Int) (x : Int) (i : Nat) (h : i < f.length) : ev (f.drop i) x = f.getD i 0 + x * ev (f.drop (i + 1)) x := by
  rw [List.drop_eq_getElem_cons h, getD_lt h]
  rfl
theorem p_eval_l (p x : Int) (hp : okp p = true) (hx : inF p x = true) (f : List Int) (hf : allF p f = true) (hl : f.length ≤ 1000000) : ∀ (i k : Nat), i ≤ f.length → i < k →
    X.poly_Eval.l0 k p f x (ev (f.drop i) x % p) ((i : Int) - 1) = some (ev f x % p) := by
  intro i
  induction i with
  | zero =>
    intro k hi hk
    obtain ⟨k, rfl⟩ : ∃ m, k = m + 1 := ⟨k - 1, by omega⟩
    simp only [X.poly_Eval.l0]
    rw [if_neg (by omega), List.drop_zero]
  | succ i ih =>
    intro k hi hk
    obtain ⟨k, rfl⟩ : ∃ m, k = m + 1 := ⟨k - 1, by omega⟩
    simp only [X.poly_Eval.l0]
    rw [if_pos (by omega), fmul hp (inF_mod hp _) hx]
    simp only [Option.bind_some]
    rw [show ((i + 1 : Nat) : Int) - 1 = (i : Int) by omega, if_pos (by omega), if_pos (by omega), rd_nat, fadd hp (inF_mod hp _) (allF_getD hp hf i)]
    simp only [Option.bind_some]
    rw [wrap_in (by omega) (by omega)]
    have e : (ev (f.drop (i + 1)) x % p * x % p + f.getD i 0) % p = ev (f.drop i) x % p := by
      rw [drop_ev f x i (by omega), Int.add_comm, Int.add_emod_emod, Int.mul_comm, Int.add_emod, Int.mul_emod x, Int.emod_emod_of_dvd _ (Int.dvd_refl p), ← Int.mul_emod, ← Int.add_emod]
    rw [e]
    exact ih k (by omega) (by omega)
theorem p_eval (p x : Int) (hp : okp p = true) (hx : inF p x = true) (f : List Int) (hf : allF p f = true) (hl : f.length ≤ 1000000) (k : Nat) (hk : f.length < k) : X.poly_Eval.f k p f x = some (ev f x % p) := by
  unfold X.poly_Eval.f
  rw [wrap_in (by omega) (by omega)]
  have := p_eval_l p x hp hx f hf hl f.length k (Nat.le_refl _) hk
  rwa [List.drop_length, show ev [] x % p = 0 from Int.zero_emod p] at this

/-! ### Equal -/
theorem r04_equal_l (l : List Int) (hl : l.length ≤ 1099511627776) : ∀ (d i k : Nat), l.length - i = d → i ≤ l.length → d < k → X.privityref04_Equal.l0 k l l (i : Int) = some true := by
  intro d
  induction d with
  | zero =>
    intro i k hd hi hk
    obtain ⟨k, rfl⟩ : ∃ m, k = m + 1 := ⟨k - 1, by omega⟩
    simp only [X.privityref04_Equal.l0]
    rw [if_neg (by omega)]
  | succ d ih =>
    intro i k hd hi hk
    obtain ⟨k, rfl⟩ : ∃ m, k = m + 1 := ⟨k - 1, by omega⟩
    simp only [X.privityref04_Equal.l0]
    rw [if_pos (by omega), if_pos (by omega), if_pos (by omega)]
    simp only [if_true]
    rw [wrap_in (by omega) (by omega)]
    exact ih (i + 1) k (by omega) (by omega) (by omega)
theorem r04_equal (l : List Int) (hl : l.length ≤ 1099511627776) (k : Nat) (hk : l.length < k) : X.privityref04_Equal.f k l l = some true := by
  unfold X.privityref04_Equal.f
  rw [if_pos rfl]
  exact r04_equal_l l hl l.length 0 k (by omega) (by omega) hk

/-! ### one step of the division -/
def elimL (p : Int) (at_ : Nat) (kk : Int) (b r : List Int) : List Int := (List.range r.length).map fun j => (r.getD j 0 - (if at_ ≤ j then kk * b.getD (j - at_) 0 else 0)) % p
theorem elimL_length (p : Int) (at_ : Nat) (kk : Int) (b r : List Int) : (elimL p at_ kk b r).length = r.length := by unfold elimL; simp
theorem elimL_getD (p : Int) (at_ : Nat) (kk : Int) (b r : List Int) (hl : at_ + b.length ≤ r.length) (j : Nat) : (elimL p at_ kk b r).getD j 0 = (r.getD j 0 - (if at_ ≤ j then kk * b.getD (j - at_) 0 else 0)) % p := by
  by_cases h : j < r.length
  · rw [getD_lt (by rw [elimL_length]; exact h)]
    unfold elimL
    rw [List.getElem_map, List.getElem_range]
  · rw [getD_ge (by rw [elimL_length]; omega), getD_ge (l := r) (by omega)]
    split
    · rw [getD_ge (l := b) (by omega)]; simp
    · simp
theorem elimL_allF (p : Int) (hp : okp p = true) (at_ : Nat) (kk : Int) (b r : List Int) : allF p (elimL p at_ kk b r) = true := by
  refine allF_of fun y hy => ?_
  unfold elimL at hy
  obtain ⟨z, _, rfl⟩ := List.mem_map.1 hy
  exact inF_mod hp _
theorem ev_elimL (p x : Int) (at_ : Nat) (kk : Int) (b r : List Int) (hl : at_ + b.length ≤ r.length) (hb : ev b x % p = 0) : ev (elimL p at_ kk b r) x % p = ev r x % p := by
  have e : ev (elimL p at_ kk b r) x % p = ev (addZ r (List.replicate at_ 0 ++ b.map (-kk * ·))) x % p := by
    refine ev_congr fun j => ?_
    rw [elimL_getD p at_ kk b r hl, addZ_getD, shift_getD, Int.emod_emod_of_dvd _ (Int.dvd_refl p)]
    congr 1
    split
    · rw [map_mul_getD, Int.neg_mul]; omega
    · omega
  rw [e, ev_addZ, ev_shift, ev_map_mul, Int.add_emod, Int.mul_emod, Int.mul_emod (-kk), hb]
  simp
theorem p_div_l1 (p : Int) (hp : okp p = true) (b : List Int) (hb : allF p b = true) (inv : Int) (q : List Int) (at_ : Nat) (kk : Int) (hk : inF p kk = true) (r0 : List Int) (hr0 : at_ + b.length ≤ r0.length) (hl : r0.length ≤ 1000000) : ∀ (d k i : Nat) (r : List Int), b.length - i = d → i ≤ b.length → r.length = r0.length → allF p r = true → d < k →
    (∀ j, r.getD j 0 = (r0.getD j 0 - (if at_ ≤ j ∧ j - at_ < i then kk * b.getD (j - at_) 0 else 0)) % p) →
    X.poly_DivMod.l1 k p b inv r q (at_ : Int) kk b (b.length : Int) (i : Int) = X.poly_DivMod.l0 (k - d - 1) p b inv (trimL (elimL p at_ kk b r0)) q := by
  intro d
  induction d with
  | zero =>
    intro k i r hd hi hr hrf hk' hrd
    obtain ⟨k, rfl⟩ : ∃ m, k = m + 1 := ⟨k - 1, by omega⟩
    simp only [X.poly_DivMod.l1]
    rw [if_neg (by omega)]
    unfold poly_Trim.f fewL
    rw [if_pos (decide_eq_true (by omega))]
    simp only [Option.bind_some]
    rw [trimL_ext (l := r) (m := elimL p at_ kk b r0) fun j => by
      rw [hrd j, elimL_getD p at_ kk b r0 hr0]
      congr 2
      by_cases h : at_ ≤ j
      · rw [if_pos h]
        by_cases h2 : j - at_ < i
        · rw [if_pos ⟨h, h2⟩]
        · rw [if_neg (by omega), getD_ge (l := b) (by omega), Int.mul_zero]
      · rw [if_neg (by omega), if_neg h]]
    rfl
  | succ d ih =>
    intro k i r hd hi hr hrf hk' hrd
    obtain ⟨k, rfl⟩ : ∃ m, k = m + 1 := ⟨k - 1, by omega⟩
    have hil : at_ + i < r.length := by omega
    simp only [X.poly_DivMod.l1]
    rw [if_pos (by omega), if_pos (by omega), if_pos (by omega), wrap_in (x := (at_ : Int) + i) (by omega) (by omega), if_pos (by omega), if_pos (by omega), rd_nat, fmul hp hk (allF_getD hp hb i)]
    simp only [Option.bind_some]
    rw [show ((at_ : Int) + (i : Int)) = ((at_ + i : Nat) : Int) by omega, rd_nat, fsub hp (allF_getD hp hrf _) (inF_mod hp _)]
    simp only [Option.bind_some]
    rw [Int.toNat_natCast, wrap_in (by omega) (by omega), show k + 1 - (d + 1) - 1 = k - d - 1 by omega]
    refine ih k (i + 1) _ (by omega) (by omega) (by rw [List.length_set]; exact hr) (set_allF hrf (inF_mod hp _) _) (by omega) fun j => ?_
    rw [set_getD hil]
    by_cases hj : j = at_ + i
    · subst hj
      rw [if_pos rfl, hrd, if_neg (by omega), if_pos (by omega), Int.sub_zero, show at_ + i - at_ = i by omega, Int.sub_emod, Int.emod_emod_of_dvd _ (Int.dvd_refl p), Int.emod_emod_of_dvd _ (Int.dvd_refl p), ← Int.sub_emod]
    · rw [if_neg hj, hrd j]
      by_cases hj2 : at_ ≤ j ∧ j - at_ < i
      · rw [if_pos hj2, if_pos (by omega)]
      · rw [if_neg hj2, if_neg (by omega)]

/-- The reference's step. -/
theorem zeros_mul (p : Int) (hp : okp p = true) (b : List Int) (n : Nat) : ∀ j, (pmul p (List.replicate n 0) b).getD j 0 = 0 := by
  induction n with
  | zero => intro j; rfl
  | succ n ih =>
    intro j
    rw [List.replicate_succ, pmul_cons_getD p hp]
    split
    · simp
    · rw [ih]; simp
theorem rep_snoc_set (n : Nat) (kk : Int) : (List.replicate (n + 1) (0 : Int)).set n kk = List.replicate n 0 ++ [kk] := by
  refine list_ext (by simp) fun j => ?_
  rw [set_getD (by simp), replicate_getD, shift_getD]
  by_cases h : j = n
  · subst h; simp
  · rw [if_neg h]
    split
    · rw [getD_ge (by simp; omega)]
    · rfl
theorem r_step (p : Int) (hp : okp p = true) (at_ : Nat) (kk : Int) (b r : List Int) (hb : allF p b = true) (hr : allF p r = true) (hl : at_ + b.length ≤ r.length) :
    psub p r (trimL (pmul p (List.replicate at_ 0 ++ [kk]) b)) = trimL (elimL p at_ kk b r) := by
  unfold psub
  refine trimL_ext fun j => ?_
  rw [padd_getD p hp _ _ hr (pscale_allF p _ hp _), pscale_getD, trimL_getD, pmul_snoc_getD p hp, zeros_mul p hp, List.length_replicate, Int.zero_add, elimL_getD p at_ kk b r hl]
  generalize (if at_ ≤ j then kk * b.getD (j - at_) 0 else 0) = y
  rw [Int.add_emod_emod, Int.add_emod, Int.mul_emod, Int.emod_emod_of_dvd _ (Int.dvd_refl p), ← Int.mul_emod, ← Int.add_emod, show r.getD j 0 + (p - 1) * y = r.getD j 0 - y + p * y by grind, Int.add_mul_emod_self_left]
end Go.Proofs.Ytkcjhcjlaefgmaa
