/- The law ProductProofZeroKnowledge over plain numbers and lists. -/
import Derived.Test.YtkcjhcjlaefgmaaL21F
import Derived.Test.YtkcjhcjlaefgmaaFermat
import Derived.Test.YtkcjhcjlaefgmaaQ4
import Derived.Test.YtkcjhcjlaefgmaaQ5
namespace Go.Proofs.Ytkcjhcjlaefgmaa.L21
open Go.RowKit Go.Proofs.YtkcjhcjlaefgmaaW.PrintWords
set_option linter.unusedVariables false
set_option linter.unusedSimpArgs false

def ev : List Int → Int → Int
  | [], _ => 0
  | a :: l, x => a + x * ev l x
theorem drop_ev (f : List Int) (x : Int) (i : Nat) (h : i < f.length) : ev (f.drop i) x = f.getD i 0 + x * ev (f.drop (i + 1)) x := by
  rw [List.drop_eq_getElem_cons h, getD_lt h]
  rfl
theorem p_eval_l (p x : Int) (hp : okp p = true) (hx : inF p x = true) (f : List Int) (hf : allF p f = true) (hl : f.length ≤ 1000000) : ∀ (i k : Nat), i ≤ f.length → i < k →
    Q.poly_Eval.l0 k p f x (ev (f.drop i) x % p) ((i : Int) - 1) = some (ev f x % p) := by
  intro i
  induction i with
  | zero =>
    intro k hi hk
    obtain ⟨k, rfl⟩ : ∃ m, k = m + 1 := ⟨k - 1, by omega⟩
    simp only [Q.poly_Eval.l0]
    rw [if_neg (by omega), List.drop_zero]
  | succ i ih =>
    intro k hi hk
    obtain ⟨k, rfl⟩ : ∃ m, k = m + 1 := ⟨k - 1, by omega⟩
    simp only [Q.poly_Eval.l0]
    rw [if_pos (by omega), fmul hp (inF_mod hp _) hx]
    simp only [Option.bind_some]
    rw [show ((i + 1 : Nat) : Int) - 1 = (i : Int) by omega, if_pos (by omega), if_pos (by omega), rd_nat, fadd hp (inF_mod hp _) (allF_getD hp hf i)]
    simp only [Option.bind_some]
    rw [wrap_in (by omega) (by omega)]
    have e : (ev (f.drop (i + 1)) x % p * x % p + f.getD i 0) % p = ev (f.drop i) x % p := by
      rw [drop_ev f x i (by omega), Int.add_comm, Int.add_emod_emod, Int.mul_comm, Int.add_emod, Int.mul_emod x, Int.emod_emod_of_dvd _ (Int.dvd_refl p), ← Int.mul_emod, ← Int.add_emod]
    rw [e]
    exact ih k (by omega) (by omega)
theorem p_eval (p x : Int) (hp : okp p = true) (hx : inF p x = true) (f : List Int) (hf : allF p f = true) (hl : f.length ≤ 1000000) (k : Nat) (hk : f.length < k) : Q.poly_Eval.f k p f x = some (ev f x % p) := by
  unfold Q.poly_Eval.f
  rw [wrap_in (by omega) (by omega)]
  have := p_eval_l p x hp hx f hf hl f.length k (Nat.le_refl _) hk
  rwa [List.drop_length, show ev [] x % p = 0 from Int.zero_emod p] at this

/-! ### values, and how they change -/
theorem ev_sum (x : Int) : ∀ (l : List Int) (n : Nat), l.length ≤ n → ev l x = sumTo n (fun i => l.getD i 0 * x ^ i) := by
  intro l
  induction l with
  | nil =>
    intro n _
    have h := sumTo_more (fun i => ([] : List Int).getD i 0 * x ^ i) 0 (fun i _ => by simp) n
    rw [Nat.zero_add] at h
    rw [h]
    rfl
  | cons a l ih =>
    intro n hn
    obtain ⟨n, rfl⟩ : ∃ m, n = m + 1 := ⟨n - 1, by rw [List.length_cons] at hn; omega⟩
    rw [sumTo_left]
    have h := sumTo_lin (fun i => l.getD i 0 * x ^ i) (fun _ => 0) (fun _ => 0) x 0 0 n
    have e : sumTo n (fun i => (a :: l).getD (i + 1) 0 * x ^ (i + 1)) = sumTo n (fun i => x * (l.getD i 0 * x ^ i) + 0 * 0 + 0 * 0) := sumTo_congr fun i _ => by
      rw [List.getD_cons_succ, Int.pow_succ]
      grind
    rw [e, h, ← ih n (by rw [List.length_cons] at hn; omega)]
    show a + x * ev l x = _
    simp
theorem ev_change {p x w : Int} {e d z : List Int} (h : ∀ i, Cg p (e.getD i 0) (d.getD i 0 + w * z.getD i 0)) : Cg p (ev e x) (ev d x + w * ev z x) := by
  have n1 : e.length ≤ e.length + d.length + z.length := by omega
  have n2 : d.length ≤ e.length + d.length + z.length := by omega
  have n3 : z.length ≤ e.length + d.length + z.length := by omega
  rw [ev_sum x e _ n1, ev_sum x d _ n2, ev_sum x z _ n3]
  have hl := sumTo_lin (fun i => d.getD i 0 * x ^ i) (fun i => z.getD i 0 * x ^ i) (fun _ => 0) 1 w 0 (e.length + d.length + z.length)
  have e1 : Cg p (sumTo (e.length + d.length + z.length) fun i => e.getD i 0 * x ^ i) (sumTo (e.length + d.length + z.length) fun i => 1 * (d.getD i 0 * x ^ i) + w * (z.getD i 0 * x ^ i) + 0 * 0) := sumTo_cg fun i _ => ((h i).mul (Cg.rfl' _ _)).trans (Cg.of_eq (by grind))
  refine e1.trans (Cg.of_eq ?_)
  rw [hl]
  omega
theorem ev_vnew {p : Int} (hp : okp p = true) (c y : Int) {out : List Int} (h : allF p out = true) : Cg p (ev (vnew p c out) y) (ev out y + c * (y * ev out y)) := by
  have := ev_change (p := p) (x := y) (w := c) (e := vnew p c out) (d := out) (z := 0 :: out) (fun i => by
    rw [vnew_at hp c h]
    refine (Cg.mod _ _).trans ((Cg.rfl' _ _).add ?_)
    cases i with
    | zero => exact Cg.of_eq (by simp)
    | succ i =>
      rw [if_neg (by omega), Nat.add_sub_cancel]
      exact Cg.mod _ _)
  refine this.trans (Cg.of_eq ?_)
  show _ = _
  simp only [ev]
  grind
theorem vanL_root {p : Int} (hp : okp p = true) (y : Int) : ∀ (xs out : List Int), allF p out = true → (∀ x ∈ xs, inF p x = true ∧ x ≠ 0) → (Cg p (ev out y) 0 ∨ y ∈ xs) → Cg p (ev (vanL p xs out) y) 0
  | [], out, _, _, h => h.elim id (fun h => by cases h)
  | x :: xs, out, ho, hx, h => by
    refine vanL_root hp y xs _ (vnew_allF hp _ ho) (fun z hz => hx z (List.mem_cons_of_mem _ hz)) ?_
    have hv := ev_vnew hp ((0 - (invF p x).1) % p) y ho
    rcases h with h | h
    · left
      refine hv.trans ((h.add ((Cg.rfl' _ _).mul ((Cg.rfl' p y).mul h))).trans (Cg.of_eq (by simp)))
    · rcases List.mem_cons.1 h with rfl | h
      · left
        obtain ⟨h1, h2⟩ := hx y (List.mem_cons_self ..)
        have hi := inv_mul hp h1 h2
        have h3 : Cg p (y * (invF p y).1) 1 := Cg.of_emod (by rw [hi, Int.emod_eq_of_lt (by omega) (by have := okp_lo hp; omega)])
        refine hv.trans ?_
        obtain ⟨q, hq⟩ := h3
        obtain ⟨s, hs⟩ := Cg.mod p (0 - (invF p y).1)
        exact ⟨s * y * ev out y - q * ev out y, by rw [hs]; grind⟩
      · right; exact h
theorem neg_mod {p u : Int} (hp : okp p = true) (hu : inF p u = true) : field_Neg.f p u = some (-u % p) := by unfold field_Neg.f; rw [hp, hu]; rfl
theorem in_eq {p a b : Int} (hp : okp p = true) (ha : inF p a = true) (hb : inF p b = true) (h : Cg p a b) : a = b := by
  have := h.emod
  rwa [modF ha, modF hb] at this
theorem undo_m (p : Int) (t : Nat) (a z : List Int) (u : Int) (hp : okp p = true) (ha : allF p a = true) (la : a.length = t + 1) : upTo (mAt p (-u % p) (upTo (mAt p u a z) (t + 1)) z) (t + 1) = a := by
  refine list_ext (by rw [upTo_length, la]) fun i => ?_
  rw [upTo_at]
  split
  · rename_i h
    refine in_eq hp (mAt_in hp _ _ _ _) (allF_getD hp ha i) ?_
    unfold mAt
    rw [upTo_at, if_pos h]
    obtain ⟨q1, h1⟩ := Cg.mod p ((a.getD i 0 + u * z.getD i 0 % p) % p + -u % p * z.getD i 0 % p)
    obtain ⟨q2, h2⟩ := Cg.mod p (a.getD i 0 + u * z.getD i 0 % p)
    obtain ⟨q3, h3⟩ := Cg.mod p (u * z.getD i 0)
    obtain ⟨q4, h4⟩ := Cg.mod p (-u % p * z.getD i 0)
    obtain ⟨q5, h5⟩ := Cg.mod p (-u)
    refine ⟨q1 + q2 + q3 + q4 + q5 * z.getD i 0, ?_⟩
    rw [h1, h2, h3, h4, h5]
    grind
  · rw [getD_ge (by omega)]
theorem w_neg (p : Int) (t : Nat) (a b z : List Int) (u v : Int) (i : Nat) (hi : i < t + 1) : Cg p (wAt p (-u % p) (-v % p) (upTo (mAt p u a z) (t + 1)) (upTo (mAt p v b z) (t + 1)) z i) (- wAt p u v a b z i) := by
  have hm : ∀ (x : Int) (l : List Int), Cg p ((upTo (mAt p x l z) (t + 1)).getD i 0) (l.getD i 0 + x * z.getD i 0) := fun x l => by
    rw [upTo_at, if_pos hi]
    exact (Cg.mod _ _).trans ((Cg.rfl' _ _).add (Cg.mod _ _))
  have hw : ∀ (x y : Int) (l m : List Int), Cg p (wAt p x y l m z i) (x * m.getD i 0 + y * l.getD i 0 + x * y * z.getD i 0) := fun x y l m =>
    (Cg.mod _ _).trans (Cg.add ((Cg.mod _ _).trans ((Cg.mod _ _).add (Cg.mod _ _))) ((Cg.mod _ _).trans ((Cg.mod _ _).mul (Cg.rfl' _ _))))
  have h1 := hw (-u % p) (-v % p) (upTo (mAt p u a z) (t + 1)) (upTo (mAt p v b z) (t + 1))
  have h2 := (((Cg.mod p (-u)).mul (hm v b)).add ((Cg.mod p (-v)).mul (hm u a))).add (((Cg.mod p (-u)).mul (Cg.mod p (-v))).mul (Cg.rfl' p (z.getD i 0)))
  refine (h1.trans h2).trans ?_
  obtain ⟨q, hq⟩ := hw u v a b
  exact ⟨q, by rw [hq]; grind⟩
theorem undo_q (p : Int) (t : Nat) (a b r z : List Int) (u v : Int) (hp : okp p = true) (hr : allF p r = true) (lr : r.length = t * t) : upTo (qAt p t (upTo (qAt p t r (upTo (wAt p u v a b z) (t + 1)) z) (t * t)) (upTo (wAt p (-u % p) (-v % p) (upTo (mAt p u a z) (t + 1)) (upTo (mAt p v b z) (t + 1)) z) (t + 1)) z) (t * t) = r := by
  refine list_ext (by rw [upTo_length, lr]) fun m => ?_
  rw [upTo_at]
  split
  · rename_i h
    have hd : m / t < t := Nat.div_lt_of_lt_mul h
    refine in_eq hp (qAt_in hp _ _ _ _ _) (allF_getD hp hr m) ?_
    have h1 : ∀ r w, Cg p (qAt p t r w z m) (r.getD m 0 + w.getD (m / t + 1) 0 * z.getD (m % t) 0) := fun r w => (Cg.mod _ _).trans ((Cg.rfl' _ _).add (Cg.mod _ _))
    refine (h1 _ _).trans ?_
    rw [upTo_at, if_pos h, upTo_at, if_pos (by omega)]
    have h2 := h1 r (upTo (wAt p u v a b z) (t + 1))
    rw [upTo_at, if_pos (by omega)] at h2
    refine (h2.add ((w_neg p t a b z u v (m / t + 1) (by omega)).mul (Cg.rfl' p (z.getD (m % t) 0)))).trans (Cg.of_eq (by grind))
  · rw [getD_ge (by omega)]
theorem valuesAt_l (p x : Int) (hp : okp p = true) (hx : inF p x = true) (D : List (List Int)) (aD : ∀ l ∈ D, allF p l = true) (lD : D.length ≤ 100) (sD : ∀ l ∈ D, l.length ≤ 100) : ∀ (n i k : Nat), i + n = D.length → n + 102 ≤ k → Q.privitylaw21_valuesAt.l0 k p D x ((D.take i).map fun l => ev l x % p) (i : Int) = some (D.map fun l => ev l x % p) := by
  intro n
  induction n with
  | zero =>
    intro i k h hk
    obtain ⟨k, rfl⟩ : ∃ q, k = q + 1 := ⟨k - 1, by omega⟩
    simp only [Q.privitylaw21_valuesAt.l0]
    rw [if_neg (by omega), List.take_of_length_le (by omega)]
  | succ n ih =>
    intro i k h hk
    obtain ⟨k, rfl⟩ : ∃ q, k = q + 1 := ⟨k - 1, by omega⟩
    have hi : i < D.length := by omega
    have hr : Q.rd_L2 D ((i : Nat) : Int) = D[i] := by
      unfold Q.rd_L2
      rw [Int.toNat_natCast, List.getD_eq_getElem?_getD, List.getElem?_eq_getElem hi]; rfl
    simp only [Q.privitylaw21_valuesAt.l0]
    have m1 := aD _ (List.getElem_mem hi)
    have m2 := sD _ (List.getElem_mem hi)
    rw [if_pos (by omega), if_pos (by omega), hr, p_eval p x hp hx _ m1 (by omega) k (by omega)]
    simp only [Option.bind_some]
    rw [if_pos (by rw [List.length_map, List.length_take]; omega), wrap_in (by omega) (by omega)]
    have := ih (i + 1) k (by omega) (by omega)
    rw [List.take_add_one, List.getElem?_eq_getElem hi] at this
    simp only [Option.toList_some, List.map_append, List.map_cons, List.map_nil] at this
    exact this
theorem valuesAt (p x : Int) (hp : okp p = true) (hx : inF p x = true) (D : List (List Int)) (aD : ∀ l ∈ D, allF p l = true) (lD : D.length ≤ 100) (sD : ∀ l ∈ D, l.length ≤ 100) (k : Nat) (hk : 300 ≤ k) : Q.privitylaw21_valuesAt.f k p D x = some (D.map fun l => ev l x % p) := by
  unfold Q.privitylaw21_valuesAt.f
  exact valuesAt_l p x hp hx D aD lD sD D.length 0 k (by omega) (by omega)
/-- What has changed by a multiple of Z has the same value at a root. -/
theorem root_same {p x w : Int} {e d z : List Int} (t : Nat) (le : e.length ≤ t + 1) (ld : d.length ≤ t + 1) (lz : z.length = t + 1) (h : ∀ i, i ≤ t → Cg p (e.getD i 0) (d.getD i 0 + w * z.getD i 0)) (hz : Cg p (ev z x) 0) : ev e x % p = ev d x % p := by
  refine (Cg.trans (ev_change (w := w) (z := z) (d := d) fun i => ?_) ?_).emod
  · by_cases hi : i ≤ t
    · exact h i hi
    · rw [getD_ge (l := e) (by omega), getD_ge (l := d) (by omega), getD_ge (l := z) (by omega)]
      exact Cg.of_eq (by simp)
  · exact ((Cg.rfl' _ _).add ((Cg.rfl' p w).mul hz)).trans (Cg.of_eq (by simp))
theorem zk_loop0 (p a1 : Int) (a b r xs : List Int) (U V : Int) (x1 : Int) (hp : okp p = true) (hl : xs.length ≤ 100) (hin : (∀ x ∈ xs, x ≠ 0) → ∀ m, 500 ≤ m → Q.privitylaw21_ProductProofZeroKnowledge.l0 (m + 1) (xs.length : Int) p a1 a b r xs U V p x1 a b r = some true) : ∀ (n i m : Nat), i + n = xs.length → (∀ x ∈ xs.take i, x ≠ 0) → 500 ≤ m → Q.privitylaw21_ProductProofZeroKnowledge.l0 (n + 1 + m) (i : Int) p a1 a b r xs U V p x1 a b r = some true := by
  intro n
  induction n with
  | zero =>
    intro i m h hz hm
    rw [show 0 + 1 + m = m + 1 by omega, show i = xs.length by omega]
    exact hin (by rwa [List.take_of_length_le (by omega)] at hz) m hm
  | succ n ih =>
    intro i m h hz hm
    rw [show n + 1 + 1 + m = (n + 1 + m) + 1 by omega]
    simp only [Q.privitylaw21_ProductProofZeroKnowledge.l0]
    rw [if_pos (by omega), if_pos (by omega), rd_nat]
    split
    · rw [awake _ (by omega)]
      rfl
    · rename_i h0
      rw [wrap_in (by omega) (by omega)]
      refine ih (i + 1) m (by omega) (fun x hx => ?_) hm
      rw [take_succ_snoc xs i (by omega)] at hx
      rcases List.mem_append.1 hx with hx | hx
      · exact hz x hx
      · rw [List.mem_singleton.1 hx]; exact h0
theorem zk_l1 (p : Int) (t : Nat) (a b r z xs : List Int) (u v U V : Int) (D E : List (List Int)) (c f : List Int) (F : Fit p t a b r) (hu : inF p u = true) (hv : inF p v = true) (az : allF p z = true) (lz : z.length = t + 1) (z0 : z.getD 0 0 = 1) (ax : allF p xs = true) (lx : xs.length ≤ 4) (hroot : ∀ x ∈ xs, Cg p (ev z x) 0)
    (lD : D.length = t) (lE : E.length = t) (aD : ∀ l ∈ D, allF p l = true) (aE : ∀ l ∈ E, allF p l = true) (rD : ∀ l ∈ D, l.length = t + 1) (rE : ∀ l ∈ E, l.length = t + 1) (ac : allF p c = true) (af : allF p f = true) (lc : c.length = t + 1) (lf : f.length = t + 1)
    (hT : ∀ k, k < t → ∀ i, i ≤ t → Cg p ((E.getD k []).getD i 0) ((D.getD k []).getD i 0 + (upTo (wAt p u v a b z) (t + 1)).getD (k + 1) 0 * z.getD i 0)) (hC : ∀ i, i ≤ t → Cg p (f.getD i 0) (c.getD i 0 + (upTo (wAt p u v a b z) (t + 1)).getD 0 0 * z.getD i 0)) (hf0 : Cg p (f.getD 0 0) ((upTo (mAt p u a z) (t + 1)).getD 0 0 * (upTo (mAt p v b z) (t + 1)).getD 0 0)) :
    ∀ (n i m : Nat), i + n = xs.length → n + 400 ≤ m → Q.privitylaw21_ProductProofZeroKnowledge.l1 m u v z (upTo (mAt p u a z) (t + 1)) (upTo (mAt p v b z) (t + 1)) (upTo (qAt p t r (upTo (wAt p u v a b z) (t + 1)) z) (t * t)) D c E f (i : Int) p (t : Int) a b r xs U V p (t : Int) a b r = some true := by
  obtain ⟨hp, h1, h4, la, lb, lr, ha, hb, hr⟩ := F
  have a1 := upTo_allF (mAt p u a z) (mAt_in hp u a z) (t + 1)
  have b1 := upTo_allF (mAt p v b z) (mAt_in hp v b z) (t + 1)
  have r1 := upTo_allF (qAt p t r (upTo (wAt p u v a b z) (t + 1)) z) (qAt_in hp t r _ z) (t * t)
  have la1 := upTo_length (mAt p u a z) (t + 1)
  have lb1 := upTo_length (mAt p v b z) (t + 1)
  have lr1 := upTo_length (qAt p t r (upTo (wAt p u v a b z) (t + 1)) z) (t * t)
  have m2 : t * (t + 2) ≤ 4 * 6 := Nat.mul_le_mul (by omega) (by omega)
  have m3 : t * t ≤ 4 * 4 := Nat.mul_le_mul (by omega) (by omega)
  intro n
  induction n with
  | zero =>
    intro i m h hm
    obtain ⟨m, rfl⟩ : ∃ q, m = q + 1 := ⟨m - 1, by omega⟩
    simp only [Q.privitylaw21_ProductProofZeroKnowledge.l1]
    rw [if_neg (by omega), neg_mod hp hu]
    simp only [Option.bind_some]
    rw [neg_mod hp hv]
    simp only [Option.bind_some]
    rw [moved p t _ _ _ z (-u % p) (-v % p) hp (by omega) a1 b1 r1 az (inF_mod hp _) (inF_mod hp _) la1 lb1 lr1 lz m (by omega), undo_m p t a z u hp ha la, undo_m p t b z v hp hb lb, undo_q p t a b r z u v hp hr lr]
    simp only [Option.bind_some]
    have ra : rd a 0 = a.getD 0 0 := rfl
    have rb : rd b 0 = b.getD 0 0 := rfl
    have rf : rd f 0 = f.getD 0 0 := rfl
    rw [if_pos (by omega), ra, fadd hp (allF_getD hp ha 0) hu]
    simp only [Option.bind_some]
    rw [if_pos (by omega), rb, fadd hp (allF_getD hp hb 0) hv]
    simp only [Option.bind_some]
    rw [fmul hp (inF_mod hp _) (inF_mod hp _)]
    simp only [Option.bind_some]
    rw [awake m (by omega)]
    simp only [Option.bind_some, if_true]
    have e0 : f.getD 0 0 = (a.getD 0 0 + u) % p * ((b.getD 0 0 + v) % p) % p := by
      refine in_eq hp (allF_getD hp af 0) (inF_mod hp _) (hf0.trans ?_)
      rw [upTo_at, upTo_at, if_pos (by omega), if_pos (by omega)]
      unfold mAt
      rw [z0, Int.mul_one, Int.mul_one, modF hu, modF hv]
      exact (Cg.mod _ _).symm
    rw [if_pos (by omega), rf, e0, if_pos rfl, sameList a (by omega) m (by omega)]
    simp only [Option.bind_some, if_true]
    rw [sameList b (by omega) m (by omega)]
    simp only [Option.bind_some, if_true]
    rw [sameList r (by omega) m (by omega)]
    rfl
  | succ n ih =>
    intro i m h hm
    obtain ⟨m, rfl⟩ : ∃ q, m = q + 1 := ⟨m - 1, by omega⟩
    have hx := allF_getD hp ax i
    have hxm : xs.getD i 0 ∈ xs := by rw [getD_lt (show i < xs.length by omega)]; exact List.getElem_mem _
    have hzx := hroot _ hxm
    have eT : E.map (fun l => ev l (xs.getD i 0) % p) = D.map (fun l => ev l (xs.getD i 0) % p) := by
      refine List.ext_getElem (by simp [lD, lE]) fun k k1 k2 => ?_
      rw [List.getElem_map, List.getElem_map]
      have kE : k < E.length := by simpa using k1
      have kD : k < D.length := by simpa using k2
      have := hT k (by omega)
      rw [List.getD_eq_getElem?_getD (l := E), List.getD_eq_getElem?_getD (l := D), List.getElem?_eq_getElem kE, List.getElem?_eq_getElem kD] at this
      exact root_same t (Nat.le_of_eq (rE _ (List.getElem_mem kE))) (Nat.le_of_eq (rD _ (List.getElem_mem kD))) lz this hzx
    have eC : ev f (xs.getD i 0) % p = ev c (xs.getD i 0) % p := root_same t (by omega) (by omega) lz hC hzx
    have eM : ∀ (y : Int) (l : List Int), l.length = t + 1 → ev (upTo (mAt p y l z) (t + 1)) (xs.getD i 0) % p = ev l (xs.getD i 0) % p := fun y l hl => root_same (w := y) t (by rw [upTo_length]; omega) (by omega) lz (fun j hj => by
      rw [upTo_at, if_pos (by omega)]
      exact (Cg.mod _ _).trans ((Cg.rfl' _ _).add (Cg.mod _ _))) hzx
    simp only [Q.privitylaw21_ProductProofZeroKnowledge.l1]
    rw [if_pos (by omega), if_pos (by omega), rd_nat, valuesAt p _ hp hx D aD (by omega) (fun l hl => by rw [rD l hl]; omega) m (by omega)]
    simp only [Option.bind_some]
    rw [valuesAt p _ hp hx E aE (by omega) (fun l hl => by rw [rE l hl]; omega) m (by omega), eT]
    simp only [Option.bind_some]
    rw [sameList _ (by rw [List.length_map]; omega) m (by rw [List.length_map]; omega)]
    simp only [Option.bind_some, if_true]
    rw [p_eval p _ hp hx c ac (by omega) m (by omega)]
    simp only [Option.bind_some]
    rw [p_eval p _ hp hx f af (by omega) m (by omega), eC]
    simp only [Option.bind_some, if_true]
    rw [p_eval p _ hp hx _ a1 (by omega) m (by omega), eM u a la]
    simp only [Option.bind_some]
    rw [p_eval p _ hp hx a ha (by omega) m (by omega)]
    simp only [Option.bind_some, if_true]
    rw [p_eval p _ hp hx _ b1 (by omega) m (by omega), eM v b lb]
    simp only [Option.bind_some]
    rw [p_eval p _ hp hx b hb (by omega) m (by omega)]
    simp only [Option.bind_some, if_true]
    rw [wrap_in (by omega) (by omega)]
    exact ih (i + 1) m (by omega) (by omega)
theorem pure_zk (p a1 : Int) (l2 l3 l4 l5 : List Int) (U V : Int) (n2 : ∀ x ∈ l2, 0 ≤ x) (n3 : ∀ x ∈ l3, 0 ≤ x) (n4 : ∀ x ∈ l4, 0 ≤ x) (n5 : ∀ x ∈ l5, 0 ≤ x) (hU : 0 ≤ U) (hV : 0 ≤ V) : ∃ k, Q.privitylaw21_ProductProofZeroKnowledge.f k p a1 l2 l3 l4 l5 U V = some true := by
  refine ⟨1200, ?_⟩
  have off : ∀ (x : Int), Q.privitylaw21_ProductProofZeroKnowledge.j0 1200 true p a1 l2 l3 l4 l5 U V p x l2 l3 l4 = some true := by
    intro x
    simp only [Q.privitylaw21_ProductProofZeroKnowledge.j0, if_true]
    rw [awake 1199 (by omega)]
    rfl
  unfold Q.privitylaw21_ProductProofZeroKnowledge.f
  rcases valid 1200 (by omega) p a1 l2 l3 l4 n2 n3 n4 with hv | ⟨hv, t, rfl, F⟩
  · rw [hv]
    simp only [Option.bind_some, Bool.false_eq_true, if_false]
    exact off _
  rw [hv]
  simp only [Option.bind_some, if_true]
  by_cases c1 : (l5.length : Int) = (t : Int)
  case neg => rw [if_neg c1]; exact off _
  have F' := F
  obtain ⟨hp, h1, h4, la, lb, lr, ha, hb, hr⟩ := F
  have b5 : Q.privityref06_Below.f 1200 p l5 4 = some (decide (l5.length ≤ 4) && allF p l5) := below p l5 4 (by omega) n5 1200 (by omega)
  rw [if_pos c1, b5]
  simp only [Option.bind_some]
  by_cases d1 : (decide (l5.length ≤ 4) && allF p l5) = true
  case neg => rw [if_neg d1]; exact off _
  rw [if_pos d1]
  rw [Bool.and_eq_true] at d1
  obtain ⟨bb, hbb⟩ := unlike l5 (by omega) 1200 (by omega)
  rw [hbb]
  simp only [Option.bind_some]
  cases bb with
  | false => exact off _
  | true =>
    have hlo := okp_lo hp
    have m1 : l5.length * (l5.length + 3) ≤ 4 * 7 := Nat.mul_le_mul (by omega) (by omega)
    have m2 : t * (t + 2) ≤ 4 * 6 := Nat.mul_le_mul (by omega) (by omega)
    have hu := inF_mod hp U
    have hv2 := inF_mod hp V
    have hone : allF p [1] = true := by
      show (inF p 1 && true) = true
      rw [inF_iff.2 ⟨by omega, by omega⟩]; rfl
    have az := vanL_allF hp l5 [1] hone
    have z0 : (vanL p l5 [1]).getD 0 0 = 1 := vanL_zero hp l5 [1] hone
    have lz : (vanL p l5 [1]).length = t + 1 := by rw [vanL_length]; simp; omega
    simp only [Q.privitylaw21_ProductProofZeroKnowledge.j0, Bool.not_true, Bool.false_eq_true, if_false]
    have key := zk_loop0 p (t : Int) l2 l3 l4 l5 U V (t : Int) hp (by omega) (fun hne m hm => ?_) l5.length 0 (1199 - l5.length - 1) (by omega) (by simp) (by omega)
    · rw [show l5.length + 1 + (1199 - l5.length - 1) = 1199 by omega] at key
      exact key
    have hroot : ∀ x ∈ l5, Cg p (ev (vanL p l5 [1]) x) 0 := fun x hx => vanL_root hp x l5 [1] hone (fun y hy => ⟨allF_mem d1.2 hy, hne y hy⟩) (.inr hx)
    simp only [Q.privitylaw21_ProductProofZeroKnowledge.l0]
    rw [if_neg (by omega), if_neg (by omega), vanish p l5 hp d1.2 (by omega) m (by omega)]
    simp only [Option.bind_some]
    rw [tmod_nn U p hU, tmod_nn V p hV]
    generalize vanL p l5 [1] = z at az lz z0 hroot ⊢
    generalize U % p = u at hu ⊢
    generalize V % p = v at hv2 ⊢
    rw [moved p t l2 l3 l4 z u v hp (by omega) ha hb hr az hu hv2 la lb lr lz m (by omega)]
    simp only [Option.bind_some]
    obtain ⟨D, E, c, f, e1, e2, g1, g2, g3, g4, g5, g6, g7, g8, g9, g10, g11, g12, g13⟩ := both p t l2 l3 l4 z u v F' az lz
    rw [e1, e2]
    simp only [Option.bind_some]
    rw [if_pos (by omega), if_pos (by omega), wrap_in (x := (t : Int) + 1) (by omega) (by omega), if_pos (by omega), show ((f.length : Int) != (t : Int) + 1) = false by rw [g10]; simp]
    obtain ⟨m, rfl⟩ : ∃ q, m = q + 1 := ⟨m - 1, by omega⟩
    simp only [Q.privitylaw21_ProductProofZeroKnowledge.j2, Bool.false_eq_true, if_false]
    exact zk_l1 p t l2 l3 l4 z l5 u v U V D E c f F' hu hv2 az lz z0 d1.2 (by omega) hroot g1 g2 g3 g4 g5 g6 g7 g8 g9 g10 g11 g12 g13 l5.length 0 m (by omega) (by omega)
end Go.Proofs.Ytkcjhcjlaefgmaa.L21
