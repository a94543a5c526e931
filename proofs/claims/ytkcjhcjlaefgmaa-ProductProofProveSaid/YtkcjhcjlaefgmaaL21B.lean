/- Prove of the reference, over plain numbers: it comes to what the program's Prove comes to. -/
import Derived.Test.YtkcjhcjlaefgmaaL21A
namespace Go.Proofs.Ytkcjhcjlaefgmaa.L21
open Go.RowKit Go.Proofs.YtkcjhcjlaefgmaaW.PrintWords
set_option linter.unusedVariables false
set_option linter.unusedSimpArgs false

/-- The rows before the rounds. -/
def seg0 (t : Nat) (r : List Int) (i : Nat) : List Int := (r.take ((i + 1) * t)).drop (i * t) ++ [0]
def rowsI (t : Nat) (r : List Int) (n : Nat) : List (List Int) := (List.range n).map (seg0 t r)
theorem rowsI_succ (t : Nat) (r : List Int) (n : Nat) : rowsI t r (n + 1) = rowsI t r n ++ [seg0 t r n] := by
  unfold rowsI
  rw [List.range_succ, List.map_append]
  rfl
theorem rowsI_length (t : Nat) (r : List Int) (n : Nat) : (rowsI t r n).length = n := by unfold rowsI; simp
theorem rowsI_at (t : Nat) (r : List Int) (n j : Nat) (h : j < n) : (rowsI t r n).getD j [] = seg0 t r j := by
  unfold rowsI
  rw [List.getD_eq_getElem?_getD, List.getElem?_map, List.getElem?_range h]
  rfl
theorem seg0_length (t : Nat) (r : List Int) (i : Nat) (hr : r.length = t * t) (hi : i < t) : (seg0 t r i).length = t + 1 := by
  have h1 : (i + 1) * t ≤ t * t := Nat.mul_le_mul_right _ hi
  have h2 := Nat.succ_mul i t
  unfold seg0
  rw [List.length_append, List.length_drop, List.length_take, List.length_singleton]
  simp only [Nat.succ_eq_add_one] at h2
  omega
theorem r21_l0 (p : Int) (t : Nat) (ht : t ≤ 1000) (r c : List Int) (hr : r.length = t * t) : ∀ (n j k : Nat), j + n = t → Q.privityref21_Prove.l0 (n + 1 + k) p (t : Int) r c (rowsI t r j) (j : Int) = Q.privityref21_Prove.l1 k p (t : Int) c (rowsI t r t) (t : Int) := by
  intro n
  induction n with
  | zero =>
    intro j k h
    rw [show 0 + 1 + k = k + 1 by omega]
    simp only [Q.privityref21_Prove.l0]
    rw [if_neg (by omega), show j = t by omega]
  | succ n ih =>
    intro j k h
    rw [show n + 1 + 1 + k = (n + 1 + k) + 1 by omega]
    simp only [Q.privityref21_Prove.l0]
    have h1 : j * t ≤ 1000 * 1000 := Nat.mul_le_mul (by omega) ht
    have h2 : (j + 1) * t ≤ 1000 * 1000 := Nat.mul_le_mul (by omega) ht
    have h3 : (j + 1) * t ≤ t * t := Nat.mul_le_mul_right _ (by omega)
    have h4 : (j + 1) * t = j * t + t := Nat.succ_mul j t
    have e1 : (j : Int) * (t : Int) = ((j * t : Nat) : Int) := (Int.natCast_mul j t).symm
    have e2 : ((j : Int) + 1) * (t : Int) = (((j + 1) * t : Nat) : Int) := by rw [Int.natCast_mul]; rfl
    rw [if_pos (by omega), wrap_in (x := (j : Int) + 1) (by omega) (by omega), e1, e2, wrap_in (x := ((j * t : Nat) : Int)) (by omega) (by omega), wrap_in (x := (((j + 1) * t : Nat) : Int)) (by omega) (by omega)]
    simp only [Option.bind_some, Int.toNat_natCast, List.length_nil, List.nil_append]
    have hs : ((r.take ((j + 1) * t)).drop (j * t)).length = t := by rw [List.length_drop, List.length_take]; omega
    rw [if_pos (by omega), if_pos (by omega), if_pos (by omega), if_pos (by omega), if_pos (by omega), if_pos (by rw [rowsI_length]; omega)]
    have := ih (j + 1) k (by omega)
    rw [rowsI_succ] at this
    exact this
theorem r21_l2 (p : Int) (hp : okp p = true) (t : Nat) (ht : t ≤ 1000) (c f : List Int) (D : List (List Int)) (x : Nat) (hx1 : 1 ≤ x) (hx2 : x ≤ t) (hD : D.length = t) (hDf : D.getD (x - 1) [] = f) (hf : f.length = t + 1) (hc : c.length = 2 * t + 1) (af : allF p f = true) (ac : allF p c = true) :
    ∀ (n i k : Nat), i + n = t + 1 → Q.privityref21_Prove.l2 (n + 1 + k) p (t : Int) (offAt p x f i c) D (x : Int) (i : Int) = Q.privityref21_Prove.l1 k p (t : Int) (offAt p x f (t + 1) c) D ((x - 1 : Nat) : Int) := by
  intro n
  induction n with
  | zero =>
    intro i k h
    rw [show 0 + 1 + k = k + 1 by omega]
    simp only [Q.privityref21_Prove.l2]
    rw [if_neg (by omega), show i = t + 1 by omega, wrap_in (x := (x : Int) - 1) (by omega) (by omega), show (x : Int) - 1 = ((x - 1 : Nat) : Int) by omega]
  | succ n ih =>
    intro i k h
    rw [show n + 1 + 1 + k = (n + 1 + k) + 1 by omega]
    simp only [Q.privityref21_Prove.l2]
    have ex : (x : Int) - 1 = ((x - 1 : Nat) : Int) := by omega
    have exi : (x : Int) + (i : Int) = ((x + i : Nat) : Int) := by omega
    have hrd : Q.rd_L2 D ((x - 1 : Nat) : Int) = f := by unfold Q.rd_L2; rw [Int.toNat_natCast]; exact hDf
    rw [if_pos (by omega), wrap_in (x := (x : Int) + (i : Int)) (by omega) (by omega), wrap_in (x := (x : Int) - 1) (by omega) (by omega), ex, exi, hrd, if_pos (by omega), if_pos (by rw [offAt_length]; omega), if_pos (by omega), if_pos (by omega), if_pos (by omega), if_pos (by omega), rd_nat, rd_nat,
      gsub hp (allF_getD hp (offAt_allF hp x f i c ac) _) (allF_getD hp af i)]
    simp only [Option.bind_some]
    rw [wrap_in (x := (i : Int) + 1) (by omega) (by omega), Int.toNat_natCast]
    exact ih (i + 1) k (by omega)
/-- The rounds x, x - 1, .., 1. -/
def runR (p : Int) (t : Nat) (r : List Int) : Nat → List Int × List (List Int) → List Int × List (List Int)
  | 0, s => s
  | x + 1, s => runR p t r x (roundS p t r s (x + 1))
theorem r21_l1 (p : Int) (hp : okp p = true) (t : Nat) (ht : t ≤ 1000) (r : List Int) (hr : r.length = t * t) (ar : allF p r = true) : ∀ (x : Nat) (c : List Int) (D : List (List Int)) (k : Nat), x ≤ t → D.length = t → (∀ j, j < x → D.getD j [] = seg0 t r j) → c.length = 2 * t + 1 → allF p c = true →
    Q.privityref21_Prove.l1 (x * (t + 3) + 1 + k) p (t : Int) c D (x : Int) = some ((runR p t r x (c, D)).2, (runR p t r x (c, D)).1.take (t + 1)) := by
  intro x
  induction x with
  | zero =>
    intro c D k hx hD hI hc ac
    rw [show 0 * (t + 3) + 1 + k = k + 1 by omega]
    simp only [Q.privityref21_Prove.l1]
    rw [if_neg (by omega), wrap_in (by omega) (by omega), if_pos (by omega), if_pos (by omega), show ((t : Int) + 1).toNat = t + 1 by omega]
    rfl
  | succ x ih =>
    intro c D k hx hD hI hc ac
    have hlen := seg0_length t r x hr (by omega)
    rw [show (x + 1) * (t + 3) + 1 + k = (t + 1 + 1 + (x * (t + 3) + 1 + k)) + 1 by rw [Nat.succ_mul]; omega]
    simp only [Q.privityref21_Prove.l1]
    have hrd : Q.rd_L2 D ((x : Nat) : Int) = seg0 t r x := by unfold Q.rd_L2; rw [Int.toNat_natCast]; exact hI x (by omega)
    rw [if_pos (by omega), wrap_in (x := ((x + 1 : Nat) : Int) - 1) (by omega) (by omega), show ((x + 1 : Nat) : Int) - 1 = ((x : Nat) : Int) by omega, wrap_in (x := (t : Int) + ((x + 1 : Nat) : Int)) (by omega) (by omega), hrd, show (t : Int) + ((x + 1 : Nat) : Int) = ((x + 1 + t : Nat) : Int) by omega,
      if_pos (by omega), if_pos (by omega), if_pos (by omega), if_pos (by omega), if_pos (by omega), if_pos (by omega), rd_nat, Int.toNat_natCast, Int.toNat_natCast]
    have hset : (seg0 t r x).set t (c.getD (x + 1 + t) 0) = roundF t r (x + 1) c := round_set r (x + 1) t (by omega) hx hr c
    rw [hset]
    have hF := roundF_length t r (x + 1) c hr (by omega) hx
    have aF := roundF_allF hp t r (x + 1) c ar ac
    have h2 := r21_l2 p hp t ht c (roundF t r (x + 1) c) (D.set x (roundF t r (x + 1) c)) (x + 1) (by omega) hx (by rw [List.length_set]; exact hD) (by rw [Nat.add_sub_cancel, List.getD_eq_getElem?_getD, List.getElem?_set_self (by omega)]; rfl) hF hc aF ac (t + 1) 0 (x * (t + 3) + 1 + k) (by omega)
    refine h2.trans ?_
    rw [Nat.add_sub_cancel]
    exact ih _ _ k (by omega) (by rw [List.length_set]; exact hD) (fun j hj => by
      rw [List.getD_eq_getElem?_getD, List.getElem?_set_ne (by omega), ← List.getD_eq_getElem?_getD]
      exact hI j (by omega)) (by rw [offAt_length]; exact hc) (offAt_allF hp _ _ _ _ ac)
/-- The rounds do not ask what the table was. -/
theorem runR_table (p : Int) (t : Nat) (r : List Int) : ∀ (x : Nat) (c : List Int) (D D' : List (List Int)), D.length = D'.length → (∀ j, x ≤ j → D[j]? = D'[j]?) → runR p t r x (c, D) = runR p t r x (c, D') := by
  intro x
  induction x with
  | zero =>
    intro c D D' hl h
    have : D = D' := List.ext_getElem? fun j => h j (Nat.zero_le _)
    rw [this]
  | succ x ih =>
    intro c D D' hl h
    refine ih _ _ _ (by rw [Nat.add_sub_cancel, List.length_set, List.length_set]; exact hl) fun j hj => ?_
    rw [Nat.add_sub_cancel]
    by_cases e : j = x
    · subst e
      rw [List.getElem?_set, List.getElem?_set, if_pos rfl, if_pos rfl, hl]
    · rw [List.getElem?_set_ne (fun e2 => e e2.symm), List.getElem?_set_ne (fun e2 => e e2.symm)]
      exact h j (by omega)
theorem runR_downs (p : Int) (t : Nat) (r : List Int) (s : List Int × List (List Int)) : ∀ k, k ≤ t → runR p t r (t - k) ((downFirst t k).foldl (fun s x => roundS p t r s x.1) s) = runR p t r t s := by
  intro k
  induction k with
  | zero => intro _; rfl
  | succ k ih =>
    intro h
    have := ih (by omega)
    have hs : ∀ (n : Nat) (s : List Int × List (List Int)), n + 1 = t - k → runR p t r n (roundS p t r s (t - k)) = runR p t r (t - k) s := by
      intro n s e
      rw [← e]
      rfl
    rw [downFirst_succ t k h, List.foldl_append, ← this]
    exact hs (t - (k + 1)) _ (by omega)
theorem padN_trimL (l : List Int) : padN (trimL l) l.length = l := by
  have h1 := trimL_le l
  have h3 := padN_length (trimL l) l.length
  refine list_ext h3 fun i => ?_
  unfold padN
  rw [Nat.min_eq_left h1, List.take_length, List.getD_eq_getElem?_getD, List.getElem?_append]
  split
  · rw [← List.getD_eq_getElem?_getD, trimL_getD]
  · rename_i h
    rw [List.drop_replicate, ← List.getD_eq_getElem?_getD, replicate_getD, trimL_zero l i (by omega)]
theorem prove_f (p : Int) (t : Nat) (a b r : List Int) (hp : okp p = true) (ha : allF p a = true) (hb : allF p b = true) (hr : allF p r = true) (h1 : 1 ≤ t) (h2 : t ≤ 1000) (la : a.length = t + 1) (lb : b.length = t + 1) (lr : r.length = t * t) :
    productproof_Prove.f p (t : Int) a b r = some ((runR p t r t (pmul p a b, List.replicate t [])).2, (runR p t r t (pmul p a b, List.replicate t [])).1.take (t + 1)) := by
  unfold productproof_Prove.f
  rw [hp, ha, hb, hr, Int.toNat_natCast, decide_eq_true (by omega), decide_eq_true (by omega), decide_eq_true (by omega), decide_eq_true (by omega), decide_eq_true lr]
  have hl := pmul_len p b (by omega) a (by omega)
  have hpad : padN (trimL (pmul p a b)) (2 * t + 1) = pmul p a b := by rw [show 2 * t + 1 = (pmul p a b).length by omega]; exact padN_trimL _
  rw [hpad]
  have := runR_downs p t r (pmul p a b, List.replicate t []) t (Nat.le_refl _)
  rw [Nat.sub_self] at this
  simp only [Bool.and_self, if_true]
  unfold roundsS
  rw [← this]
  rfl
theorem r21_prove (p : Int) (t : Nat) (a b r : List Int) (hp : okp p = true) (ha : allF p a = true) (hb : allF p b = true) (hr : allF p r = true) (h1 : 1 ≤ t) (h2 : t ≤ 1000) (la : a.length = t + 1) (lb : b.length = t + 1) (lr : r.length = t * t) (k : Nat) (hk : (t + 1) * (t + 5) + 5 ≤ k) :
    Q.privityref21_Prove.f k p (t : Int) a b r = some ((runR p t r t (pmul p a b, List.replicate t [])).2, (runR p t r t (pmul p a b, List.replicate t [])).1.take (t + 1)) := by
  have hm1 : (t + 1) * (t + 5) = t * (t + 5) + t + 5 := by rw [Nat.succ_mul]; omega
  have hm2 : t * (t + 5) = t * (t + 3) + 2 * t := by rw [show t + 5 = (t + 3) + 2 by omega, Nat.mul_add, Nat.mul_comm t 2]
  have hm3 : (t + 1) * (t + 3) = t * (t + 3) + t + 3 := by rw [Nat.succ_mul]; omega
  have hm4 : a.length * (b.length + 2) = (t + 1) * (t + 3) := by rw [la, lb]
  unfold Q.privityref21_Prove.f
  rw [r21_mul p hp a b ha hb (by omega) (by omega) (by omega) (by omega) k (by omega)]
  simp only [Option.bind_some]
  have hl := pmul_len p b (by omega) a (by omega)
  obtain ⟨q, rfl⟩ : ∃ q, k = t + 1 + (t * (t + 3) + 1 + q) := ⟨k - (t + 1) - (t * (t + 3) + 1), by omega⟩
  have e0 := r21_l0 p t h2 r (pmul p a b) lr t 0 (t * (t + 3) + 1 + q) (by omega)
  refine Eq.trans e0 ?_
  rw [r21_l1 p hp t h2 r lr hr t (pmul p a b) (rowsI t r t) q (Nat.le_refl _) (rowsI_length _ _ _) (fun j hj => rowsI_at t r t j hj) (by omega) (pmul_allF p hp _ _)]
  rw [runR_table p t r t (pmul p a b) (rowsI t r t) (List.replicate t []) (by rw [rowsI_length, List.length_replicate]) (fun j hj => by
    rw [List.getElem?_eq_none (by rw [rowsI_length]; exact hj), List.getElem?_eq_none (by rw [List.length_replicate]; exact hj)])]
/-- The table's shape. -/
theorem runR_shape (p : Int) (t : Nat) (r : List Int) (hr : r.length = t * t) : ∀ (x : Nat) (c : List Int) (D : List (List Int)), x ≤ t → D.length = t → (∀ j, x ≤ j → j < t → (D.getD j []).length = t + 1) → c.length = 2 * t + 1 →
    (runR p t r x (c, D)).2.length = t ∧ (∀ j, j < t → ((runR p t r x (c, D)).2.getD j []).length = t + 1) ∧ (runR p t r x (c, D)).1.length = 2 * t + 1 := by
  intro x
  induction x with
  | zero => intro c D _ hD h hc; exact ⟨hD, fun j hj => h j (Nat.zero_le _) hj, hc⟩
  | succ x ih =>
    intro c D hx hD h hc
    refine ih _ _ (by omega) (by rw [Nat.add_sub_cancel, List.length_set]; exact hD) (fun j hj hjt => ?_) (by rw [offAt_length]; exact hc)
    rw [Nat.add_sub_cancel]
    by_cases e : j = x
    · subst e
      rw [List.getD_eq_getElem?_getD, List.getElem?_set_self (show j < D.length by omega)]
      exact roundF_length t r (j + 1) c hr (by omega) hx
    · rw [List.getD_eq_getElem?_getD, List.getElem?_set_ne (fun e2 => e e2.symm), ← List.getD_eq_getElem?_getD]
      exact h j (by omega) hjt
end Go.Proofs.Ytkcjhcjlaefgmaa.L21
