/- Vanish and Moved of the references, over plain numbers. -/
import Derived.Test.YtkcjhcjlaefgmaaL21S
import Derived.Test.YtkcjhcjlaefgmaaQ3
namespace Go.Proofs.Ytkcjhcjlaefgmaa.L21
open Go.RowKit Go.Proofs.YtkcjhcjlaefgmaaW.PrintWords
set_option linter.unusedVariables false
set_option linter.unusedSimpArgs false

theorem invF_in {p a : Int} (hp : okp p = true) : inF p (invF p a).1 = true := by
  unfold invF
  split
  · exact inF_zero hp
  · exact inF_mod hp _
theorem ginv {p a : Int} (hp : okp p = true) (ha : inF p a = true) : privityref01_Inverse.f p a = some (invF p a) := by unfold privityref01_Inverse.f; rw [hp, ha]; rfl
/-- out times 1 + c X. -/
def vnew (p c : Int) (out : List Int) : List Int := padd p out (0 :: pscale p c out)
theorem vnew_length (p c : Int) (out : List Int) : (vnew p c out).length = out.length + 1 := by
  unfold vnew
  rw [padd_length, List.length_cons, show (pscale p c out).length = out.length by unfold pscale; simp]
  omega
theorem cons_allF {p : Int} (hp : okp p = true) {l : List Int} (h : allF p l = true) : allF p (0 :: l) = true := by
  show (inF p 0 && allF p l) = true
  rw [inF_zero hp, h]; rfl
theorem vnew_allF {p : Int} (hp : okp p = true) (c : Int) {out : List Int} (h : allF p out = true) : allF p (vnew p c out) = true :=
  padd_allF p hp _ _ h (cons_allF hp (pscale_allF p c hp _))
theorem vnew_at {p : Int} (hp : okp p = true) (c : Int) {out : List Int} (h : allF p out = true) (m : Nat) : (vnew p c out).getD m 0 = (out.getD m 0 + (if m = 0 then 0 else c * out.getD (m - 1) 0 % p)) % p := by
  unfold vnew
  rw [padd_getD p hp _ _ h (cons_allF hp (pscale_allF p c hp _))]
  cases m with
  | zero => rfl
  | succ m =>
    rw [if_neg (by omega), Nat.add_sub_cancel, ← pscale_getD]
    rfl
theorem vnew_zero {p : Int} (hp : okp p = true) (c : Int) {out : List Int} (h : allF p out = true) : (vnew p c out).getD 0 0 = out.getD 0 0 := by
  rw [vnew_at hp c h, if_pos rfl, Int.add_zero, modF (allF_getD hp h 0)]
theorem van_l1 (p c : Int) (xs out : List Int) (i : Nat) (hi : i ≤ 1000) (hp : okp p = true) (hc : inF p c = true) (ho : allF p out = true) (hl : out.length ≤ 1000) : ∀ (n j k : Nat) (new : List Int), j + n = out.length → new.length = out.length + 1 → allF p new = true →
    (∀ m, new.getD m 0 = if m ≤ j then (vnew p c out).getD m 0 else out.getD m 0) → Q.privityref10_Vanish.l1 (n + 1 + k) p xs out (i : Int) c new (j : Int) = Q.privityref10_Vanish.l0 k p xs (vnew p c out) ((i + 1 : Nat) : Int) := by
  intro n
  induction n with
  | zero =>
    intro j k new h hn hf hv
    rw [show 0 + 1 + k = k + 1 by omega]
    simp only [Q.privityref10_Vanish.l1]
    have : new = vnew p c out := by
      refine list_ext (by rw [hn, vnew_length]) fun m => ?_
      rw [hv m]
      split
      · rfl
      · rw [getD_ge (l := out) (by omega), getD_ge (l := vnew p c out) (by rw [vnew_length]; omega)]
    rw [if_neg (by omega), wrap_in (by omega) (by omega), this]
    rfl
  | succ n ih =>
    intro j k new h hn hf hv
    rw [show n + 1 + 1 + k = (n + 1 + k) + 1 by omega]
    simp only [Q.privityref10_Vanish.l1]
    have hj := hv (j + 1)
    rw [if_neg (by omega)] at hj
    rw [if_pos (by omega), wrap_in (x := (j : Int) + 1) (by omega) (by omega), if_pos (by omega), if_pos (by omega), if_pos (by omega), rd_nat, gmul hp hc (allF_getD hp ho j)]
    simp only [Option.bind_some]
    rw [show (j : Int) + 1 = ((j + 1 : Nat) : Int) by omega, rd_nat, hj, gadd hp (allF_getD hp ho _) (inF_mod hp _), Int.toNat_natCast]
    simp only [Option.bind_some]
    refine ih (j + 1) k _ (by omega) (by rw [List.length_set]; exact hn) (set_allF hf (inF_mod hp _) _) fun m => ?_
    rw [set_getD (by omega)]
    by_cases e : m = j + 1
    · subst e
      rw [if_pos rfl, if_pos (Nat.le_refl _), vnew_at hp c ho, if_neg (by omega), Nat.add_sub_cancel]
    · rw [if_neg e, hv m]
      by_cases e2 : m ≤ j
      · rw [if_pos e2, if_pos (by omega)]
      · rw [if_neg e2, if_neg (by omega)]
def vanL (p : Int) : List Int → List Int → List Int
  | [], out => out
  | x :: xs, out => vanL p xs (vnew p ((0 - (invF p x).1) % p) out)
theorem vanL_length (p : Int) : ∀ xs out : List Int, (vanL p xs out).length = out.length + xs.length
  | [], out => rfl
  | x :: xs, out => by rw [vanL, vanL_length p xs, vnew_length, List.length_cons]; omega
theorem vanL_allF {p : Int} (hp : okp p = true) : ∀ xs out : List Int, allF p out = true → allF p (vanL p xs out) = true
  | [], out, h => h
  | x :: xs, out, h => vanL_allF hp xs _ (vnew_allF hp _ h)
theorem vanL_zero {p : Int} (hp : okp p = true) : ∀ xs out : List Int, allF p out = true → (vanL p xs out).getD 0 0 = out.getD 0 0
  | [], out, h => rfl
  | x :: xs, out, h => by rw [vanL, vanL_zero hp xs _ (vnew_allF hp _ h), vnew_zero hp _ h]
theorem van_l0 (p : Int) (xs : List Int) (hp : okp p = true) (hx : allF p xs = true) (hl : xs.length ≤ 100) : ∀ (n i k : Nat) (out : List Int), i + n = xs.length → allF p out = true → out.length = i + 1 → n * (xs.length + 3) + 1 ≤ k → Q.privityref10_Vanish.l0 k p xs out (i : Int) = some (vanL p (xs.drop i) out) := by
  intro n
  induction n with
  | zero =>
    intro i k out h ho hol hk
    obtain ⟨k, rfl⟩ : ∃ q, k = q + 1 := ⟨k - 1, by omega⟩
    simp only [Q.privityref10_Vanish.l0]
    rw [if_neg (by omega), List.drop_eq_nil_of_le (by omega)]
    rfl
  | succ n ih =>
    intro i k out h ho hol hk
    rw [Nat.succ_mul] at hk
    obtain ⟨k, rfl⟩ : ∃ q, k = (out.length + 1 + q) + 1 := ⟨k - out.length - 2, by omega⟩
    simp only [Q.privityref10_Vanish.l0]
    rw [if_pos (by omega), if_pos (by omega), rd_nat, ginv hp (allF_getD hp hx i)]
    simp only [Option.bind_some]
    rw [gsub hp (inF_zero hp) (invF_in hp)]
    simp only [Option.bind_some, List.nil_append, List.length_nil]
    rw [if_pos (by omega), if_pos (by omega)]
    have h1 := van_l1 p ((0 - (invF p (xs.getD i 0)).1) % p) xs out i (by omega) hp (inF_mod hp _) ho (by omega) out.length 0 k (out ++ [0]) (by omega) (by simp) (allF_append ho (by show (inF p 0 && true) = true; rw [inF_zero hp]; rfl)) (fun m => by
      have e : (out ++ [0]).getD m 0 = out.getD m 0 := by
        by_cases hm : m < out.length
        · rw [List.getD_eq_getElem?_getD, List.getElem?_append_left hm, ← List.getD_eq_getElem?_getD]
        · rw [getD_ge (l := out) (by omega), List.getD_eq_getElem?_getD, List.getElem?_append_right (by omega)]
          by_cases h0 : m - out.length = 0
          · rw [h0]; rfl
          · rw [List.getElem?_eq_none (by simp; omega)]; rfl
      rw [e]
      split
      · rename_i h0
        obtain rfl : m = 0 := by omega
        exact (vnew_zero hp _ ho).symm
      · rfl)
    have h1' : Q.privityref10_Vanish.l1 (out.length + 1 + k) p xs out (i : Int) ((0 - (invF p (xs.getD i 0)).1) % p) (out ++ [0]) 0 = _ := h1
    rw [h1', ih (i + 1) k _ (by omega) (vnew_allF hp _ ho) (by rw [vnew_length, hol]) (by omega)]
    congr 1
    have hd : xs.drop i = xs.getD i 0 :: xs.drop (i + 1) := by
      rw [getD_lt (show i < xs.length by omega)]
      exact List.drop_eq_getElem_cons (by omega)
    rw [hd]
    rfl
theorem vanish (p : Int) (xs : List Int) (hp : okp p = true) (hx : allF p xs = true) (hl : xs.length ≤ 100) (k : Nat) (hk : xs.length * (xs.length + 3) + 1 ≤ k) : Q.privityref10_Vanish.f k p xs = some (vanL p xs [1]) := by
  have h1 : allF p [1] = true := by
    show (inF p 1 && true) = true
    rw [inF_iff.2 ⟨by omega, by have := okp_lo hp; omega⟩]; rfl
  unfold Q.privityref10_Vanish.f
  exact van_l0 p xs hp hx hl xs.length 0 k [1] (by omega) h1 rfl hk

/-! ### Moved -/
def wAt (p u v : Int) (a b z : List Int) (i : Nat) : Int := ((u * b.getD i 0 % p + v * a.getD i 0 % p) % p + (u * v % p) * z.getD i 0 % p) % p
def mAt (p u : Int) (a z : List Int) (i : Nat) : Int := (a.getD i 0 + u * z.getD i 0 % p) % p
def qAt (p : Int) (t : Nat) (r w z : List Int) (m : Nat) : Int := (r.getD m 0 + w.getD (m / t + 1) 0 * z.getD (m % t) 0 % p) % p
def upTo (f : Nat → Int) (n : Nat) : List Int := (List.range n).map f
theorem upTo_succ (f : Nat → Int) (n : Nat) : upTo f (n + 1) = upTo f n ++ [f n] := by
  unfold upTo
  rw [List.range_succ, List.map_append]; rfl
theorem upTo_length (f : Nat → Int) (n : Nat) : (upTo f n).length = n := by unfold upTo; simp
theorem upTo_at (f : Nat → Int) (n j : Nat) : (upTo f n).getD j 0 = if j < n then f j else 0 := by
  unfold upTo
  rw [List.getD_eq_getElem?_getD, List.getElem?_map]
  by_cases h : j < n
  · rw [List.getElem?_range h, if_pos h]; rfl
  · rw [List.getElem?_eq_none (by simp; omega), if_neg h]; rfl
theorem upTo_allF {p : Int} (f : Nat → Int) (h : ∀ i, inF p (f i) = true) (n : Nat) : allF p (upTo f n) = true := allF_of fun x hx => by
  obtain ⟨i, _, rfl⟩ := List.mem_map.1 hx
  exact h i
theorem moved_l0 (p : Int) (t : Nat) (a b r z : List Int) (u v : Int) (hp : okp p = true) (ht : t ≤ 1000) (ha : allF p a = true) (hb : allF p b = true) (hz : allF p z = true) (hu : inF p u = true) (hv : inF p v = true) (la : a.length = t + 1) (lb : b.length = t + 1) (lz : z.length = t + 1) : ∀ (n i k : Nat), i + n = t + 1 →
    Q.privityref21_Moved.l0 (n + 1 + k) p (t : Int) a b r z u v (upTo (wAt p u v a b z) i) (upTo (mAt p u a z) i) (upTo (mAt p v b z) i) (i : Int) = Q.privityref21_Moved.l1 k p (t : Int) r z (upTo (wAt p u v a b z) (t + 1)) (upTo (mAt p u a z) (t + 1)) (upTo (mAt p v b z) (t + 1)) [] 1 := by
  intro n
  induction n with
  | zero =>
    intro i k h
    rw [show 0 + 1 + k = k + 1 by omega]
    simp only [Q.privityref21_Moved.l0]
    rw [if_neg (by omega), show i = t + 1 by omega]
  | succ n ih =>
    intro i k h
    rw [show n + 1 + 1 + k = (n + 1 + k) + 1 by omega]
    simp only [Q.privityref21_Moved.l0]
    have fa := allF_getD hp ha i
    have fb := allF_getD hp hb i
    have fz := allF_getD hp hz i
    rw [if_pos (by omega), if_pos (by omega), if_pos (by omega), if_pos (by omega), rd_nat, rd_nat, rd_nat, gmul hp hu fz]
    simp only [Option.bind_some]
    rw [gadd hp fa (inF_mod hp _)]
    simp only [Option.bind_some]
    rw [if_pos (by rw [upTo_length]; omega), if_pos (by omega), gmul hp hv fz]
    simp only [Option.bind_some]
    rw [gadd hp fb (inF_mod hp _)]
    simp only [Option.bind_some]
    rw [if_pos (by rw [upTo_length]; omega), gmul hp hu fb]
    simp only [Option.bind_some]
    rw [gmul hp hv fa]
    simp only [Option.bind_some]
    rw [gadd hp (inF_mod hp _) (inF_mod hp _)]
    simp only [Option.bind_some]
    rw [gmul hp hu hv]
    simp only [Option.bind_some]
    rw [gmul hp (inF_mod hp _) fz]
    simp only [Option.bind_some]
    rw [gadd hp (inF_mod hp _) (inF_mod hp _)]
    simp only [Option.bind_some]
    rw [if_pos (by rw [upTo_length]; omega), wrap_in (x := (i : Int) + 1) (by omega) (by omega)]
    have := ih (i + 1) k (by omega)
    rw [upTo_succ, upTo_succ, upTo_succ] at this
    exact this
theorem moved_l2 (p : Int) (t : Nat) (r z w A B : List Int) (hp : okp p = true) (ht : t ≤ 1000) (hr : allF p r = true) (hz : allF p z = true) (hw : allF p w = true) (lr : r.length = t * t) (lw : w.length = t + 1) (lz : z.length = t + 1) (y : Nat) (hy : y < t) : ∀ (n i k : Nat), i + n = t →
    Q.privityref21_Moved.l2 (n + 1 + k) p (t : Int) r z w A B (upTo (qAt p t r w z) (y * t + i)) ((y + 1 : Nat) : Int) (i : Int) = Q.privityref21_Moved.l1 k p (t : Int) r z w A B (upTo (qAt p t r w z) ((y + 1) * t)) ((y + 2 : Nat) : Int) := by
  intro n
  have h1 : y * t ≤ 1000 * 1000 := Nat.mul_le_mul (by omega) ht
  have h2 : (y + 1) * t ≤ t * t := Nat.mul_le_mul_right _ hy
  have h3 : (y + 1) * t = y * t + t := Nat.succ_mul y t
  induction n with
  | zero =>
    intro i k h
    rw [show 0 + 1 + k = k + 1 by omega]
    simp only [Q.privityref21_Moved.l2]
    rw [if_neg (by omega), wrap_in (by omega) (by omega), h3, show i = t by omega]
    rfl
  | succ n ih =>
    intro i k h
    rw [show n + 1 + 1 + k = (n + 1 + k) + 1 by omega]
    simp only [Q.privityref21_Moved.l2]
    have e1 : ((y + 1 : Nat) : Int) - 1 = (y : Int) := by omega
    have e2 : (y : Int) * (t : Int) = ((y * t : Nat) : Int) := (Int.natCast_mul y t).symm
    rw [if_pos (by omega), e1, wrap_in (x := (y : Int)) (by omega) (by omega), e2, wrap_in (x := ((y * t : Nat) : Int)) (by omega) (by omega), wrap_in (x := ((y * t : Nat) : Int) + (i : Int)) (by omega) (by omega), show ((y * t : Nat) : Int) + (i : Int) = ((y * t + i : Nat) : Int) by omega,
      if_pos (by omega), if_pos (by omega), if_pos (by omega), if_pos (by omega), if_pos (by omega), if_pos (by omega), rd_nat, rd_nat, rd_nat, gmul hp (allF_getD hp hw _) (allF_getD hp hz i)]
    simp only [Option.bind_some]
    rw [gadd hp (allF_getD hp hr _) (inF_mod hp _)]
    simp only [Option.bind_some]
    rw [if_pos (by rw [upTo_length]; omega), wrap_in (x := (i : Int) + 1) (by omega) (by omega)]
    have := ih (i + 1) k (by omega)
    rw [← Nat.add_assoc, upTo_succ] at this
    have eq_ : qAt p t r w z (y * t + i) = (r.getD (y * t + i) 0 + w.getD (y + 1) 0 * z.getD i 0 % p) % p := by
      unfold qAt
      rw [show (y * t + i) / t = y by rw [Nat.mul_comm, Nat.mul_add_div (by omega), Nat.div_eq_of_lt (by omega)]; omega, show (y * t + i) % t = i by rw [Nat.mul_comm, Nat.mul_add_mod, Nat.mod_eq_of_lt (by omega)]]
    rw [eq_] at this
    exact this
theorem moved_l1 (p : Int) (t : Nat) (r z w A B : List Int) (hp : okp p = true) (ht : t ≤ 1000) (hr : allF p r = true) (hz : allF p z = true) (hw : allF p w = true) (lr : r.length = t * t) (lw : w.length = t + 1) (lz : z.length = t + 1) : ∀ (n y k : Nat), y + n = t →
    Q.privityref21_Moved.l1 (n * (t + 2) + 1 + k) p (t : Int) r z w A B (upTo (qAt p t r w z) (y * t)) ((y + 1 : Nat) : Int) = some (A, B, upTo (qAt p t r w z) (t * t)) := by
  intro n
  induction n with
  | zero =>
    intro y k h
    rw [show 0 * (t + 2) + 1 + k = k + 1 by omega]
    simp only [Q.privityref21_Moved.l1]
    rw [if_neg (by omega), show y = t by omega]
  | succ n ih =>
    intro y k h
    rw [show (n + 1) * (t + 2) + 1 + k = (t + 1 + (n * (t + 2) + 1 + k)) + 1 by rw [Nat.succ_mul]; omega]
    simp only [Q.privityref21_Moved.l1]
    rw [if_pos (by omega)]
    have h2 := moved_l2 p t r z w A B hp ht hr hz hw lr lw lz y (by omega) t 0 (n * (t + 2) + 1 + k) (by omega)
    refine Eq.trans h2 ?_
    exact ih (y + 1) k (by omega)
theorem wAt_in {p : Int} (hp : okp p = true) (u v : Int) (a b z : List Int) (i : Nat) : inF p (wAt p u v a b z i) = true := inF_mod hp _
theorem mAt_in {p : Int} (hp : okp p = true) (u : Int) (a z : List Int) (i : Nat) : inF p (mAt p u a z i) = true := inF_mod hp _
theorem qAt_in {p : Int} (hp : okp p = true) (t : Nat) (r w z : List Int) (i : Nat) : inF p (qAt p t r w z i) = true := inF_mod hp _
theorem moved (p : Int) (t : Nat) (a b r z : List Int) (u v : Int) (hp : okp p = true) (ht : t ≤ 1000) (ha : allF p a = true) (hb : allF p b = true) (hr : allF p r = true) (hz : allF p z = true) (hu : inF p u = true) (hv : inF p v = true) (la : a.length = t + 1) (lb : b.length = t + 1) (lr : r.length = t * t) (lz : z.length = t + 1) (k : Nat) (hk : t * (t + 2) + t + 4 ≤ k) :
    Q.privityref21_Moved.f k p (t : Int) a b r z u v = some (upTo (mAt p u a z) (t + 1), upTo (mAt p v b z) (t + 1), upTo (qAt p t r (upTo (wAt p u v a b z) (t + 1)) z) (t * t)) := by
  unfold Q.privityref21_Moved.f
  obtain ⟨q, rfl⟩ : ∃ q, k = (t + 1) + 1 + (t * (t + 2) + 1 + q) := ⟨k - (t + 2) - (t * (t + 2) + 1), by omega⟩
  have h0 := moved_l0 p t a b r z u v hp ht ha hb hz hu hv la lb lz (t + 1) 0 (t * (t + 2) + 1 + q) (by omega)
  refine Eq.trans h0 ?_
  have h1 := moved_l1 p t r z (upTo (wAt p u v a b z) (t + 1)) (upTo (mAt p u a z) (t + 1)) (upTo (mAt p v b z) (t + 1)) hp ht hr hz (upTo_allF _ (wAt_in hp u v a b z) _) lr (upTo_length _ _) lz t 0 q (by omega)
  rw [Nat.zero_mul] at h1
  exact h1
end Go.Proofs.Ytkcjhcjlaefgmaa.L21
