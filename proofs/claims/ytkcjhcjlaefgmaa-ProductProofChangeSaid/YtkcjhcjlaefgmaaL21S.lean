/- Sums of products, and how they change with their factors, modulo p. -/
import Derived.Test.YtkcjhcjlaefgmaaM21B
namespace Go.Proofs.Ytkcjhcjlaefgmaa.L21
open Go.RowKit Go.Proofs.YtkcjhcjlaefgmaaW.PrintWords
set_option linter.unusedVariables false
set_option linter.unusedSimpArgs false

/-- Alike modulo p. -/
def Cg (p a b : Int) : Prop := ∃ q, a = b + p * q
namespace Cg
variable {p a b c d : Int}
theorem rfl' (p a : Int) : Cg p a a := ⟨0, by grind⟩
theorem of_eq (h : a = b) : Cg p a b := ⟨0, by grind⟩
theorem symm (h : Cg p a b) : Cg p b a := by obtain ⟨q, h⟩ := h; exact ⟨-q, by grind⟩
theorem trans (h : Cg p a b) (k : Cg p b c) : Cg p a c := by obtain ⟨q, h⟩ := h; obtain ⟨r, k⟩ := k; exact ⟨q + r, by grind⟩
theorem add (h : Cg p a b) (k : Cg p c d) : Cg p (a + c) (b + d) := by obtain ⟨q, h⟩ := h; obtain ⟨r, k⟩ := k; exact ⟨q + r, by grind⟩
theorem sub (h : Cg p a b) (k : Cg p c d) : Cg p (a - c) (b - d) := by obtain ⟨q, h⟩ := h; obtain ⟨r, k⟩ := k; exact ⟨q - r, by grind⟩
theorem mul (h : Cg p a b) (k : Cg p c d) : Cg p (a * c) (b * d) := by obtain ⟨q, h⟩ := h; obtain ⟨r, k⟩ := k; exact ⟨q * d + b * r + p * q * r, by grind⟩
theorem mod (p a : Int) : Cg p (a % p) a := ⟨-(a / p), by have := Int.mul_ediv_add_emod a p; grind⟩
theorem emod (h : Cg p a b) : a % p = b % p := by obtain ⟨q, rfl⟩ := h; exact Int.add_mul_emod_self_left ..
theorem of_emod (h : a % p = b % p) : Cg p a b := ((mod p a).symm.trans (of_eq h)).trans (mod p b)
end Cg

/-- h 0 + .. + h (n - 1) -/
def sumTo : Nat → (Nat → Int) → Int
  | 0, _ => 0
  | n + 1, h => sumTo n h + h n
theorem sumTo_congr {h h' : Nat → Int} : ∀ {n : Nat}, (∀ i, i < n → h i = h' i) → sumTo n h = sumTo n h'
  | 0, _ => rfl
  | n + 1, e => by rw [sumTo, sumTo, sumTo_congr (n := n) (fun i hi => e i (by omega)), e n (by omega)]
theorem sumTo_cg {p : Int} {h h' : Nat → Int} : ∀ {n : Nat}, (∀ i, i < n → Cg p (h i) (h' i)) → Cg p (sumTo n h) (sumTo n h')
  | 0, _ => Cg.rfl' _ _
  | n + 1, e => (sumTo_cg (n := n) (fun i hi => e i (by omega))).add (e n (by omega))
theorem sumTo_left (h : Nat → Int) : ∀ n, sumTo (n + 1) h = h 0 + sumTo n (fun i => h (i + 1))
  | 0 => by simp [sumTo]
  | n + 1 => by
    have := sumTo_left h n
    simp only [sumTo] at this ⊢
    omega
theorem sumTo_rev (h : Nat → Int) : ∀ n, sumTo n (fun i => h (n - 1 - i)) = sumTo n h
  | 0 => rfl
  | n + 1 => by
    rw [sumTo_left, show sumTo n (fun i => h (n + 1 - 1 - (i + 1))) = sumTo n (fun i => h (n - 1 - i)) from sumTo_congr (fun i hi => by rw [show n + 1 - 1 - (i + 1) = n - 1 - i by omega]), sumTo_rev h n]
    simp only [sumTo, Nat.add_sub_cancel, Nat.sub_zero]
    omega
theorem sumTo_more (h : Nat → Int) (n : Nat) (hz : ∀ i, n ≤ i → h i = 0) : ∀ m, sumTo (n + m) h = sumTo n h
  | 0 => rfl
  | m + 1 => by
    show sumTo (n + m) h + h (n + m) = _
    rw [sumTo_more h n hz m, hz _ (by omega)]
    omega
/-- Of two numbers, any way to sum them. -/
theorem sumTo_lin (f g h : Nat → Int) (u v w : Int) : ∀ n, sumTo n (fun i => u * f i + v * g i + w * h i) = u * sumTo n f + v * sumTo n g + w * sumTo n h
  | 0 => by simp [sumTo]
  | n + 1 => by
    simp only [sumTo]
    rw [sumTo_lin f g h u v w n]
    grind
/-- The product's number j. -/
def cf (f g : Nat → Int) (j : Nat) : Int := sumTo (j + 1) (fun i => f i * g (j - i))
theorem cf_comm (f g : Nat → Int) (j : Nat) : cf f g j = cf g f j := by
  unfold cf
  rw [← sumTo_rev (fun i => f i * g (j - i)) (j + 1)]
  refine sumTo_congr fun i hi => ?_
  rw [show j + 1 - 1 - i = j - i by omega, show j - (j - i) = i by omega, Int.mul_comm]
abbrev at_ (l : List Int) : Nat → Int := fun i => l.getD i 0
theorem pmul_cf (p : Int) (hp : okp p = true) (b : List Int) : ∀ (a : List Int) (j : Nat), Cg p ((pmul p a b).getD j 0) (cf (at_ a) (at_ b) j) := by
  intro a
  induction a with
  | nil =>
    intro j
    refine Cg.of_eq ?_
    unfold cf
    have : sumTo (j + 1) (fun i => at_ [] i * at_ b (j - i)) = sumTo (j + 1) (fun _ => (0 : Int)) := sumTo_congr fun i _ => by simp [at_]
    rw [this]
    have hz := sumTo_more (fun _ => (0 : Int)) 0 (fun _ _ => rfl) (j + 1)
    rw [Nat.zero_add] at hz
    rw [hz]
    rfl
  | cons x a ih =>
    intro j
    rw [pmul_cons_getD p hp]
    refine (Cg.mod _ _).trans ?_
    unfold cf
    rw [sumTo_left]
    refine Cg.add (Cg.of_eq rfl) ?_
    cases j with
    | zero => exact Cg.of_eq rfl
    | succ j =>
      rw [if_neg (by omega), Nat.add_sub_cancel]
      refine (ih j).trans (Cg.of_eq ?_)
      unfold cf
      refine sumTo_congr fun i hi => ?_
      rw [show j + 1 - (i + 1) = j - i by omega]
      rfl
/-- The first x + 1 products w k * z (j - k). -/
def ST (w z : Nat → Int) : Nat → Nat → Int
  | 0, j => w 0 * z j
  | x + 1, j => ST w z x j + if x + 1 ≤ j then w (x + 1) * z (j - (x + 1)) else 0
theorem ST_sum (w z : Nat → Int) (j : Nat) : ∀ x, ST w z x j = sumTo (x + 1) (fun k => if k ≤ j then w k * z (j - k) else 0)
  | 0 => by simp [ST, sumTo]
  | x + 1 => by rw [ST, ST_sum w z j x]; rfl
theorem ST_cf (w z : Nat → Int) (t j : Nat) (hw : ∀ k, t < k → w k = 0) : ST w z t j = cf w z j := by
  rw [ST_sum]
  have e1 : cf w z j = sumTo (j + 1) (fun k => if k ≤ j then w k * z (j - k) else 0) := sumTo_congr fun i hi => by rw [if_pos (by omega)]
  rw [e1]
  have h1 := sumTo_more (fun k => if k ≤ j then w k * z (j - k) else 0) (t + 1) (fun i hi => by rw [hw i (by omega), Int.zero_mul]; split <;> rfl) (j + 1)
  have h2 := sumTo_more (fun k => if k ≤ j then w k * z (j - k) else 0) (j + 1) (fun i hi => if_neg (by omega)) (t + 1)
  rw [← h1, ← h2, Nat.add_comm]
/-- Far out it is nothing. -/
theorem ST_far (w z : Nat → Int) (t : Nat) (hz : ∀ k, t < k → z k = 0) : ∀ x j, x + t < j → ST w z x j = 0
  | 0, j, h => by rw [ST, hz j (by omega), Int.mul_zero]
  | x + 1, j, h => by rw [ST, ST_far w z t hz x j (by omega), hz (j - (x + 1)) (by omega)]; split <;> simp
theorem ST_top (w z : Nat → Int) (t : Nat) (hz : ∀ k, t < k → z k = 0) (x : Nat) : ST w z (x + 1) (x + 1 + t) = w (x + 1) * z t := by
  rw [ST, ST_far w z t hz x _ (by omega), if_pos (by omega), show x + 1 + t - (x + 1) = t by omega, Int.zero_add]
/-- A product whose factors change by u z, v z changes by w z. -/
theorem pmul_moved (p : Int) (hp : okp p = true) (a b a' b' z w : List Int) (u v : Int) (t : Nat) (hw : ∀ k, t < k → w.getD k 0 = 0)
    (ha : ∀ i, Cg p (a'.getD i 0) (a.getD i 0 + u * z.getD i 0)) (hb : ∀ i, Cg p (b'.getD i 0) (b.getD i 0 + v * z.getD i 0)) (hwz : ∀ i, Cg p (w.getD i 0) (u * b.getD i 0 + v * a.getD i 0 + u * v * z.getD i 0)) (j : Nat) :
    Cg p ((pmul p a' b').getD j 0) ((pmul p a b).getD j 0 + ST (at_ w) (at_ z) t j) := by
  rw [ST_cf _ _ t j hw]
  refine (pmul_cf p hp b' a' j).trans (Cg.trans ?_ ((pmul_cf p hp b a j).symm.add (Cg.rfl' _ _)))
  have e1 : Cg p (cf (at_ a') (at_ b') j) (sumTo (j + 1) fun i => (at_ a i + u * at_ z i) * (at_ b (j - i) + v * at_ z (j - i))) := sumTo_cg fun i _ => (ha i).mul (hb (j - i))
  refine e1.trans ?_
  have e2 : (sumTo (j + 1) fun i => (at_ a i + u * at_ z i) * (at_ b (j - i) + v * at_ z (j - i))) = cf (at_ a) (at_ b) j + (u * cf (at_ z) (at_ b) j + v * cf (at_ a) (at_ z) j + u * v * cf (at_ z) (at_ z) j) := by
    have h1 := sumTo_lin (fun i => at_ z i * at_ b (j - i)) (fun i => at_ a i * at_ z (j - i)) (fun i => at_ z i * at_ z (j - i)) u v (u * v) (j + 1)
    have h2 := sumTo_lin (fun i => at_ a i * at_ b (j - i)) (fun i => u * (at_ z i * at_ b (j - i)) + v * (at_ a i * at_ z (j - i)) + u * v * (at_ z i * at_ z (j - i))) (fun _ => 0) 1 1 0 (j + 1)
    unfold cf
    rw [← h1]
    have h3 : (sumTo (j + 1) fun i => (at_ a i + u * at_ z i) * (at_ b (j - i) + v * at_ z (j - i))) = sumTo (j + 1) (fun i => 1 * (at_ a i * at_ b (j - i)) + 1 * (u * (at_ z i * at_ b (j - i)) + v * (at_ a i * at_ z (j - i)) + u * v * (at_ z i * at_ z (j - i))) + 0 * 0) := sumTo_congr fun i _ => by grind
    rw [h3, h2]
    omega
  rw [e2]
  refine (Cg.rfl' _ _).add ?_
  have e3 : Cg p (cf (at_ w) (at_ z) j) (sumTo (j + 1) fun i => (u * at_ b i + v * at_ a i + u * v * at_ z i) * at_ z (j - i)) := sumTo_cg fun i _ => (hwz i).mul (Cg.rfl' _ _)
  refine Cg.trans (Cg.of_eq ?_) e3.symm
  have h4 := sumTo_lin (fun i => at_ b i * at_ z (j - i)) (fun i => at_ a i * at_ z (j - i)) (fun i => at_ z i * at_ z (j - i)) u v (u * v) (j + 1)
  have h5 : (sumTo (j + 1) fun i => (u * at_ b i + v * at_ a i + u * v * at_ z i) * at_ z (j - i)) = sumTo (j + 1) (fun i => u * (at_ b i * at_ z (j - i)) + v * (at_ a i * at_ z (j - i)) + u * v * (at_ z i * at_ z (j - i))) := sumTo_congr fun i _ => by grind
  rw [h5, h4, cf_comm (at_ z) (at_ b) j]
  rfl
end Go.Proofs.Ytkcjhcjlaefgmaa.L21
