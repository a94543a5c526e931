/- The law PolyArithmetic: Eval, Add, Sub, Scale, Mul of the program and of the reference, over plain numbers and lists; then the law itself. -/
import Derived.Test.YtkcjhcjlaefgmaaLaw4P
import Derived.Test.YtkcjhcjlaefgmaaX6
namespace Go.Proofs.Ytkcjhcjlaefgmaa
open Go.RowKit Go.Proofs.YtkcjhcjlaefgmaaW.PrintWords
set_option linter.unusedVariables false
set_option linter.unusedSimpArgs false

theorem part_set (s : List Int) (i d : Nat) (hi : i < s.length) (v : Int) (hv : v = s.getD i 0) : (s.take i ++ List.replicate (d + 1) 0).set i v = s.take (i + 1) ++ List.replicate d 0 := by
  rw [take_succ_snoc s i hi, List.set_append_right _ _ (by rw [List.length_take]; omega), List.length_take, show i - min i s.length = 0 by omega, List.replicate_succ, List.set_cons_zero, ← hv]
  simp
theorem p_trim (l : List Int) (h : l.length ≤ 1000000) : poly_Trim.f l = some (trimL l) := by
  unfold poly_Trim.f fewL
  rw [decide_eq_true (by omega)]; rfl
theorem p_scale_l (p x : Int) (hp : okp p = true) (hx : inF p x = true) (b : List Int) (hb : allF p b = true) (lb : b.length ≤ 1000000) : ∀ (d k : Nat) (i : Nat), b.length - i = d → i ≤ b.length → d < k →
    X.poly_Scale.l0 k p x ((pscale p x b).take i ++ List.replicate d 0) b (b.length : Int) (i : Int) = some (trimL (pscale p x b)) := by
  intro d
  have hlen : (pscale p x b).length = b.length := by unfold pscale; simp
  induction d with
  | zero =>
    intro k i hd hi hk
    obtain ⟨k, rfl⟩ : ∃ m, k = m + 1 := ⟨k - 1, by omega⟩
    simp only [X.poly_Scale.l0]
    rw [if_neg (by omega), List.replicate_zero, List.append_nil, show i = (pscale p x b).length by omega, List.take_length, p_trim _ (by omega)]
    rfl
  | succ d ih =>
    intro k i hd hi hk
    obtain ⟨k, rfl⟩ : ∃ m, k = m + 1 := ⟨k - 1, by omega⟩
    simp only [X.poly_Scale.l0]
    rw [if_pos (by omega), if_pos (by omega), if_pos (by omega), rd_nat, fmul hp hx (allF_getD hp hb i)]
    simp only [Option.bind_some]
    rw [if_pos (by rw [List.length_append, List.length_take, List.length_replicate]; omega), wrap_in (by omega) (by omega), show ((i : Int)).toNat = i by omega, part_set _ i d (by omega) _ (pscale_getD p x b i).symm]
    exact ih k (i + 1) (by omega) (by omega) (by omega)
theorem p_scale (p x : Int) (hp : okp p = true) (hx : inF p x = true) (b : List Int) (hb : allF p b = true) (lb : b.length ≤ 1000000) (k : Nat) (hk : b.length < k) :
    X.poly_Scale.f k p x b = some (trimL (pscale p x b)) := by
  unfold X.poly_Scale.f
  rw [if_pos (by omega), if_pos (by omega)]
  exact p_scale_l p x hp hx b hb lb b.length k 0 (by omega) (by omega) hk
theorem p_add (p : Int) (hp : okp p = true) (a b : List Int) (ha : allF p a = true) (hb : allF p b = true) (la : a.length ≤ 1000000) (lb : b.length ≤ 1000000) : poly_Add.f p a b = some (trimL (padd p a b)) := by
  unfold poly_Add.f fewL
  rw [hp, ha, hb, decide_eq_true (by omega), decide_eq_true (by omega)]; rfl
theorem p_mul (p : Int) (hp : okp p = true) (a b : List Int) (ha : allF p a = true) (hb : allF p b = true) (la : a.length ≤ 1000000) (lb : b.length ≤ 1000000) : poly_Mul.f p a b = some (trimL (pmul p a b)) := by
  unfold poly_Mul.f
  rw [hp, ha, hb, decide_eq_true (by omega), decide_eq_true (by omega)]; rfl
theorem p_sub (p : Int) (hp : okp p = true) (a b : List Int) (ha : allF p a = true) (hb : allF p b = true) (la : a.length ≤ 1000000) (lb : b.length ≤ 1000000) (k : Nat) (hk : b.length < k) :
    X.poly_Sub.f k p a b = some (psub p a b) := by
  have h1 := pscale_allF p (p - 1) hp b
  have h2 : (trimL (pscale p (p - 1) b)).length ≤ b.length := Nat.le_trans (trimL_le _) (by unfold pscale; simp)
  unfold X.poly_Sub.f
  rw [pred_spelt hp, p_scale p _ hp (inF_pred hp) b hb lb k hk]
  simp only [Option.bind_some]
  rw [p_add p hp a _ ha (allF_trimL h1) la (by omega), psub_trim p hp a b ha]
  rfl
theorem r04_eval_l (p x : Int) (hp : okp p = true) (hx : inF p x = true) (f : List Int) (hf : allF p f = true) (hl : f.length ≤ 1000000) : ∀ (d i k : Nat), f.length - i = d → i ≤ f.length → d < k →
    X.privityref04_Eval.l0 k p f x (ev (f.take i) x % p) (x ^ i % p) (i : Int) = some (ev f x % p) := by
  intro d
  induction d with
  | zero =>
    intro i k hd hi hk
    obtain ⟨k, rfl⟩ : ∃ m, k = m + 1 := ⟨k - 1, by omega⟩
    simp only [X.privityref04_Eval.l0]
    rw [if_neg (by omega), show i = f.length by omega, List.take_length]
  | succ d ih =>
    intro i k hd hi hk
    obtain ⟨k, rfl⟩ : ∃ m, k = m + 1 := ⟨k - 1, by omega⟩
    simp only [X.privityref04_Eval.l0]
    rw [if_pos (by omega), if_pos (by omega), rd_nat, gmul hp (allF_getD hp hf i) (inF_mod hp _)]
    simp only [Option.bind_some]
    rw [gadd hp (inF_mod hp _) (inF_mod hp _)]
    simp only [Option.bind_some]
    rw [gmul hp (inF_mod hp _) hx]
    simp only [Option.bind_some]
    rw [wrap_in (by omega) (by omega)]
    have e1 : (ev (f.take i) x % p + f.getD i 0 * (x ^ i % p) % p) % p = ev (f.take (i + 1)) x % p := by
      rw [take_succ_snoc f i (by omega), ev_append, ← Int.add_emod, List.length_take, show min i f.length = i by omega, Int.add_emod, Int.mul_emod (f.getD i 0), Int.emod_emod_of_dvd _ (Int.dvd_refl p), ← Int.mul_emod, ← Int.add_emod, Int.mul_comm]
      simp only [ev, Int.mul_zero, Int.add_zero]
    have e2 : x ^ i % p * x % p = x ^ (i + 1) % p := by
      rw [Int.pow_succ, Int.mul_emod, Int.emod_emod_of_dvd _ (Int.dvd_refl p), ← Int.mul_emod]
    rw [e1, e2]
    exact ih (i + 1) k (by omega) (by omega) (by omega)
theorem r04_eval (p x : Int) (hp : okp p = true) (hx : inF p x = true) (f : List Int) (hf : allF p f = true) (hl : f.length ≤ 1000000) (k : Nat) (hk : f.length < k) : X.privityref04_Eval.f k p f x = some (ev f x % p) := by
  unfold X.privityref04_Eval.f
  have hlo := okp_lo hp
  have := r04_eval_l p x hp hx f hf hl f.length 0 k (by omega) (by omega) hk
  rwa [List.take_zero, show ev [] x % p = 0 from Int.zero_emod p, Int.pow_zero, Int.emod_eq_of_lt (by omega) (by omega)] at this

theorem pure_arith4 (a0 : Int) (l1 l2 l3 : List Int) (a4 a5 : Int) (h0 : 0 ≤ a0) (h1 : ∀ x ∈ l1, 0 ≤ x) (h2 : ∀ x ∈ l2, 0 ≤ x) (h3 : ∀ x ∈ l3, 0 ≤ x) (h4 : 0 ≤ a4) (h5 : 0 ≤ a5) : ∃ k, X.privitylaw04_PolyArithmetic.f k a0 l1 l2 l3 a4 a5 = some true := by
  obtain ⟨p, hp, hf⟩ := fit4 a0 l1 l2 l3 a4 a5 h0 h1 h2 h3
  have hlo := okp_lo hp
  have la := wordsL_length p l1 12
  have lb := wordsL_length p l2 12
  have hA := wordsL_allF hp l1 12
  have hB := wordsL_allF hp l2 12
  generalize wordsL p l1 12 = a at *
  generalize wordsL p l2 12 = b at *
  have hx := inF_mod hp a4
  have hk := inF_mod hp a5
  have la1 : a.length ≤ 1000000 := by omega
  have lb1 : b.length ≤ 1000000 := by omega
  have s1 := padd_length p a b
  have t1 := trimL_le (padd p a b)
  have t2 := trimL_le (padd p a (pscale p (p - 1) b))
  have s2 := padd_length p a (pscale p (p - 1) b)
  have s3 : (pscale p (p - 1) b).length = b.length := by unfold pscale; simp
  have t4 := trimL_le (pscale p (a5 % p) a)
  have s4 : (pscale p (a5 % p) a).length = a.length := by unfold pscale; simp
  have t5 := trimL_le (pmul p a b)
  have hmul : ∀ (a : List Int), (pmul p a b).length ≤ a.length + b.length := by
    intro a
    induction a with
    | nil => simp [pmul]
    | cons x a ih =>
      simp only [pmul, padd_length, List.length_cons]
      have : (pscale p x b).length = b.length := by unfold pscale; simp
      omega
  have s5 := hmul a
  have hmm : a.length * (b.length + 2) ≤ 12 * 14 := Nat.mul_le_mul (by omega) (by omega)
  refine ⟨2000, ?_⟩
  unfold X.privitylaw04_PolyArithmetic.f
  rw [hf _ (by omega)]
  simp only [Option.bind_some]
  rw [if_neg (by omega), awake4 _ (by omega), tmod_nn a4 p h4, tmod_nn a5 p h5]
  simp only [Option.bind_some, if_true]
  rw [p_eval p _ hp hx a hA la1 _ (by omega), r04_eval p _ hp hx a hA la1 _ (by omega)]
  simp only [Option.bind_some, if_true]
  rw [p_add p hp a b hA hB la1 lb1, r04_add p hp a b hA hB la1 lb1 _ (by omega)]
  simp only [Option.bind_some]
  rw [r04_equal _ (by omega) _ (by omega)]
  simp only [Option.bind_some, if_true]
  rw [p_sub p hp a b hA hB la1 lb1 _ (by omega), r04_sub p hp a b hA hB la1 lb1 _ (by omega)]
  simp only [Option.bind_some]
  rw [r04_equal (psub p a b) (by unfold psub; omega) _ (by unfold psub; omega)]
  simp only [Option.bind_some, if_true]
  rw [p_scale p _ hp hk a hA la1 _ (by omega), r04_scale p _ hp hk a hA la1 _ (by omega)]
  simp only [Option.bind_some]
  rw [r04_equal _ (by omega) _ (by omega)]
  simp only [Option.bind_some, if_true]
  rw [p_mul p hp a b hA hB la1 lb1, r04_mul p hp a b hA hB la1 lb1 _ (by omega)]
  simp only [Option.bind_some]
  rw [r04_equal _ (by omega) _ (by omega)]
  rfl
end Go.Proofs.Ytkcjhcjlaefgmaa
