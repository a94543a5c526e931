/- The law ProductProofChange over plain numbers and lists: the law itself. -/
import Derived.Test.YtkcjhcjlaefgmaaL21F
import Derived.Test.YtkcjhcjlaefgmaaQ6
import Derived.Test.YtkcjhcjlaefgmaaQ7
namespace Go.Proofs.Ytkcjhcjlaefgmaa.L21
open Go.RowKit Go.Proofs.YtkcjhcjlaefgmaaW.PrintWords
set_option linter.unusedVariables false
set_option linter.unusedSimpArgs false

theorem part_set (s : List Int) (i d : Nat) (hi : i < s.length) (v : Int) (hv : v = s.getD i 0) : (s.take i ++ List.replicate (d + 1) 0).set i v = s.take (i + 1) ++ List.replicate d 0 := by
  rw [take_succ_snoc s i hi, List.set_append_right _ _ (by rw [List.length_take]; omega), List.length_take, show i - min i s.length = 0 by omega, List.replicate_succ, List.set_cons_zero, ← hv]
  simp
theorem p_trim (l : List Int) (h : l.length ≤ 1000000) : poly_Trim.f l = some (trimL l) := by
  unfold poly_Trim.f fewL
  rw [decide_eq_true (by omega)]; rfl
theorem p_scale_l (p x : Int) (hp : okp p = true) (hx : inF p x = true) (b : List Int) (hb : allF p b = true) (lb : b.length ≤ 1000000) : ∀ (d k : Nat) (i : Nat), b.length - i = d → i ≤ b.length → d < k →
    Q.poly_Scale.l0 k p x ((pscale p x b).take i ++ List.replicate d 0) b (b.length : Int) (i : Int) = some (trimL (pscale p x b)) := by
  intro d
  have hlen : (pscale p x b).length = b.length := by unfold pscale; simp
  induction d with
  | zero =>
    intro k i hd hi hk
    obtain ⟨k, rfl⟩ : ∃ m, k = m + 1 := ⟨k - 1, by omega⟩
    simp only [Q.poly_Scale.l0]
    rw [if_neg (by omega), List.replicate_zero, List.append_nil, show i = (pscale p x b).length by omega, List.take_length, p_trim _ (by omega)]
    rfl
  | succ d ih =>
    intro k i hd hi hk
    obtain ⟨k, rfl⟩ : ∃ m, k = m + 1 := ⟨k - 1, by omega⟩
    simp only [Q.poly_Scale.l0]
    rw [if_pos (by omega), if_pos (by omega), if_pos (by omega), rd_nat, fmul hp hx (allF_getD hp hb i)]
    simp only [Option.bind_some]
    rw [if_pos (by rw [List.length_append, List.length_take, List.length_replicate]; omega), wrap_in (by omega) (by omega), show ((i : Int)).toNat = i by omega, part_set _ i d (by omega) _ (pscale_getD p x b i).symm]
    exact ih k (i + 1) (by omega) (by omega) (by omega)
theorem p_scale (p x : Int) (hp : okp p = true) (hx : inF p x = true) (b : List Int) (hb : allF p b = true) (lb : b.length ≤ 1000000) (k : Nat) (hk : b.length < k) :
    Q.poly_Scale.f k p x b = some (trimL (pscale p x b)) := by
  unfold Q.poly_Scale.f
  rw [if_pos (by omega), if_pos (by omega)]
  exact p_scale_l p x hp hx b hb lb b.length k 0 (by omega) (by omega) hk
theorem p_add (p : Int) (hp : okp p = true) (a b : List Int) (ha : allF p a = true) (hb : allF p b = true) (la : a.length ≤ 1000000) (lb : b.length ≤ 1000000) : poly_Add.f p a b = some (trimL (padd p a b)) := by
  unfold poly_Add.f fewL
  rw [hp, ha, hb, decide_eq_true (by omega), decide_eq_true (by omega)]; rfl
theorem coefp_eq (l : List Int) (i : Nat) : Q.poly_Coefficient.f l (i : Int) = some (l.getD i 0) := by
  unfold Q.poly_Coefficient.f
  rw [if_neg (by omega)]
  by_cases h : (i : Int) ≥ (l.length : Int)
  · rw [if_pos h, getD_ge (by omega)]
  · rw [if_neg h, if_pos (by omega), if_pos (by omega), rd_nat]
theorem pscale_len (p x : Int) (b : List Int) : (pscale p x b).length = b.length := by unfold pscale; simp
/-- W, as the law reckons it. -/
def wT (p u v : Int) (a b z : List Int) : List Int := trimL (padd p (trimL (padd p (trimL (pscale p u b)) (trimL (pscale p v a)))) (trimL (pscale p (u * v % p) z)))
theorem wT_at {p : Int} (hp : okp p = true) (u v : Int) (a b z : List Int) (t : Nat) (la : a.length = t + 1) (lb : b.length = t + 1) (lz : z.length = t + 1) (i : Nat) : (wT p u v a b z).getD i 0 = (upTo (wAt p u v a b z) (t + 1)).getD i 0 := by
  have s1 := allF_trimL (pscale_allF p u hp b)
  have s2 := allF_trimL (pscale_allF p v hp a)
  have s3 := allF_trimL (pscale_allF p (u * v % p) hp z)
  have s4 := allF_trimL (padd_allF p hp _ _ s1 s2)
  unfold wT
  rw [trimL_getD, padd_getD p hp _ _ s4 s3, trimL_getD, padd_getD p hp _ _ s1 s2, trimL_getD, trimL_getD, trimL_getD, pscale_getD, pscale_getD, pscale_getD, upTo_at]
  split
  · rfl
  · rw [getD_ge (l := a) (by omega), getD_ge (l := b) (by omega), getD_ge (l := z) (by omega)]
    simp
theorem same_trim {p : Int} (hp : okp p = true) (e d z : List Int) (w : Int) (t : Nat) (le : e.length ≤ t + 1) (ld : d.length ≤ t + 1) (lz : z.length = t + 1) (ae : allF p e = true) (ad : allF p d = true) (h : ∀ i, i ≤ t → Cg p (e.getD i 0) (d.getD i 0 + w * z.getD i 0)) : trimL e = trimL (padd p d (trimL (pscale p w z))) := by
  refine trimL_ext fun i => ?_
  rw [padd_getD p hp _ _ ad (allF_trimL (pscale_allF p w hp z)), trimL_getD, pscale_getD]
  by_cases hi : i ≤ t
  · have := (h i hi).emod
    rw [modF (allF_getD hp ae i)] at this
    rw [this, Int.add_emod_emod]
  · rw [getD_ge (l := e) (by omega), getD_ge (l := d) (by omega), getD_ge (l := z) (by omega)]
    simp
theorem change_l1 (p : Int) (t : Nat) (z w c f a b r : List Int) (D E : List (List Int)) (x2 x3 x4 : List Int) (hp : okp p = true) (h4 : t ≤ 4) (lz : z.length = t + 1) (az : allF p z = true) (aw : allF p w = true) (lD : D.length = t) (lE : E.length = t) (aD : ∀ l ∈ D, allF p l = true) (aE : ∀ l ∈ E, allF p l = true) (rD : ∀ l ∈ D, l.length = t + 1) (rE : ∀ l ∈ E, l.length = t + 1)
    (ac : allF p c = true) (af : allF p f = true) (lc : c.length = t + 1) (lf : f.length = t + 1)
    (hT : ∀ k, k < t → ∀ i, i ≤ t → Cg p ((E.getD k []).getD i 0) ((D.getD k []).getD i 0 + w.getD (k + 1) 0 * z.getD i 0)) (hC : ∀ i, i ≤ t → Cg p (f.getD i 0) (c.getD i 0 + w.getD 0 0 * z.getD i 0)) :
    ∀ (n k m : Nat), k + n = t → n + 200 ≤ m → Q.privitylaw21_ProductProofChange.l1 m z D c E f w ((k + 1 : Nat) : Int) p (t : Int) x2 x3 x4 = some true := by
  intro n
  induction n with
  | zero =>
    intro k m h hm
    obtain ⟨m, rfl⟩ : ∃ q, m = q + 1 := ⟨m - 1, by omega⟩
    simp only [Q.privitylaw21_ProductProofChange.l1]
    rw [if_neg (by omega), awake m (by omega)]
    simp only [Option.bind_some, if_true]
    have l1 := trimL_le f
    have l2 := trimL_le (pscale p (w.getD 0 0) z)
    have l3 := pscale_len p (w.getD 0 0) z
    rw [p_trim f (by omega), show (0 : Int) = ((0 : Nat) : Int) from rfl, coefp_eq]
    simp only [Option.bind_some]
    rw [p_scale p _ hp (allF_getD hp aw 0) z az (by omega) m (by omega)]
    simp only [Option.bind_some]
    rw [p_add p hp c _ ac (allF_trimL (pscale_allF p _ hp z)) (by omega) (by omega)]
    simp only [Option.bind_some]
    rw [← same_trim hp f c z (w.getD 0 0) t (by omega) (by omega) lz af ac hC, sameList _ (by omega) m (by omega)]
    rfl
  | succ n ih =>
    intro k m h hm
    obtain ⟨m, rfl⟩ : ∃ q, m = q + 1 := ⟨m - 1, by omega⟩
    simp only [Q.privitylaw21_ProductProofChange.l1]
    have hrow : ∀ X : List (List Int), X.length = t → Q.rd_L2 X ((k : Nat) : Int) = X.getD k [] ∧ X.getD k [] ∈ X := by
      intro X hX
      unfold Q.rd_L2
      rw [Int.toNat_natCast]
      refine ⟨rfl, ?_⟩
      rw [List.getD_eq_getElem?_getD, List.getElem?_eq_getElem (show k < X.length by omega)]
      exact List.getElem_mem _
    obtain ⟨eD, mD⟩ := hrow D lD
    obtain ⟨eE, mE⟩ := hrow E lE
    have ld := rD _ mD
    have le := rE _ mE
    have l1 := trimL_le (E.getD k [])
    have l2 := trimL_le (pscale p (w.getD (k + 1) 0) z)
    have l3 := pscale_len p (w.getD (k + 1) 0) z
    rw [if_pos (by omega), wrap_in (x := ((k + 1 : Nat) : Int) - 1) (by omega) (by omega), show ((k + 1 : Nat) : Int) - 1 = ((k : Nat) : Int) by omega, eD, eE, if_pos (by omega), if_pos (by omega), p_trim _ (by omega)]
    simp only [Option.bind_some]
    rw [if_pos (by omega), coefp_eq]
    simp only [Option.bind_some]
    rw [p_scale p _ hp (allF_getD hp aw _) z az (by omega) m (by omega)]
    simp only [Option.bind_some]
    rw [p_add p hp _ _ (aD _ mD) (allF_trimL (pscale_allF p _ hp z)) (by omega) (by omega)]
    simp only [Option.bind_some]
    rw [← same_trim hp _ _ z (w.getD (k + 1) 0) t (by omega) (by omega) lz (aE _ mE) (aD _ mD) (hT k (by omega)), sameList _ (by omega) m (by omega)]
    simp only [Option.bind_some, if_true]
    rw [wrap_in (by omega) (by omega)]
    exact ih (k + 1) m (by omega) (by omega)
theorem loop0 (p a1 : Int) (a b r xs : List Int) (U V : Int) (t : Nat) (x1 : Int) (hp : okp p = true) (hl : xs.length ≤ 100) (P : Nat → Prop)
    (hin : ∀ m, P m → Q.privitylaw21_ProductProofChange.l0 (m + 1) (xs.length : Int) p a1 a b r xs U V p x1 a b r = some true) : ∀ (n i m : Nat), i + n = xs.length → P m → 200 ≤ m → Q.privitylaw21_ProductProofChange.l0 (n + 1 + m) (i : Int) p a1 a b r xs U V p x1 a b r = some true := by
  intro n
  induction n with
  | zero =>
    intro i m h hm _
    rw [show 0 + 1 + m = m + 1 by omega, show i = xs.length by omega]
    exact hin m hm
  | succ n ih =>
    intro i m h hm hmm
    rw [show n + 1 + 1 + m = (n + 1 + m) + 1 by omega]
    simp only [Q.privitylaw21_ProductProofChange.l0]
    rw [if_pos (by omega), if_pos (by omega)]
    split
    · rw [awake _ (by omega)]
      rfl
    · rw [wrap_in (by omega) (by omega)]
      exact ih (i + 1) m (by omega) hm hmm
theorem pure_change (p a1 : Int) (l2 l3 l4 l5 : List Int) (U V : Int) (n2 : ∀ x ∈ l2, 0 ≤ x) (n3 : ∀ x ∈ l3, 0 ≤ x) (n4 : ∀ x ∈ l4, 0 ≤ x) (n5 : ∀ x ∈ l5, 0 ≤ x) (hU : 0 ≤ U) (hV : 0 ≤ V) : ∃ k, Q.privitylaw21_ProductProofChange.f k p a1 l2 l3 l4 l5 U V = some true := by
  refine ⟨1000, ?_⟩
  have off : ∀ (x : Int), Q.privitylaw21_ProductProofChange.j0 1000 true p a1 l2 l3 l4 l5 U V p x l2 l3 l4 = some true := by
    intro x
    simp only [Q.privitylaw21_ProductProofChange.j0, if_true]
    rw [awake 999 (by omega)]
    rfl
  unfold Q.privitylaw21_ProductProofChange.f
  rcases valid 1000 (by omega) p a1 l2 l3 l4 n2 n3 n4 with hv | ⟨hv, t, rfl, F⟩
  · rw [hv]
    simp only [Option.bind_some, Bool.false_eq_true, if_false]
    exact off _
  rw [hv]
  simp only [Option.bind_some, if_true]
  by_cases c1 : (l5.length : Int) = (t : Int)
  case neg => rw [if_neg c1]; exact off _
  have F' := F
  obtain ⟨hp, h1, h4, la, lb, lr, ha, hb, hr⟩ := F
  have b5 : Q.privityref06_Below.f 1000 p l5 4 = some (decide (l5.length ≤ 4) && allF p l5) := below p l5 4 (by omega) n5 1000 (by omega)
  rw [if_pos c1, b5]
  simp only [Option.bind_some]
  by_cases d1 : (decide (l5.length ≤ 4) && allF p l5) = true
  case neg => rw [if_neg d1]; exact off _
  rw [if_pos d1]
  rw [Bool.and_eq_true] at d1
  obtain ⟨bb, hbb⟩ := unlike l5 (by omega) 1000 (by omega)
  rw [hbb]
  simp only [Option.bind_some]
  cases bb with
  | false => exact off _
  | true =>
    have hlo := okp_lo hp
    have m1 : l5.length * (l5.length + 3) ≤ 4 * 7 := Nat.mul_le_mul (by omega) (by omega)
    have m2 : t * (t + 2) ≤ 4 * 6 := Nat.mul_le_mul (by omega) (by omega)
    have hu := inF_mod hp U
    have hv2 := inF_mod hp V
    have hone : allF p [1] = true := by
      show (inF p 1 && true) = true
      rw [inF_iff.2 ⟨by omega, by omega⟩]; rfl
    have az := vanL_allF hp l5 [1] hone
    have lz : (vanL p l5 [1]).length = t + 1 := by rw [vanL_length]; simp; omega
    simp only [Q.privitylaw21_ProductProofChange.j0, Bool.not_true, Bool.false_eq_true, if_false]
    have key := loop0 p (t : Int) l2 l3 l4 l5 U V t (t : Int) hp (by omega) (fun m => 500 ≤ m) (fun m hm => ?_) l5.length 0 (999 - l5.length - 1) (by omega) (by omega) (by omega)
    · rw [show l5.length + 1 + (999 - l5.length - 1) = 999 by omega] at key
      exact key
    simp only [Q.privitylaw21_ProductProofChange.l0]
    rw [if_neg (by omega), if_neg (by omega), vanish p l5 hp d1.2 (by omega) m (by omega)]
    simp only [Option.bind_some]
    rw [tmod_nn U p hU, tmod_nn V p hV]
    generalize vanL p l5 [1] = z at az lz ⊢
    generalize U % p = u at hu ⊢
    generalize V % p = v at hv2 ⊢
    rw [moved p t l2 l3 l4 z u v hp (by omega) ha hb hr az hu hv2 la lb lr lz m (by omega)]
    simp only [Option.bind_some]
    obtain ⟨D, E, c, f, e1, e2, g1, g2, g3, g4, g5, g6, g7, g8, g9, g10, g11, g12, _⟩ := both p t l2 l3 l4 z u v F' az lz
    rw [e1, e2]
    simp only [Option.bind_some]
    have t1 := trimL_le (pscale p u l3)
    have t2 := trimL_le (pscale p v l2)
    have t3 := trimL_le (pscale p (u * v % p) z)
    have t4 := trimL_le (padd p (trimL (pscale p u l3)) (trimL (pscale p v l2)))
    have t5 := padd_length p (trimL (pscale p u l3)) (trimL (pscale p v l2))
    have k1 := pscale_len p u l3
    have k2 := pscale_len p v l2
    have k3 := pscale_len p (u * v % p) z
    have s1 := allF_trimL (pscale_allF p u hp l3)
    have s2 := allF_trimL (pscale_allF p v hp l2)
    have s3 := allF_trimL (pscale_allF p (u * v % p) hp z)
    have s4 := allF_trimL (padd_allF p hp _ _ s1 s2)
    rw [p_scale p u hp hu l3 hb (by omega) m (by omega)]
    simp only [Option.bind_some]
    rw [p_scale p v hp hv2 l2 ha (by omega) m (by omega)]
    simp only [Option.bind_some]
    rw [p_add p hp _ _ s1 s2 (by omega) (by omega)]
    simp only [Option.bind_some]
    rw [fmul hp hu hv2]
    simp only [Option.bind_some]
    rw [p_scale p _ hp (inF_mod hp _) z az (by omega) m (by omega)]
    simp only [Option.bind_some]
    rw [p_add p hp _ _ s4 s3 (by omega) (by omega)]
    simp only [Option.bind_some]
    rw [if_pos (by omega), show ((E.length : Int) != (t : Int)) = false by rw [g2]; simp]
    obtain ⟨m, rfl⟩ : ∃ q, m = q + 1 := ⟨m - 1, by omega⟩
    simp only [Q.privitylaw21_ProductProofChange.j2, Bool.false_eq_true, if_false]
    have hwT := wT_at hp u v l2 l3 z t la lb lz
    have aw : allF p (wT p u v l2 l3 z) = true := allF_trimL (padd_allF p hp _ _ s4 s3)
    have := change_l1 p t z (wT p u v l2 l3 z) c f l2 l3 l4 D E l2 l3 l4 hp h4 lz az aw g1 g2 g3 g4 g5 g6 g7 g8 g9 g10 (fun k hk i hi => by rw [hwT]; exact g11 k hk i hi) (fun i hi => by rw [hwT]; exact g12 i hi) t 0 m (by omega) (by omega)
    exact this
end Go.Proofs.Ytkcjhcjlaefgmaa.L21
