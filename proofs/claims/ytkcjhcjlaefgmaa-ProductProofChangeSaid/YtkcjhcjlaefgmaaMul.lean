/- poly.Mul: the trimmed product of two lists of reduced coefficients. -/
import Derived.Test.YtkcjhcjlaefgmaaAdd
namespace Go.Proofs.Ytkcjhcjlaefgmaa
open Go.RowKit Go.Proofs.YtkcjhcjlaefgmaaW.PrintWords Go.Proofs.YtkcjhcjlaefgmaaW.PrintLast
set_option linter.unusedVariables false
set_option linter.unusedSimpArgs false

theorem put_at (p k : Int) (i : Nat) (j : Int) (hj : j = (i : Int)) (f : List Int) (w0 W : World) (base g : Nat) (hp : okp p = true) (hf : allF p f = true) (hk : inF p k = true) (hi : i ≤ 1099511627776) (hl : f.length ≤ 1099511627776)
    (HS : SumAt W base g p f) (HB : Below base w0 W) (hbase : base ≤ g) :
    Calls Try.prog 61 #[.pointer (some ⟨g, 0, none⟩), .int .i64 j, .int .u64 k] W fun e w' => e = .returned (.tuple #[]) ∧ SumAt w' base g p (putL p f i k) ∧ Below base w0 w' := by
  subst hj
  exact put_any p k i f w0 W base g hp hf hk hi hl HS HB hbase
theorem SumAt.drewN {W : World} {base g : Nat} {p : Int} {f : List Int} (h : SumAt W base g p f) (n : Nat) : SumAt (W.drewN n) base g p f := by
  obtain ⟨v, hb, hr⟩ := h
  exact ⟨v, blk_drewN hb n, Kd.R_drewN hr n⟩
/-- The product's numbers, row by row. -/
theorem pmul_cons_getD (p : Int) (hp : okp p = true) (x : Int) (a b : List Int) (j : Nat) : (pmul p (x :: a) b).getD j 0 = (x * b.getD j 0 + (if j = 0 then 0 else (pmul p a b).getD (j - 1) 0)) % p := by
  have hall : allF p (0 :: pmul p a b) = true := by
    show (inF p 0 && allF p (pmul p a b)) = true
    rw [pmul_allF p hp, Bool.and_true]
    exact inF_iff.2 ⟨by omega, by have := okp_lo hp; omega⟩
  simp only [pmul]
  rw [padd_getD p hp _ _ (pscale_allF p x hp _) hall, pscale_getD, Int.emod_add_emod]
  cases j with
  | zero => simp
  | succ j => simp
theorem pmul_snoc_getD (p : Int) (hp : okp p = true) (b : List Int) (x : Int) : ∀ (a : List Int) (j : Nat), (pmul p (a ++ [x]) b).getD j 0 = ((pmul p a b).getD j 0 + (if a.length ≤ j then x * b.getD (j - a.length) 0 else 0)) % p := by
  intro a
  induction a with
  | nil =>
    intro j
    show (pmul p [x] b).getD j 0 = _
    rw [pmul_cons_getD p hp]
    simp [pmul]
  | cons y a ih =>
    intro j
    show (pmul p (y :: (a ++ [x])) b).getD j 0 = _
    rw [pmul_cons_getD p hp, pmul_cons_getD p hp]
    cases j with
    | zero => simp
    | succ j =>
      simp only [Nat.succ_ne_zero, if_false, Nat.add_sub_cancel, Nat.add_one_sub_one, List.length_cons, Nat.add_le_add_iff_right, Nat.add_sub_add_right]
      rw [ih j, Int.add_emod_emod, Int.emod_add_emod, Int.add_assoc]
theorem take_succ_snoc (a : List Int) (k : Nat) (h : k < a.length) : a.take (k + 1) = a.take k ++ [a.getD k 0] := by
  rw [List.take_succ_eq_append_getElem h, List.getD_eq_getElem?_getD, List.getElem?_eq_getElem h]
  rfl

set_option maxHeartbeats 4000000 in
theorem poly_Mul.calls (a0 : Int) (A1 : Option Addr) (c1 : Nat) (l1 : List Int) (A2 : Option Addr) (c2 : Nat) (l2 : List Int) (r : List Int) (w : World) (hr1 : Kd.C (Kd.int .u64) w A1 l1.length l1) (hc1 : l1.length ≤ c1) (hr2 : Kd.C (Kd.int .u64) w A2 l2.length l2) (hc2 : l2.length ≤ c2) (h : poly_Mul.f a0 l1 l2 = some r) :
    Calls Try.prog 40 #[.int .u64 a0, .slice A1 l1.length c1, .slice A2 l2.length c2] w fun e w' => ∃ v0_ : Value, e = .returned (v0_) ∧ Kd.R (Kd.int .u64) 22 w' w.heap.size (fun _ => True) v0_ r ∧ Below w.heap.size w w' := by
  unfold poly_Mul.f at h
  split at h
  · rename_i hg
    simp only [Bool.and_eq_true, decide_eq_true_eq] at hg
    obtain ⟨⟨⟨⟨hp, ha⟩, hb⟩, hla⟩, hlb⟩ := hg
    obtain rfl := Option.some.inj h
    clear h
    have HP := Aside0.mk hp
    have HA := Aside0.mk ha
    have HBF := Aside0.mk hb
    have HR1 := Aside0.mk hr1
    have HR2 := Aside0.mk hr2
    clear hp ha hb hr1 hr2
    go_enter Try.func40, Try.ntmps40
    go_wp2
    go_loopw [20] (fun i wr => ∃ (k : Nat) (f : List Int), k ≤ l1.length ∧ i = .int .i64 k ∧ Aside0 (Holds a0 f 2097152 (fun j => (pmul a0 (l1.take k) l2).getD j 0)) ∧ Aside0 (SumAt wr w.heap.size w.heap.size a0 f) ∧ Aside0 (Below w.heap.size w wr)) (fun i _ => l1.length - (intOf i).toNat)
    case atStart => exact ⟨0, [], Nat.zero_le _, rfl, ⟨⟨rfl, by simp, fun j => by simp [pmul]⟩⟩, ⟨⟨_, blk_new _ _, Kd.R_nil _ _ _ _ _⟩⟩, ⟨below_alloc (Below.refl _ _) _⟩⟩
    case round =>
      obtain ⟨i, f, hi, rfl, HH, HS, HB⟩ := hrel
      by_cases hlt : i < l1.length
      · obtain ⟨ad, e1, hx⟩ := Kd.at_int (Kd.C_below HR1.out HB.out) (i : Int) (by omega) (by omega)
        subst e1
        have hi0 : (0 : Int) ≤ i := by omega
        have hi1 : (i : Int) < (l1.length : Int) := by omega
        rw [Int.toNat_natCast] at hx
        have HU := Aside0.mk (show inF a0 (rd l1 (i : Int)) = true by rw [rd_nat]; exact allF_getD HP.out HA.out i)
        obtain ⟨u, hu⟩ : ∃ u, u = rd l1 (i : Int) := ⟨_, rfl⟩
        have HUe := Aside0.mk hu
        rw [← hu] at hx HU
        clear hu
        go_wp2
        obtain ⟨wo, hwo⟩ : ∃ wo : World, wo = wr := ⟨_, rfl⟩
        subst hwo
        go_loopw [27, 11, 12] (fun k _ _ wr => ∃ (m : Nat) (f : List Int), m ≤ l2.length ∧ k = .int .i64 m ∧ Aside0 (Holds a0 f 2097152 (fun j => ((pmul a0 (l1.take i) l2).getD j 0 + (if i ≤ j ∧ j - i < m then u * l2.getD (j - i) 0 else 0)) % a0)) ∧ Aside0 (SumAt wr w.heap.size w.heap.size a0 f) ∧ Aside0 (Below w.heap.size w wr)) (fun k _ _ _ => l2.length - (intOf k).toNat)
        case atStart =>
          refine ⟨0, f, Nat.zero_le _, rfl, ⟨⟨HH.out.all, HH.out.few, fun j => ?_⟩⟩, HS, HB⟩
          rw [HH.out.at_ j, if_neg (by omega), Int.add_zero, modF (allF_getD HP.out (pmul_allF a0 HP.out _ _) j)]
        case round =>
          clear HH HS HB
          obtain ⟨m, f, hm, rfl, HH, HS, HB⟩ := hrel
          by_cases hlt2 : m < l2.length
          · obtain ⟨ad2, e2, hx2⟩ := Kd.at_int (Kd.C_below HR2.out HB.out) (m : Int) (by omega) (by omega)
            subst e2
            have hm0 : (0 : Int) ≤ m := by omega
            have hm1 : (m : Int) < (l2.length : Int) := by omega
            rw [Int.toNat_natCast] at hx2
            have HV := Aside0.mk (show inF a0 (rd l2 (m : Int)) = true by rw [rd_nat]; exact allF_getD HP.out HBF.out m)
            have hmulf := Aside0.mk (show field_Mul.f a0 u (rd l2 (m : Int)) = some (u * rd l2 (m : Int) % a0) by unfold field_Mul.f; rw [HP.out, HU.out, HV.out]; rfl)
            go_wp2_with (first | (go_at_call 23; (with_reducible refine (field_Mul.calls a0 u (rd l2 (m : Int)) _ _ hmulf.out).mono ?_); rintro e w' ⟨rfl, ⟨nd, rfl⟩⟩) | (go_at_call 61; (with_reducible refine (put_at a0 (u * rd l2 (m : Int) % a0) (i + m) _ (by omega) f w _ w.heap.size w.heap.size HP.out HH.out.all (inF_mod HP.out _) (by omega) (by have := HH.out.few; omega) (SumAt.drewN HS.out _) (pw_below_drewN HB.out _) (Nat.le_refl _)).mono ?_); rintro e w' ⟨rfl, hs, hb⟩; have HS1 := Aside0.mk hs; have HB1 := Aside0.mk hb; clear hs hb))
            go_roundw
            case rel =>
              refine ⟨m + 1, _, by omega, by go_num, ⟨?_⟩, HS1, HB1⟩
              have h1 := HH.out.put HP.out (i + m) (u * rd l2 (m : Int) % a0) (by omega)
              refine ⟨h1.all, h1.few, fun j => ?_⟩
              rw [h1.at_ j]
              by_cases hj : j = i + m
              · subst hj
                rw [if_pos rfl, if_neg (by omega), if_pos (by omega), Int.add_zero, rd_nat, Int.emod_add_emod, Int.add_emod_emod, show i + m - i = m by omega]
              · rw [if_neg hj]
                by_cases hj2 : i ≤ j ∧ j - i < m
                · rw [if_pos hj2, if_pos (by omega)]
                · rw [if_neg hj2, if_neg (by omega)]
            case measure => simp [intOf]; omega
          · obtain rfl : m = l2.length := by omega
            go_wp2
            go_roundw
            case rel =>
              refine ⟨i + 1, f, by omega, by go_num, ⟨⟨HH.out.all, HH.out.few, fun j => ?_⟩⟩, HS, HB⟩
              rw [HH.out.at_ j, take_succ_snoc l1 i hlt, pmul_snoc_getD a0 HP.out, List.length_take, Nat.min_eq_left (by omega), HUe.out, rd_nat]
              by_cases hj : i ≤ j
              · rw [if_pos hj]
                by_cases hj2 : j - i < l2.length
                · rw [if_pos ⟨hj, hj2⟩]
                · rw [if_neg (by omega), List.getD_eq_getElem?_getD (l := l2), List.getElem?_eq_none (by omega)]
                  simp
              · rw [if_neg hj, if_neg (by omega)]
            case measure => simp [intOf]; omega
      · obtain rfl : i = l1.length := by omega
        obtain ⟨v, hb, hr⟩ := HS.out
        have hcv := blk_cell hb 1
        have HRr := Aside0.mk hr
        obtain ⟨A, c, ev, hlc, hC⟩ := Kd.R_reads hr
        subst ev
        simp at hcv
        have ht : poly_Trim.f f = some (trimL (pmul a0 l1 l2)) := by
          unfold poly_Trim.f fewL
          rw [if_pos (decide_eq_true (by have := HH.out.few; omega))]
          congr 1
          refine trimL_ext fun j => ?_
          rw [HH.out.at_ j, List.take_length]
        have HTt := Aside0.mk ht
        have HCc := Aside0.mk hC
        clear hb hr ht hC
        go_wp2_with (go_at_call 37; (with_reducible refine (poly_Trim.calls A c f _ _ HCc.out hlc HTt.out).mono ?_); rintro e w' ⟨v9, rfl, hr9, hb9⟩; have HR9 := Aside0.mk hr9; have HB9 := Aside0.mk hb9; clear hr9 hb9)
        go_ret
        exact ⟨_, rfl, Kd.R_lower HR9.out HB.out.size, below_step HB.out HB9.out⟩
  · cases h
end Go.Proofs.Ytkcjhcjlaefgmaa
