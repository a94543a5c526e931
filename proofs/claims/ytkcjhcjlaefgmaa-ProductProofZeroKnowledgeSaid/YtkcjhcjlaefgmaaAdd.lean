/- poly.Add and poly.Mul: the trimmed sum and the trimmed product of two lists of reduced coefficients. -/
import Derived.Test.YtkcjhcjlaefgmaaPut
import Derived.Test.YtkcjhcjlaefgmaaTrim
namespace Go.Proofs.Ytkcjhcjlaefgmaa
open Go.RowKit Go.Proofs.YtkcjhcjlaefgmaaW.PrintWords Go.Proofs.YtkcjhcjlaefgmaaW.PrintLast
set_option linter.unusedVariables false
set_option linter.unusedSimpArgs false

theorem padTo_getD (f : List Int) (i j : Nat) : (padTo f i).getD j 0 = f.getD j 0 := by
  unfold padTo
  rw [List.getD_eq_getElem?_getD, List.getD_eq_getElem?_getD, List.getElem?_append]
  split
  · rfl
  · rename_i h
    rw [List.getElem?_eq_none (show f.length ≤ j by omega), List.getElem?_replicate]
    split <;> rfl
theorem putL_getD (p : Int) (f : List Int) (i : Nat) (k : Int) (j : Nat) : (putL p f i k).getD j 0 = if j = i then (f.getD i 0 + k) % p else f.getD j 0 := by
  unfold putL
  rw [List.getD_eq_getElem?_getD, List.getElem?_set]
  by_cases h : i = j
  · subst h
    rw [if_pos rfl, if_pos (padTo_length f i), if_pos rfl, padTo_getD]
    rfl
  · rw [if_neg h, if_neg (fun e => h e.symm), ← List.getD_eq_getElem?_getD, padTo_getD]
theorem putL_length (p : Int) (f : List Int) (i : Nat) (k : Int) : (putL p f i k).length = max f.length (i + 1) := by
  unfold putL padTo
  rw [List.length_set, List.length_append, List.length_replicate]
  omega
theorem putL_allF {p : Int} (hp : okp p = true) {f : List Int} (h : allF p f = true) (i : Nat) (k : Int) : allF p (putL p f i k) = true := by
  refine allF_of_getD fun j hj => ?_
  rw [putL_getD]
  split
  · exact inF_mod hp _
  · exact allF_getD hp h j
theorem modF {p x : Int} (h : inF p x = true) : x % p = x := by
  have := inF_iff.1 h
  exact Int.emod_eq_of_lt this.1 this.2
theorem take_getD (a : List Int) (k j : Nat) : (a.take k).getD j 0 = if j < k then a.getD j 0 else 0 := by
  rw [List.getD_eq_getElem?_getD, List.getElem?_take, List.getD_eq_getElem?_getD]
  split <;> rfl

/-- What the accumulator's row holds: reduced numbers, not many, and at each place the given one. -/
structure Holds (p : Int) (f : List Int) (n : Nat) (c : Nat → Int) : Prop where
  all : allF p f = true
  few : f.length ≤ n
  at_ : ∀ j, f.getD j 0 = c j

theorem Holds.put {p : Int} (hp : okp p = true) {f : List Int} {n : Nat} {c : Nat → Int} (h : Holds p f n c) (i : Nat) (k : Int) (hi : i < n) : Holds p (putL p f i k) n (fun j => if j = i then (c i + k) % p else c j) :=
  ⟨putL_allF hp h.all i k, by rw [putL_length]; have := h.few; omega, fun j => by rw [putL_getD, h.at_, h.at_]⟩

set_option maxHeartbeats 4000000 in
theorem poly_Add.calls (a0 : Int) (A1 : Option Addr) (c1 : Nat) (l1 : List Int) (A2 : Option Addr) (c2 : Nat) (l2 : List Int) (r : List Int) (w : World) (hr1 : Kd.C (Kd.int .u64) w A1 l1.length l1) (hc1 : l1.length ≤ c1) (hr2 : Kd.C (Kd.int .u64) w A2 l2.length l2) (hc2 : l2.length ≤ c2) (h : poly_Add.f a0 l1 l2 = some r) :
    Calls Try.prog 35 #[.int .u64 a0, .slice A1 l1.length c1, .slice A2 l2.length c2] w fun e w' => ∃ v0_ : Value, e = .returned (v0_) ∧ Kd.R (Kd.int .u64) 22 w' w.heap.size (fun _ => True) v0_ r ∧ Below w.heap.size w w' := by
  unfold poly_Add.f fewL at h
  split at h
  · rename_i hg
    simp only [Bool.and_eq_true, decide_eq_true_eq] at hg
    obtain ⟨⟨⟨⟨hp, ha⟩, hb⟩, hla⟩, hlb⟩ := hg
    obtain rfl := Option.some.inj h
    clear h
    have HP := Aside0.mk hp
    have HA := Aside0.mk ha
    have HBF := Aside0.mk hb
    have HR1 := Aside0.mk hr1
    have HR2 := Aside0.mk hr2
    clear hp ha hb hr1 hr2
    go_enter Try.func35, Try.ntmps35
    go_wp2
    go_loopw [20] (fun i wr => ∃ (k : Nat) (f : List Int), k ≤ l1.length ∧ i = .int .i64 k ∧ Aside0 (Holds a0 f 1099511627776 (fun j => (l1.take k).getD j 0)) ∧ Aside0 (SumAt wr w.heap.size w.heap.size a0 f) ∧ Aside0 (Below w.heap.size w wr)) (fun i _ => l1.length - (intOf i).toNat)
    case atStart => exact ⟨0, [], Nat.zero_le _, rfl, ⟨⟨rfl, by simp, fun j => by simp⟩⟩, ⟨⟨_, blk_new _ _, Kd.R_nil _ _ _ _ _⟩⟩, ⟨below_alloc (Below.refl _ _) _⟩⟩
    case round =>
      obtain ⟨k, f, hk, rfl, HH, HS, HB⟩ := hrel
      by_cases hlt : k < l1.length
      · obtain ⟨ad, e1, hx⟩ := Kd.at_int (Kd.C_below HR1.out HB.out) (k : Int) (by omega) (by omega)
        subst e1
        have hi0 : (0 : Int) ≤ k := by omega
        have hi1 : (k : Int) < (l1.length : Int) := by omega
        rw [Int.toNat_natCast] at hx
        have HIN := Aside0.mk (show inF a0 (rd l1 (k : Int)) = true by rw [rd_nat]; exact allF_getD HP.out HA.out k)
        go_wp2_with (go_at_call 61; (with_reducible refine (put_any a0 (rd l1 (k : Int)) k f w _ w.heap.size w.heap.size HP.out HH.out.all HIN.out (by omega) HH.out.few HS.out HB.out (Nat.le_refl _)).mono ?_); rintro e w' ⟨rfl, hs, hb⟩; have HS1 := Aside0.mk hs; have HB1 := Aside0.mk hb; clear hs hb)
        go_roundw
        case rel =>
          refine ⟨k + 1, _, by omega, by go_num, ⟨?_⟩, HS1, HB1⟩
          have h1 := HH.out.put HP.out k (rd l1 (k : Int)) (by omega)
          refine ⟨h1.all, h1.few, fun j => ?_⟩
          rw [h1.at_ j]
          simp only [take_getD]
          by_cases hj : j = k
          · subst hj
            rw [if_pos rfl, if_neg (by omega), if_pos (by omega), rd_nat, Int.zero_add, modF (allF_getD HP.out HA.out j)]
          · rw [if_neg hj]
            by_cases hj2 : j < k
            · rw [if_pos hj2, if_pos (by omega)]
            · rw [if_neg hj2, if_neg (by omega)]
        case measure => simp [intOf]; omega
      · obtain rfl : k = l1.length := by omega
        go_wp2
        obtain ⟨wo, hwo⟩ : ∃ wo : World, wo = wr := ⟨_, rfl⟩
        subst hwo
        go_loopw [32] (fun i wr => ∃ (k : Nat) (f : List Int), k ≤ l2.length ∧ i = .int .i64 k ∧ Aside0 (Holds a0 f 1099511627776 (fun j => (l1.getD j 0 + (l2.take k).getD j 0) % a0)) ∧ Aside0 (SumAt wr w.heap.size w.heap.size a0 f) ∧ Aside0 (Below w.heap.size w wr)) (fun i _ => l2.length - (intOf i).toNat)
        case atStart =>
          refine ⟨0, f, Nat.zero_le _, rfl, ⟨⟨HH.out.all, HH.out.few, fun j => ?_⟩⟩, HS, HB⟩
          rw [HH.out.at_ j]
          rw [List.take_zero, List.getD_nil, Int.add_zero, modF (allF_getD HP.out HA.out j), List.take_length]
        case round =>
          clear HH HS HB hlt
          obtain ⟨k, f, hk2, rfl, HH, HS, HB⟩ := hrel
          by_cases hlt : k < l2.length
          · obtain ⟨ad, e1, hx⟩ := Kd.at_int (Kd.C_below HR2.out HB.out) (k : Int) (by omega) (by omega)
            subst e1
            have hi0 : (0 : Int) ≤ k := by omega
            have hi1 : (k : Int) < (l2.length : Int) := by omega
            rw [Int.toNat_natCast] at hx
            have HIN := Aside0.mk (show inF a0 (rd l2 (k : Int)) = true by rw [rd_nat]; exact allF_getD HP.out HBF.out k)
            go_wp2_with (go_at_call 61; (with_reducible refine (put_any a0 (rd l2 (k : Int)) k f w _ w.heap.size w.heap.size HP.out HH.out.all HIN.out (by omega) HH.out.few HS.out HB.out (Nat.le_refl _)).mono ?_); rintro e w' ⟨rfl, hs, hb⟩; have HS1 := Aside0.mk hs; have HB1 := Aside0.mk hb; clear hs hb)
            go_roundw
            case rel =>
              refine ⟨k + 1, _, by omega, by go_num, ⟨?_⟩, HS1, HB1⟩
              have h1 := HH.out.put HP.out k (rd l2 (k : Int)) (by omega)
              refine ⟨h1.all, h1.few, fun j => ?_⟩
              rw [h1.at_ j]
              simp only [take_getD]
              by_cases hj : j = k
              · subst hj
                rw [if_pos rfl, if_neg (by omega), if_pos (by omega), rd_nat, Int.add_zero, Int.emod_add_emod]
              · rw [if_neg hj]
                by_cases hj2 : j < k
                · rw [if_pos hj2, if_pos (by omega)]
                · rw [if_neg hj2, if_neg (by omega)]
            case measure => simp [intOf]; omega
          · obtain rfl : k = l2.length := by omega
            obtain ⟨v, hb, hr⟩ := HS.out
            have hcv := blk_cell hb 1
            have HRr := Aside0.mk hr
            obtain ⟨A, c, ev, hlc, hC⟩ := Kd.R_reads hr
            subst ev
            simp at hcv
            have ht : poly_Trim.f f = some (trimL (padd a0 l1 l2)) := by
              unfold poly_Trim.f fewL
              rw [if_pos (decide_eq_true HH.out.few)]
              congr 1
              refine trimL_ext fun j => ?_
              rw [HH.out.at_ j, padd_getD a0 HP.out l1 l2 HA.out HBF.out]
              rw [List.take_length]
            have HTt := Aside0.mk ht
            have HCc := Aside0.mk hC
            clear hb hr ht hC
            go_wp2_with (go_at_call 37; (with_reducible refine (poly_Trim.calls A c f _ _ HCc.out hlc HTt.out).mono ?_); rintro e w' ⟨v9, rfl, hr9, hb9⟩; have HR9 := Aside0.mk hr9; have HB9 := Aside0.mk hb9; clear hr9 hb9)
            go_ret
            exact ⟨_, rfl, Kd.R_lower HR9.out HB.out.size, below_step HB.out HB9.out⟩
  · cases h
end Go.Proofs.Ytkcjhcjlaefgmaa
