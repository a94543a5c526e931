/- Functions of the program as plain Lean functions, each with a proof that its call does what the function says; written by a program of this session. -/
import Derived.Test.YtkjknpibcbpdfaaD0
import Derived.Test.YtkjknpibcbpdfaaBase
import Derived.Test.YtkjknpibcbpdfaaMat10
import Derived.Test.YtkjknpibcbpdfaaETrim
import Derived.Test.YtkjknpibcbpdfaaSeen
namespace Go.Proofs.Ytkjknpibcbpdfaa.D
open Go.RowKit Go.Proofs.YtkjknpibcbpdfaaW.PrintWords Go.Proofs.YtkjknpibcbpdfaaW.PrintLast Go.Proofs.YtkjknpibcbpdfaaW.PrintMore
attribute [local go_sem] max2_int min2_int max_two min_two max_three min_three max_four min_four   -- for this text's walks alone
set_option linter.unusedVariables false
set_option linter.unusedSimpArgs false

/-! ### reedsolomon_may: function 65 -/
mutual
def reedsolomon_may.j0 : Nat → List (S71) → Bool → Option (Bool)
 | 0, _, _ => none
 | k + 1, x0, x37 => if x37 = true then (some false) else (reedsolomon_may.l0 k x0 (x0.length : Int) 0)
def reedsolomon_may.l0 : Nat → List (S71) → Int → Int → Option (Bool)
 | 0, _, _, _ => none
 | k + 1, x39, x40, x41 => if x41 < x40 then (if 0 ≤ x41 then (if x41 < (x39.length : Int) then (if decide (((rd_T71 x39 x41).f0) ∈ (x39.take x41.toNat).map (·.f0)) = true then (some false) else (reedsolomon_may.l0 k x39 x40 (wrap64 (x41 + 1)))) else (none)) else (none)) else (some true)
end
def reedsolomon_may.okX (l : List (S71)) : Bool := decide (l.length ≤ 1099511627776) && l.all fun q => decide (0 ≤ q.f0) && decide (q.f0 < 18446744073709551616)
def reedsolomon_may.f (k : Nat) (l0 : List (S71)) (a1 : Int) (a2 : Int) : Option (Bool) := if reedsolomon_may.okX l0 = true then (if a1 < 0 then (reedsolomon_may.j0 k l0 true) else (if a2 < 0 then (reedsolomon_may.j0 k l0 true) else (if a2 > (l0.length : Int) then (reedsolomon_may.j0 k l0 true) else (if a1 > (l0.length : Int) then (reedsolomon_may.j0 k l0 true) else (reedsolomon_may.j0 k l0 (decide ((l0.length : Int) < (wrap64 ((wrap64 (a1 + 1)) + (wrap64 (2 * a2))))))))))) else none
theorem reedsolomon_may.mono_l : ∀ k, (∀ y0 y1, LeO (reedsolomon_may.j0 k y0 y1) (reedsolomon_may.j0 (k + 1) y0 y1)) ∧ (∀ y0 y1 y2, LeO (reedsolomon_may.l0 k y0 y1 y2) (reedsolomon_may.l0 (k + 1) y0 y1 y2))
 | 0 => ⟨fun _ _ r h => by simp [reedsolomon_may.j0] at h, fun _ _ _ r h => by simp [reedsolomon_may.l0] at h⟩
 | k + 1 => by
  obtain ⟨ih0, ih1⟩ := reedsolomon_may.mono_l k
  refine ⟨?_, ?_⟩
  ·intro y0 y1
   unfold reedsolomon_may.j0
   repeat' first
   | (with_reducible exact ih0 _ _)
   | (with_reducible exact ih1 _ _ _)
   | (with_reducible exact LeO.refl _)
   | (with_reducible exact LeO.none _)
   | (with_reducible refine LeO.ite ?_ ?_)
   | (with_reducible refine LeO.bind ?_ (fun _ => ?_))
   | exact ih0 _ _
   | exact ih1 _ _ _
   | exact LeO.none _
   | refine LeO.ite ?_ ?_
   | refine LeO.bind ?_ (fun _ => ?_)
  ·intro y0 y1 y2
   unfold reedsolomon_may.l0
   repeat' first
   | (with_reducible exact ih0 _ _)
   | (with_reducible exact ih1 _ _ _)
   | (with_reducible exact LeO.refl _)
   | (with_reducible exact LeO.none _)
   | (with_reducible refine LeO.ite ?_ ?_)
   | (with_reducible refine LeO.bind ?_ (fun _ => ?_))
   | exact ih0 _ _
   | exact ih1 _ _ _
   | exact LeO.none _
   | refine LeO.ite ?_ ?_
   | refine LeO.bind ?_ (fun _ => ?_)
theorem reedsolomon_may.mono : ∀ a0 a1 a2 k, LeO (reedsolomon_may.f k a0 a1 a2) (reedsolomon_may.f (k + 1) a0 a1 a2) := by
 intro a0 a1 a2 k
 obtain ⟨ih0, ih1⟩ := reedsolomon_may.mono_l k
 unfold reedsolomon_may.f
 repeat' first
   | (with_reducible exact ih0 _ _)
   | (with_reducible exact ih1 _ _ _)
   | (with_reducible exact LeO.refl _)
   | (with_reducible exact LeO.none _)
   | (with_reducible refine LeO.ite ?_ ?_)
   | (with_reducible refine LeO.bind ?_ (fun _ => ?_))
   | exact ih0 _ _
   | exact ih1 _ _ _
   | exact LeO.none _
   | refine LeO.ite ?_ ?_
   | refine LeO.bind ?_ (fun _ => ?_)
theorem reedsolomon_may.wf {l : List (S71)} (h : reedsolomon_may.okX l = true) {i : Int} (hi : 0 ≤ i) (hl : i < (l.length : Int)) : (Lit.int .u64 ((rd_T71 l i).f0)).wf = true := by
 unfold reedsolomon_may.okX at h
 rw [Bool.and_eq_true, List.all_eq_true] at h
 have hm : rd_T71 l i ∈ l := by
  have hlt : i.toNat < l.length := by omega
  unfold rd_T71
  rw [List.getD_eq_getElem?_getD, List.getElem?_eq_getElem hlt]
  exact List.getElem_mem hlt
 have := h.2 _ hm
 rw [Bool.and_eq_true] at this
 exact seen_wf (of_decide_eq_true this.1) (of_decide_eq_true this.2)
theorem reedsolomon_may.few {l : List (S71)} (h : reedsolomon_may.okX l = true) : l.length ≤ 1099511627776 := by
 unfold reedsolomon_may.okX at h
 rw [Bool.and_eq_true] at h
 exact of_decide_eq_true h.1
theorem reedsolomon_may.step {l : List (S71)} (h : reedsolomon_may.okX l = true) {i : Int} (hi : 0 ≤ i) (hl : i < (l.length : Int)) {w : World} {b : Nat} (hS : Seen w b (i.toNat + 1) (((rd_T71 l i).f0) :: (l.take i.toNat).map (·.f0))) : Seen w b (wrap64 (i + 1)).toNat ((l.take (wrap64 (i + 1)).toNat).map (·.f0)) := by
 have h0 := reedsolomon_may.few h
 have hw : (wrap64 (i + 1)).toNat = i.toNat + 1 := by unfold wrap64; omega
 have hlt : i.toNat < l.length := by omega
 rw [hw]
 refine hS.to (Nat.le_refl _) (fun x => ?_)
 have e : rd_T71 l i = l[i.toNat] := by
  unfold rd_T71
  rw [List.getD_eq_getElem?_getD, List.getElem?_eq_getElem hlt]
  rfl
 rw [e, List.take_succ_eq_append_getElem hlt, List.map_append, List.mem_append, List.mem_cons]
 simp only [List.map_cons, List.map_nil, List.mem_singleton]
 exact Or.comm
set_option maxHeartbeats 8000000 in
set_option maxRecDepth 100000 in
theorem reedsolomon_may.calls (k : Nat) (A0 : Option Addr) (c0 : Nat) (l0 : List (S71)) (a1 : Int) (a2 : Int) (r : Bool) (w : World) (hr0 : Kd.C k71 w A0 l0.length l0) (hc0 : l0.length ≤ c0) (h : reedsolomon_may.f k l0 a1 a2 = some r) :
  Calls Try.prog 65 #[.slice A0 l0.length c0, .int .i64 a1, .int .i64 a2] w fun e w' => e = .returned (.bool r) ∧ Below w.heap.size w w' := by
 have hu71 := Try.underlying71
 have HR0 := Aside0.mk hr0
 have HC0 := Aside0.mk hc0
 clear hr0 hc0
 have HB := Aside0.mk (Below.refl w.heap.size w)
 unfold reedsolomon_may.f at h
 split at h
 case isFalse => cases h
 rename_i hokX
 have HX := Aside0.mk hokX
 clear hokX
 have H : (if a1 < 0 then (reedsolomon_may.j0 k l0 true) else (if a2 < 0 then (reedsolomon_may.j0 k l0 true) else (if a2 > (l0.length : Int) then (reedsolomon_may.j0 k l0 true) else (if a1 > (l0.length : Int) then (reedsolomon_may.j0 k l0 true) else (reedsolomon_may.j0 k l0 (decide ((l0.length : Int) < (wrap64 ((wrap64 (a1 + 1)) + (wrap64 (2 * a2))))))))))) = some r := h
 clear h
 have HC4 := Aside0.mk H
 clear H
 have hmm := @run_makeMap Try.prog
 go_enter Try.func65, Try.ntmps65
 go_upto_region 1 with (fail)
 go_cut [37] (fun v37 wc => ∃ (kq : Nat) (x37_3 : Bool), v37 = .bool x37_3 ∧ Aside0 (reedsolomon_may.j0 kq l0 x37_3 = some r) ∧ Aside0 (kq ≤ k) ∧ Aside0 (Below w.heap.size w wc))
 case first =>
  have H := HC4.out
  clear HC4
  by_cases c5 : a1 < 0
  ·rw [if_pos c5] at H
   have c5b0 : decide (a1 < 0) = true := decide_eq_true c5
   clear c5
   (first | rw [c5b0] | (simp only [i64_w, i32_w]; rw [c5b0]) | skip)
   have H' := Aside0.mk H
   clear H
   go_wp2
   go_meet
   case rel => exact ⟨_, (true), (by first | rfl | (simp; done) | (simp [*]; done)), H', ⟨by first | omega | exact Nat.le_refl _⟩, ⟨by repeat (first | (with_reducible first | exact HB.out | apply below_alloc | apply pw_below_drewN | apply below_drew1) | exact HB.out)⟩⟩
  ·rw [if_neg c5] at H
   have c5b0 : decide (a1 < 0) = false := decide_eq_false c5
   clear c5
   (first | rw [c5b0] | (simp only [i64_w, i32_w]; rw [c5b0]) | skip)
   by_cases c6 : a2 < 0
   ·rw [if_pos c6] at H
    have c6b0 : decide (a2 < 0) = true := decide_eq_true c6
    clear c6
    have H' := Aside0.mk H
    clear H
    go_wp2
    go_meet
    case rel => exact ⟨_, (true), (by first | rfl | (simp; done) | (simp [*]; done)), H', ⟨by first | omega | exact Nat.le_refl _⟩, ⟨by repeat (first | (with_reducible first | exact HB.out | apply below_alloc | apply pw_below_drewN | apply below_drew1) | exact HB.out)⟩⟩
   ·rw [if_neg c6] at H
    have c6b0 : decide (a2 < 0) = false := decide_eq_false c6
    clear c6
    by_cases c7 : a2 > (l0.length : Int)
    ·rw [if_pos c7] at H
     have c7b0 : decide ((l0.length : Int) < a2) = true := decide_eq_true c7
     clear c7
     have H' := Aside0.mk H
     clear H
     go_wp2
     go_meet
     case rel => exact ⟨_, (true), (by first | rfl | (simp; done) | (simp [*]; done)), H', ⟨by first | omega | exact Nat.le_refl _⟩, ⟨by repeat (first | (with_reducible first | exact HB.out | apply below_alloc | apply pw_below_drewN | apply below_drew1) | exact HB.out)⟩⟩
    ·rw [if_neg c7] at H
     have c7b0 : decide ((l0.length : Int) < a2) = false := decide_eq_false c7
     clear c7
     by_cases c8 : a1 > (l0.length : Int)
     ·rw [if_pos c8] at H
      have c8b0 : decide ((l0.length : Int) < a1) = true := decide_eq_true c8
      clear c8
      have H' := Aside0.mk H
      clear H
      go_wp2
      go_meet
      case rel => exact ⟨_, (true), (by first | rfl | (simp; done) | (simp [*]; done)), H', ⟨by first | omega | exact Nat.le_refl _⟩, ⟨by repeat (first | (with_reducible first | exact HB.out | apply below_alloc | apply pw_below_drewN | apply below_drew1) | exact HB.out)⟩⟩
     ·rw [if_neg c8] at H
      have c8b0 : decide ((l0.length : Int) < a1) = false := decide_eq_false c8
      clear c8
      have H' := Aside0.mk H
      clear H
      go_wp2
      go_meet
      case rel => exact ⟨_, (decide ((l0.length : Int) < (wrap64 ((wrap64 (a1 + 1)) + (wrap64 (2 * a2)))))), (by first | rfl | (simp; done) | (simp [*]; done)), H', ⟨by first | omega | exact Nat.le_refl _⟩, ⟨by repeat (first | (with_reducible first | exact HB.out | apply below_alloc | apply pw_below_drewN | apply below_drew1) | exact HB.out)⟩⟩
 case rest =>
  clear HC4
  try clear p2; try clear c5; try clear c5b0; try clear c6; try clear c6b0; try clear p6; try clear c7; try clear c7b0; try clear c8; try clear c8b0
  obtain ⟨kq, x37_3, rfl, HA, HJ3, HB⟩ := hcut
  cases kq with
  | zero => exact absurd HA.out (by simp [reedsolomon_may.j0])
  | succ kj3 =>
   have H := HA.out
   clear HA
   simp only [reedsolomon_may.j0] at H
   by_cases c9 : x37_3 = true
   ·subst c9
    have H1 : (some false) = some r := by rw [if_pos rfl] at H; exact H
    clear H
    have H := H1
    clear H1
    obtain rfl := Option.some.inj H
    go_wp2
    go_ret
    exact ⟨by first | rfl | (simp [errW_none, errW_some] <;> rfl) | (simp [*, errW_none, errW_some] <;> rfl), by repeat (first | (with_reducible first | exact HB.out | apply below_alloc | apply pw_below_drewN | apply below_drew1) | exact HB.out)⟩
   ·replace c9 := Bool.eq_false_iff.mpr c9
    subst c9
    have H1 : (reedsolomon_may.l0 kj3 l0 (l0.length : Int) 0) = some r := by rw [if_neg (show ¬ (false = true) by decide)] at H; exact H
    clear H
    have H := H1
    clear H1
    have H' := Aside0.mk H
    clear H
    go_wp2
    generalize hb7 : wc.heap.size = b7
    have SB : Aside0 (w.heap.size ≤ b7) := Aside0.mk (by rw [← hb7]; exact below_size HB.out)
    have S0 : Aside0 (Seen (wc.alloc (.map #[] 0)) b7 0 []) := Aside0.mk (by rw [← hb7]; exact Seen.made wc)
    clear hb7
    go_loopg [41] kj3 (fun kq v41 w' => ∃ (x41_2 : Int), v41 = .int .i64 x41_2 ∧ Aside0 (reedsolomon_may.l0 kq l0 (l0.length : Int) x41_2 = some r) ∧ Aside0 (kq ≤ kj3) ∧ Aside0 (Below w.heap.size w w') ∧ Aside0 (Seen w' b7 x41_2.toNat ((l0.take x41_2.toNat).map (·.f0))))
    case atStart => exact ⟨(0), (by first | rfl | (simp; done) | (simp [*]; done)), H', ⟨Nat.le_refl _⟩, ⟨by repeat (first | (with_reducible first | exact HB.out | apply below_alloc | apply pw_below_drewN | apply below_drew1) | exact HB.out)⟩, ⟨S0.out.to (Nat.le_refl _) (fun x => by simp)⟩⟩
    case round =>
     clear H'
     try clear p2; try clear c5; try clear c5b0; try clear c6; try clear c6b0; try clear p6; try clear c7; try clear c7b0; try clear c8; try clear c8b0; try clear c9; try clear p2; try clear p6
     clear S0
     obtain ⟨x41_2, rfl, HA, HK2, HB, SN⟩ := hrel
     cases gk with
     | zero => exact absurd HA.out (by simp [reedsolomon_may.l0])
     | succ k2 =>
      have H := HA.out
      clear HA
      simp only [reedsolomon_may.l0] at H
      by_cases c10 : x41_2 < (l0.length : Int)
      ·rw [if_pos c10] at H
       have c10b0 : decide (x41_2 < (l0.length : Int)) = true := decide_eq_true c10
       clear c10
       by_cases c11 : 0 ≤ x41_2
       ·rw [if_pos c11] at H
        have c11b0 : decide (0 ≤ x41_2) = true := decide_eq_true c11
        clear c11
        by_cases c12 : x41_2 < (l0.length : Int)
        ·rw [if_pos c12] at H
         have c12b0 : decide (x41_2 < (l0.length : Int)) = true := decide_eq_true c12
         clear c12
         by_cases c13 : decide (((rd_T71 l0 x41_2).f0) ∈ (l0.take x41_2.toNat).map (·.f0)) = true
         ·rw [if_pos c13] at H
          have c13b0 : decide (((rd_T71 l0 x41_2).f0) ∈ (l0.take x41_2.toNat).map (·.f0)) = true := c13
          clear c13
          obtain rfl := Option.some.inj H
          have WF13 := Aside0.mk (reedsolomon_may.wf HX.out (of_decide_eq_true c11b0) (of_decide_eq_true c12b0))
          have p127 : 0 ≤ (x41_2 : Int) := of_decide_eq_true (by first | (with_reducible assumption) | assumption)
          have q127 : x41_2 < (l0.length : Int) := of_decide_eq_true (by first | (with_reducible assumption) | assumption)
          obtain ⟨ad127, e127, hx127_0, hx127_1⟩ := at_T71 HR0.out x41_2 p127 q127
          cases e127
          replace hx127_0 := (HB.out.cell (World.block_lt_of_cell? w _ hx127_0)).trans hx127_0
          replace hx127_1 := (HB.out.cell (World.block_lt_of_cell? w _ hx127_1)).trans hx127_1
          replace p127 := eq_true p127
          replace q127 := eq_true q127
          go_wp2_with (first | ((with_reducible refine gate_dst (N := 9) rfl ?_); (try (refine gate_guard (by rfl) ?_; dsimp only)); refine box_event ?hg (N := 9) ?hd (cs := #[.int .u64 0, .int .u64 0]) (t := 71) ?hr ?_; (case hd => rfl); (case hg => rfl); (case hr => first | (go_simp; done) | (go_simp; rfl)); intro gb128 hg w14 hbox hb; have SN_ := Aside0.mk (SN.out.below hb SN.out.lt); have SL : Aside0 (b7 < gb128) := Aside0.mk (by rw [hg]; exact SN.out.lt); clear SN; have SN := SN_; clear SN_; have n0_ := Aside0.mk (below_step (by repeat (first | (with_reducible first | exact HB.out | apply below_alloc | apply pw_below_drewN | apply below_drew1) | exact HB.out)) hb); have n1_ := Aside0.mk (hbox); have n2_ := Aside0.mk ((by rw [hg]; exact (below_size (by repeat (first | (with_reducible first | exact HB.out | apply below_alloc | apply pw_below_drewN | apply below_drew1) | exact HB.out))) : w.heap.size ≤ gb128)); have n3_ := Aside0.mk ((by rw [hg]; exact (below_size (by repeat (first | (with_reducible first | exact HB.out | apply below_alloc | apply pw_below_drewN | apply below_drew1) | exact HB.out))) : w.heap.size ≤ gb128)); clear HB; have HB := n0_; have BK128 := n1_; have GW128 := n2_; have GE128 := n3_; clear n0_ n1_ n2_ n3_; clear hb hbox hg; have hcz15_0 : w14.cell? ⟨gb128, 0, none⟩ = some (.int .u64 0) := (blk_cell BK128.out 0).trans rfl; have hcz15_1 : w14.cell? ⟨gb128, 1, none⟩ = some (.int .u64 0) := (blk_cell BK128.out 1).trans rfl; have hfz15_0 := blk_frozen BK128.out 0; have hfz15_1 := blk_frozen BK128.out 1) | (at_lookup; refine look_seen rfl _ _ rfl b7 x41_2.toNat ((l0.take x41_2.toNat).map (·.f0)) rfl ((rd_T71 l0 x41_2).f0) rfl WF13.out ?seen_ true c13b0 ?_; (case seen_ => repeat (first | exact SN.out | refine Seen.set ?_ SL.out))))
          go_ret
          exact ⟨by first | rfl | (simp [errW_none, errW_some] <;> rfl) | (simp [*, errW_none, errW_some] <;> rfl), by repeat (first | (with_reducible first | exact HB.out | apply below_alloc | apply pw_below_drewN | apply below_drew1 | refine below_set ?_ GE128.out) | exact HB.out)⟩
         ·rw [if_neg c13] at H
          have c13b0 : decide (((rd_T71 l0 x41_2).f0) ∈ (l0.take x41_2.toNat).map (·.f0)) = false := Bool.eq_false_iff.mpr c13
          clear c13
          have H' := Aside0.mk H
          clear H
          have WF13 := Aside0.mk (reedsolomon_may.wf HX.out (of_decide_eq_true c11b0) (of_decide_eq_true c12b0))
          have p127 : 0 ≤ (x41_2 : Int) := of_decide_eq_true (by first | (with_reducible assumption) | assumption)
          have q127 : x41_2 < (l0.length : Int) := of_decide_eq_true (by first | (with_reducible assumption) | assumption)
          obtain ⟨ad127, e127, hx127_0, hx127_1⟩ := at_T71 HR0.out x41_2 p127 q127
          cases e127
          replace hx127_0 := (HB.out.cell (World.block_lt_of_cell? w _ hx127_0)).trans hx127_0
          replace hx127_1 := (HB.out.cell (World.block_lt_of_cell? w _ hx127_1)).trans hx127_1
          replace p127 := eq_true p127
          replace q127 := eq_true q127
          go_wp2_with (first | ((with_reducible refine gate_dst (N := 9) rfl ?_); (try (refine gate_guard (by rfl) ?_; dsimp only)); refine box_event ?hg (N := 9) ?hd (cs := #[.int .u64 0, .int .u64 0]) (t := 71) ?hr ?_; (case hd => rfl); (case hg => rfl); (case hr => first | (go_simp; done) | (go_simp; rfl)); intro gb128 hg w16 hbox hb; have SN_ := Aside0.mk (SN.out.below hb SN.out.lt); have SL : Aside0 (b7 < gb128) := Aside0.mk (by rw [hg]; exact SN.out.lt); clear SN; have SN := SN_; clear SN_; have n0_ := Aside0.mk (below_step (by repeat (first | (with_reducible first | exact HB.out | apply below_alloc | apply pw_below_drewN | apply below_drew1) | exact HB.out)) hb); have n1_ := Aside0.mk (hbox); have n2_ := Aside0.mk ((by rw [hg]; exact (below_size (by repeat (first | (with_reducible first | exact HB.out | apply below_alloc | apply pw_below_drewN | apply below_drew1) | exact HB.out))) : w.heap.size ≤ gb128)); have n3_ := Aside0.mk ((by rw [hg]; exact (below_size (by repeat (first | (with_reducible first | exact HB.out | apply below_alloc | apply pw_below_drewN | apply below_drew1) | exact HB.out))) : w.heap.size ≤ gb128)); clear HB; have HB := n0_; have BK128 := n1_; have GW128 := n2_; have GE128 := n3_; clear n0_ n1_ n2_ n3_; clear hb hbox hg; have hcz17_0 : w16.cell? ⟨gb128, 0, none⟩ = some (.int .u64 0) := (blk_cell BK128.out 0).trans rfl; have hcz17_1 : w16.cell? ⟨gb128, 1, none⟩ = some (.int .u64 0) := (blk_cell BK128.out 1).trans rfl; have hfz17_0 := blk_frozen BK128.out 0; have hfz17_1 := blk_frozen BK128.out 1) | (at_lookup; refine look_seen rfl _ _ rfl b7 x41_2.toNat ((l0.take x41_2.toNat).map (·.f0)) rfl ((rd_T71 l0 x41_2).f0) rfl WF13.out ?seen_ false c13b0 ?_; (case seen_ => repeat (first | exact SN.out | refine Seen.set ?_ SL.out))) | (at_mapUpdate; refine put_seen rfl _ _ _ rfl b7 x41_2.toNat ((l0.take x41_2.toNat).map (·.f0)) rfl ((rd_T71 l0 x41_2).f0) rfl rfl WF13.out ?seen_ (by have := reedsolomon_may.few HX.out; have := of_decide_eq_true c12b0; unfold maxLen; omega) ?_; (case seen_ => repeat (first | exact SN.out | refine Seen.set ?_ SL.out)); intro w90 SN2_ hg2_; have HB2_ := Aside0.mk (Below.grown (by repeat (first | (with_reducible first | exact HB.out | apply below_alloc | apply pw_below_drewN | apply below_drew1 | refine below_set ?_ GE128.out) | exact HB.out)) hg2_ (below_size (by repeat (first | (with_reducible first | exact HB.out | apply below_alloc | apply pw_below_drewN | apply below_drew1 | refine below_set ?_ GE128.out) | exact HB.out))) (fun k_ hk_ => by injection hk_ with hk_; exact hk_ ▸ SB.out)); clear hg2_ HB SN; have HB := HB2_; have SN := Aside0.mk SN2_; clear HB2_ SN2_))
          go_roundg k2
          case measure => have := HJ3.out; have := HK2.out; omega
          case rel => exact ⟨(wrap64 (x41_2 + 1)), (by first | rfl | (simp; done) | (simp [*]; done)), H', ⟨by have := HJ3.out; have := HK2.out; omega⟩, HB, ⟨reedsolomon_may.step HX.out (of_decide_eq_true c11b0) (of_decide_eq_true c12b0) SN.out⟩⟩
        ·rw [if_neg c12] at H
         exact absurd H (by simp)
       ·rw [if_neg c11] at H
        exact absurd H (by simp)
      ·rw [if_neg c10] at H
       have c10b0 : decide (x41_2 < (l0.length : Int)) = false := decide_eq_false c10
       clear c10
       obtain rfl := Option.some.inj H
       go_wp2
       go_ret
       exact ⟨by first | rfl | (simp [errW_none, errW_some] <;> rfl) | (simp [*, errW_none, errW_some] <;> rfl), by repeat (first | (with_reducible first | exact HB.out | apply below_alloc | apply pw_below_drewN | apply below_drew1) | exact HB.out)⟩

end Go.Proofs.Ytkjknpibcbpdfaa.D
