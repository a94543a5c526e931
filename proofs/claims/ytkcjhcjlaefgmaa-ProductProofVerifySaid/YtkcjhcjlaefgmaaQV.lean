/- The law ProductProofVerify as a plain Lean function, with the proof that its call does what the function says; written by a program of this session, the parts on the array by hand. -/
import Derived.Test.YtkcjhcjlaefgmaaQ0
import Derived.Test.YtkcjhcjlaefgmaaBase
import Derived.Test.YtkcjhcjlaefgmaaMul
import Derived.Test.YtkcjhcjlaefgmaaProve
import Derived.Test.YtkcjhcjlaefgmaaQ2
import Derived.Test.YtkcjhcjlaefgmaaQ4
import Derived.Test.YtkcjhcjlaefgmaaQ5
namespace Go.Proofs.Ytkcjhcjlaefgmaa.Q
open Go.RowKit Go.Proofs.YtkcjhcjlaefgmaaW.PrintWords Go.Proofs.YtkcjhcjlaefgmaaW.PrintLast Go.Proofs.YtkcjhcjlaefgmaaW.PrintMore
attribute [local go_sem] max2_int min2_int max_two min_two max_three min_three max_four min_four   -- for this text's walks alone
set_option linter.unusedVariables false
set_option linter.unusedSimpArgs false

/-! ### privitylaw21_ProductProofVerify: function 6 -/
mutual
def privitylaw21_ProductProofVerify.j0 : Nat → Int → List Int → List Int → Bool → Option (Bool)
  | 0, _, _, _, _ => none
  | k + 1, x0, x2, x4, x21 => if x21 = true then ((privitylaw21_awake.f k).bind fun t163 => (some t163)) else (if 0 < (x4.length : Int) then (if x0 = 0 then (none) else (if 1 < (x4.length : Int) then (if 2 < (x4.length : Int) then (if 3 < (x4.length : Int) then ((field_Mul.f x0 (Int.tmod (rd x4 1) x0) (Int.tmod (rd x4 2) x0)).bind fun t168 => (privitylaw21_ProductProofVerify.l0 k x0 x2 (Int.tmod (rd x4 0) x0) (Int.tmod (rd x4 1) x0) (Int.tmod (rd x4 2) x0) (Int.tmod (rd x4 3) x0) t168 0)) else (none)) else (none)) else (none))) else (none))
def privitylaw21_ProductProofVerify.l0 : Nat → Int → List Int → Int → Int → Int → Int → Int → Int → Option (Bool)
  | 0, _, _, _, _, _, _, _, _ => none
  | k + 1, x0, x2, x7, x8, x9, x10, x11, x12 => if x12 < (x2.length : Int) then ((field_Pow.f x0 x7 (IntKind.u64.wrap (wrap64 (x12 + 1)))).bind fun t169 => (if 0 ≤ x12 then ((field_Mul.f x0 t169 (rd x2 x12)).bind fun t171 => ((field_Sub.f x0 x11 t171).bind fun t172 => (privitylaw21_ProductProofVerify.l0 k x0 x2 x7 x8 x9 x10 t172 (wrap64 (x12 + 1))))) else (none))) else ((privitylaw21_awake.f k).bind fun t173 => (if t173 = true then ((productproof_Verify.f k x0 x7 x8 x9 x2 x10).bind fun t174 => ((privityref21_Verify.f k x0 x7 x8 x9 x2 x10).bind fun t175 => (if (t174 == t175) = true then ((productproof_Verify.f k x0 x7 x8 x9 x2 x10).bind fun t176 => (some (t176 == (x10 == x11)))) else (none)))) else (none)))
end
def privitylaw21_ProductProofVerify.f (k : Nat) (a0 : Int) (l1 : List Int) (l2 : List Int) : Option (Bool) := (privityref01_Supported.f k a0).bind fun t161 => (if t161 = true then ((privityref06_Below.f k a0 l2 6).bind fun t162 => (privitylaw21_ProductProofVerify.j0 k a0 l2 l1 (!t162))) else (privitylaw21_ProductProofVerify.j0 k a0 l2 l1 true))
theorem privitylaw21_ProductProofVerify.mono_l : ∀ k, (∀ y0 y1 y2 y3, LeO (privitylaw21_ProductProofVerify.j0 k y0 y1 y2 y3) (privitylaw21_ProductProofVerify.j0 (k + 1) y0 y1 y2 y3)) ∧ (∀ y0 y1 y2 y3 y4 y5 y6 y7, LeO (privitylaw21_ProductProofVerify.l0 k y0 y1 y2 y3 y4 y5 y6 y7) (privitylaw21_ProductProofVerify.l0 (k + 1) y0 y1 y2 y3 y4 y5 y6 y7))
  | 0 => ⟨fun _ _ _ _ r h => by simp [privitylaw21_ProductProofVerify.j0] at h, fun _ _ _ _ _ _ _ _ r h => by simp [privitylaw21_ProductProofVerify.l0] at h⟩
  | k + 1 => by
    obtain ⟨ih0, ih1⟩ := privitylaw21_ProductProofVerify.mono_l k
    refine ⟨?_, ?_⟩
    · intro y0 y1 y2 y3
      unfold privitylaw21_ProductProofVerify.j0
      repeat' first
      | (with_reducible exact ih0 _ _ _ _)
      | (with_reducible exact ih1 _ _ _ _ _ _ _ _)
      | (with_reducible exact privitylaw21_awake.mono _)
      | (with_reducible exact privityref01_Supported.mono _ _)
      | (with_reducible exact privityref06_Below.mono _ _ _ _)
      | (with_reducible exact privityref21_Verify.mono _ _ _ _ _ _ _)
      | (with_reducible exact productproof_Verify.mono _ _ _ _ _ _ _)
      | (with_reducible exact LeO.refl _)
      | (with_reducible exact LeO.none _)
      | (with_reducible refine LeO.ite ?_ ?_)
      | (with_reducible refine LeO.bind ?_ (fun _ => ?_))
      | exact ih0 _ _ _ _
      | exact ih1 _ _ _ _ _ _ _ _
      | exact privitylaw21_awake.mono _
      | exact privityref01_Supported.mono _ _
      | exact privityref06_Below.mono _ _ _ _
      | exact privityref21_Verify.mono _ _ _ _ _ _ _
      | exact productproof_Verify.mono _ _ _ _ _ _ _
      | exact LeO.none _
      | refine LeO.ite ?_ ?_
      | refine LeO.bind ?_ (fun _ => ?_)
    · intro y0 y1 y2 y3 y4 y5 y6 y7
      unfold privitylaw21_ProductProofVerify.l0
      repeat' first
      | (with_reducible exact ih0 _ _ _ _)
      | (with_reducible exact ih1 _ _ _ _ _ _ _ _)
      | (with_reducible exact privitylaw21_awake.mono _)
      | (with_reducible exact privityref01_Supported.mono _ _)
      | (with_reducible exact privityref06_Below.mono _ _ _ _)
      | (with_reducible exact privityref21_Verify.mono _ _ _ _ _ _ _)
      | (with_reducible exact productproof_Verify.mono _ _ _ _ _ _ _)
      | (with_reducible exact LeO.refl _)
      | (with_reducible exact LeO.none _)
      | (with_reducible refine LeO.ite ?_ ?_)
      | (with_reducible refine LeO.bind ?_ (fun _ => ?_))
      | exact ih0 _ _ _ _
      | exact ih1 _ _ _ _ _ _ _ _
      | exact privitylaw21_awake.mono _
      | exact privityref01_Supported.mono _ _
      | exact privityref06_Below.mono _ _ _ _
      | exact privityref21_Verify.mono _ _ _ _ _ _ _
      | exact productproof_Verify.mono _ _ _ _ _ _ _
      | exact LeO.none _
      | refine LeO.ite ?_ ?_
      | refine LeO.bind ?_ (fun _ => ?_)
theorem privitylaw21_ProductProofVerify.mono : ∀ a0 a1 a2 k, LeO (privitylaw21_ProductProofVerify.f k a0 a1 a2) (privitylaw21_ProductProofVerify.f (k + 1) a0 a1 a2) := by
  intro a0 a1 a2 k
  obtain ⟨ih0, ih1⟩ := privitylaw21_ProductProofVerify.mono_l k
  unfold privitylaw21_ProductProofVerify.f
  repeat' first
      | (with_reducible exact ih0 _ _ _ _)
      | (with_reducible exact ih1 _ _ _ _ _ _ _ _)
      | (with_reducible exact privitylaw21_awake.mono _)
      | (with_reducible exact privityref01_Supported.mono _ _)
      | (with_reducible exact privityref06_Below.mono _ _ _ _)
      | (with_reducible exact privityref21_Verify.mono _ _ _ _ _ _ _)
      | (with_reducible exact productproof_Verify.mono _ _ _ _ _ _ _)
      | (with_reducible exact LeO.refl _)
      | (with_reducible exact LeO.none _)
      | (with_reducible refine LeO.ite ?_ ?_)
      | (with_reducible refine LeO.bind ?_ (fun _ => ?_))
      | exact ih0 _ _ _ _
      | exact ih1 _ _ _ _ _ _ _ _
      | exact privitylaw21_awake.mono _
      | exact privityref01_Supported.mono _ _
      | exact privityref06_Below.mono _ _ _ _
      | exact privityref21_Verify.mono _ _ _ _ _ _ _
      | exact productproof_Verify.mono _ _ _ _ _ _ _
      | exact LeO.none _
      | refine LeO.ite ?_ ?_
      | refine LeO.bind ?_ (fun _ => ?_)
set_option maxHeartbeats 8000000 in
set_option maxRecDepth 100000 in
theorem privitylaw21_ProductProofVerify.calls (k : Nat) (a0 : Int) (l1 : List Int) (hl1 : l1.length = 4) (A2 : Option Addr) (c2 : Nat) (l2 : List Int) (r : Bool) (w : World) (hr2 : Kd.C (Kd.int .u64) w A2 l2.length l2) (hc2 : l2.length ≤ c2) (h : privitylaw21_ProductProofVerify.f k a0 l1 l2 = some r) :
    Calls Try.prog 6 #[.int .u64 a0, .agg #[.int .u64 (rd l1 0), .int .u64 (rd l1 1), .int .u64 (rd l1 2), .int .u64 (rd l1 3)], .slice A2 l2.length c2] w fun e w' => e = .returned (.bool r) ∧ Below w.heap.size w w' := by
  have hu53 := Try.underlying53
  have HR2 := Aside0.mk hr2
  have HC2 := Aside0.mk hc2
  clear hr2 hc2
  have H : ((privityref01_Supported.f k a0).bind fun t161 => (if t161 = true then ((privityref06_Below.f k a0 l2 6).bind fun t162 => (privitylaw21_ProductProofVerify.j0 k a0 l2 l1 (!t162))) else (privitylaw21_ProductProofVerify.j0 k a0 l2 l1 true))) = some r := h
  clear h
  have HC4 := Aside0.mk H
  clear H
  go_enter Try.func6, Try.ntmps6
  go_upto_region 1 with (fail)
  repeat (go_quiet (fail); go_upto_region 1 with (fail))
  have HX := Aside0.mk (blk_new w (.cells #[.int .u64 (rd l1 0), .int .u64 (rd l1 1), .int .u64 (rd l1 2), .int .u64 (rd l1 3)] 53))
  have HR2' := Aside0.mk (Kd.C_alloc HR2.out (.cells #[.int .u64 (rd l1 0), .int .u64 (rd l1 1), .int .u64 (rd l1 2), .int .u64 (rd l1 3)] 53))
  have HBX := Aside0.mk (fun W (hW : Below (w.alloc (.cells #[.int .u64 (rd l1 0), .int .u64 (rd l1 1), .int .u64 (rd l1 2), .int .u64 (rd l1 3)] 53)).heap.size (w.alloc (.cells #[.int .u64 (rd l1 0), .int .u64 (rd l1 1), .int .u64 (rd l1 2), .int .u64 (rd l1 3)] 53)) W) => below_step (below_alloc (Below.refl w.heap.size w) (.cells #[.int .u64 (rd l1 0), .int .u64 (rd l1 1), .int .u64 (rd l1 2), .int .u64 (rd l1 3)] 53)) hW)
  clear HR2
  have HR2 := HR2'
  clear HR2'
  generalize w.alloc (.cells #[.int .u64 (rd l1 0), .int .u64 (rd l1 1), .int .u64 (rd l1 2), .int .u64 (rd l1 3)] 53) = w1 at HX HR2 HBX ⊢
  have hx0 := (blk_cell HX.out 0).trans rfl
  have hx1 := (blk_cell HX.out 1).trans rfl
  have hx2 := (blk_cell HX.out 2).trans rfl
  have hx3 := (blk_cell HX.out 3).trans rfl
  have HX0 := Aside0.mk (show w1.cell? ⟨w.heap.size, 0, none⟩ = some (.int .u64 (rd l1 0)) from hx0)
  have HX1 := Aside0.mk (show w1.cell? ⟨w.heap.size, 1, none⟩ = some (.int .u64 (rd l1 1)) from hx1)
  have HX2 := Aside0.mk (show w1.cell? ⟨w.heap.size, 2, none⟩ = some (.int .u64 (rd l1 2)) from hx2)
  have HX3 := Aside0.mk (show w1.cell? ⟨w.heap.size, 3, none⟩ = some (.int .u64 (rd l1 3)) from hx3)
  clear hx0 hx1 hx2 hx3 HX
  have HB := Aside0.mk (Below.refl w1.heap.size w1)
  go_cut [21] (fun v21 wc => ∃ (kq : Nat) (x21_3 : Bool), v21 = .bool x21_3 ∧ Aside0 (privitylaw21_ProductProofVerify.j0 kq a0 l2 l1 x21_3 = some r) ∧ Aside0 (kq ≤ k) ∧ Aside0 (Below w1.heap.size w1 wc))
  case first =>
    have H := HC4.out
    clear HC4
    replace H := Option.bind_eq_some_iff.mp H
    obtain ⟨t161, A50, H⟩ := H
    replace H : (if t161 = true then ((privityref06_Below.f k a0 l2 6).bind fun t162 => (privitylaw21_ProductProofVerify.j0 k a0 l2 l1 (!t162))) else (privitylaw21_ProductProofVerify.j0 k a0 l2 l1 true)) = some r := H
    have A5 := Aside0.mk A50
    clear A50
    by_cases c6 : t161 = true
    · subst c6
      have H1 : ((privityref06_Below.f k a0 l2 6).bind fun t162 => (privitylaw21_ProductProofVerify.j0 k a0 l2 l1 (!t162))) = some r := by rw [if_pos rfl] at H; exact H
      clear H
      have H := H1
      clear H1
      replace H := Option.bind_eq_some_iff.mp H
      obtain ⟨t162, A70, H⟩ := H
      replace H : (privitylaw21_ProductProofVerify.j0 k a0 l2 l1 (!t162)) = some r := H
      have A7 := Aside0.mk A70
      clear A70
      have H' := Aside0.mk H
      clear H
      go_wp2_with (first | (go_at_call 30; (with_reducible refine (privityref01_Supported.calls k a0 true _ A5.out).mono ?_); rintro e w8 ⟨rfl, hb⟩; have n0_ := Aside0.mk (below_step (by repeat (first | (with_reducible first | exact HB.out | apply below_alloc | apply pw_below_drewN | apply below_drew1) | exact HB.out)) hb); clear HB; have HB := n0_; clear n0_; (try clear hb); (try clear hb2); (try clear hk); (try clear hi)) | (go_at_call 16; (with_reducible refine (privityref06_Below.calls k a0 _ _ l2 6 t162 _ ?side1 ?side2 A7.out).mono ?_); (case side1 => repeat (first | exact (Kd.C_below HR2.out HB.out) | (with_reducible refine Kd.C_alloc ?_ _) | (with_reducible refine Kd.C_drewN ?_ _) | (with_reducible refine Kd.C_drew ?_))); (case side2 => exact HC2.out); rintro e w' ⟨rfl, ⟨nd, rfl⟩⟩; (try first | exact ⟨rfl, _, World.drewN_drewN _ _ _⟩ | exact ⟨rfl, _, Eq.trans (World.drewN_drewN _ _ _) (congrArg (World.drewN _) (Nat.add_assoc _ _ _))⟩)))
      repeat (go_quiet (first | (go_at_call 30; (with_reducible refine (privityref01_Supported.calls k a0 true _ A5.out).mono ?_); rintro e w8 ⟨rfl, hb⟩; have n0_ := Aside0.mk (below_step (by repeat (first | (with_reducible first | exact HB.out | apply below_alloc | apply pw_below_drewN | apply below_drew1) | exact HB.out)) hb); clear HB; have HB := n0_; clear n0_; (try clear hb); (try clear hb2); (try clear hk); (try clear hi)) | (go_at_call 16; (with_reducible refine (privityref06_Below.calls k a0 _ _ l2 6 t162 _ ?side1 ?side2 A7.out).mono ?_); (case side1 => repeat (first | exact (Kd.C_below HR2.out HB.out) | (with_reducible refine Kd.C_alloc ?_ _) | (with_reducible refine Kd.C_drewN ?_ _) | (with_reducible refine Kd.C_drew ?_))); (case side2 => exact HC2.out); rintro e w' ⟨rfl, ⟨nd, rfl⟩⟩; (try first | exact ⟨rfl, _, World.drewN_drewN _ _ _⟩ | exact ⟨rfl, _, Eq.trans (World.drewN_drewN _ _ _) (congrArg (World.drewN _) (Nat.add_assoc _ _ _))⟩))); try go_wp2_with (first | (go_at_call 30; (with_reducible refine (privityref01_Supported.calls k a0 true _ A5.out).mono ?_); rintro e w8 ⟨rfl, hb⟩; have n0_ := Aside0.mk (below_step (by repeat (first | (with_reducible first | exact HB.out | apply below_alloc | apply pw_below_drewN | apply below_drew1) | exact HB.out)) hb); clear HB; have HB := n0_; clear n0_; (try clear hb); (try clear hb2); (try clear hk); (try clear hi)) | (go_at_call 16; (with_reducible refine (privityref06_Below.calls k a0 _ _ l2 6 t162 _ ?side1 ?side2 A7.out).mono ?_); (case side1 => repeat (first | exact (Kd.C_below HR2.out HB.out) | (with_reducible refine Kd.C_alloc ?_ _) | (with_reducible refine Kd.C_drewN ?_ _) | (with_reducible refine Kd.C_drew ?_))); (case side2 => exact HC2.out); rintro e w' ⟨rfl, ⟨nd, rfl⟩⟩; (try first | exact ⟨rfl, _, World.drewN_drewN _ _ _⟩ | exact ⟨rfl, _, Eq.trans (World.drewN_drewN _ _ _) (congrArg (World.drewN _) (Nat.add_assoc _ _ _))⟩))))
      go_meet
      case rel => exact ⟨_, (!t162), (by first | rfl | (simp; done) | (simp [*]; done)), H', ⟨by first | omega | exact Nat.le_refl _⟩, ⟨by repeat (first | (with_reducible first | exact HB.out | apply below_alloc | apply pw_below_drewN | apply below_drew1) | exact HB.out)⟩⟩
    · replace c6 := Bool.eq_false_iff.mpr c6
      subst c6
      have H1 : (privitylaw21_ProductProofVerify.j0 k a0 l2 l1 true) = some r := by rw [if_neg (show ¬ (false = true) by decide)] at H; exact H
      clear H
      have H := H1
      clear H1
      have H' := Aside0.mk H
      clear H
      go_wp2_with (first | (go_at_call 30; (with_reducible refine (privityref01_Supported.calls k a0 false _ A5.out).mono ?_); rintro e w9 ⟨rfl, hb⟩; have n0_ := Aside0.mk (below_step (by repeat (first | (with_reducible first | exact HB.out | apply below_alloc | apply pw_below_drewN | apply below_drew1) | exact HB.out)) hb); clear HB; have HB := n0_; clear n0_; (try clear hb); (try clear hb2); (try clear hk); (try clear hi)))
      repeat (go_quiet (first | (go_at_call 30; (with_reducible refine (privityref01_Supported.calls k a0 false _ A5.out).mono ?_); rintro e w9 ⟨rfl, hb⟩; have n0_ := Aside0.mk (below_step (by repeat (first | (with_reducible first | exact HB.out | apply below_alloc | apply pw_below_drewN | apply below_drew1) | exact HB.out)) hb); clear HB; have HB := n0_; clear n0_; (try clear hb); (try clear hb2); (try clear hk); (try clear hi))); try go_wp2_with (first | (go_at_call 30; (with_reducible refine (privityref01_Supported.calls k a0 false _ A5.out).mono ?_); rintro e w9 ⟨rfl, hb⟩; have n0_ := Aside0.mk (below_step (by repeat (first | (with_reducible first | exact HB.out | apply below_alloc | apply pw_below_drewN | apply below_drew1) | exact HB.out)) hb); clear HB; have HB := n0_; clear n0_; (try clear hb); (try clear hb2); (try clear hk); (try clear hi))))
      go_meet
      case rel => exact ⟨_, (true), (by first | rfl | (simp; done) | (simp [*]; done)), H', ⟨by first | omega | exact Nat.le_refl _⟩, ⟨by repeat (first | (with_reducible first | exact HB.out | apply below_alloc | apply pw_below_drewN | apply below_drew1) | exact HB.out)⟩⟩
  case rest =>
    clear HC4
    try clear c1
    try clear c2
    try clear p2
    try clear c6
    obtain ⟨kq, x21_3, rfl, HA, HJ3, HB⟩ := hcut
    cases kq with
    | zero => exact absurd HA.out (by simp [privitylaw21_ProductProofVerify.j0])
    | succ kj3 =>
      have H := HA.out
      clear HA
      simp only [privitylaw21_ProductProofVerify.j0] at H
      by_cases c10 : x21_3 = true
      · subst c10
        have H1 : ((privitylaw21_awake.f kj3).bind fun t163 => (some t163)) = some r := by rw [if_pos rfl] at H; exact H
        clear H
        have H := H1
        clear H1
        replace H := Option.bind_eq_some_iff.mp H
        obtain ⟨t163, A110, H⟩ := H
        replace H : (some t163) = some r := H
        have A11 := Aside0.mk A110
        clear A110
        obtain rfl := Option.some.inj H
        go_wp2_with (first | (go_at_call 11; (with_reducible refine (privitylaw21_awake.calls kj3  t163 _ A11.out).mono ?_); rintro e w12 ⟨rfl, hb⟩; have n0_ := Aside0.mk (below_step (by repeat (first | (with_reducible first | exact HB.out | apply below_alloc | apply pw_below_drewN | apply below_drew1) | exact HB.out)) hb); clear HB; have HB := n0_; clear n0_; (try clear hb); (try clear hb2); (try clear hk); (try clear hi)))
        repeat (go_quiet (first | (go_at_call 11; (with_reducible refine (privitylaw21_awake.calls kj3  t163 _ A11.out).mono ?_); rintro e w12 ⟨rfl, hb⟩; have n0_ := Aside0.mk (below_step (by repeat (first | (with_reducible first | exact HB.out | apply below_alloc | apply pw_below_drewN | apply below_drew1) | exact HB.out)) hb); clear HB; have HB := n0_; clear n0_; (try clear hb); (try clear hb2); (try clear hk); (try clear hi))); try go_wp2_with (first | (go_at_call 11; (with_reducible refine (privitylaw21_awake.calls kj3  t163 _ A11.out).mono ?_); rintro e w12 ⟨rfl, hb⟩; have n0_ := Aside0.mk (below_step (by repeat (first | (with_reducible first | exact HB.out | apply below_alloc | apply pw_below_drewN | apply below_drew1) | exact HB.out)) hb); clear HB; have HB := n0_; clear n0_; (try clear hb); (try clear hb2); (try clear hk); (try clear hi))))
        go_ret
        exact ⟨by first | rfl | (simp [errW_none, errW_some] <;> rfl) | (simp [*, errW_none, errW_some] <;> rfl), HBX.out _ (by repeat (first | (with_reducible first | exact HB.out | apply below_alloc | apply pw_below_drewN | apply below_drew1) | exact HB.out))⟩
      · replace c10 := Bool.eq_false_iff.mpr c10
        subst c10
        have H1 : (if 0 < (l1.length : Int) then (if a0 = 0 then (none) else (if 1 < (l1.length : Int) then (if 2 < (l1.length : Int) then (if 3 < (l1.length : Int) then ((field_Mul.f a0 (Int.tmod (rd l1 1) a0) (Int.tmod (rd l1 2) a0)).bind fun t168 => (privitylaw21_ProductProofVerify.l0 kj3 a0 l2 (Int.tmod (rd l1 0) a0) (Int.tmod (rd l1 1) a0) (Int.tmod (rd l1 2) a0) (Int.tmod (rd l1 3) a0) t168 0)) else (none)) else (none)) else (none))) else (none)) = some r := by rw [if_neg (show ¬ (false = true) by decide)] at H; exact H
        clear H
        have H := H1
        clear H1
        by_cases c13 : 0 < (l1.length : Int)
        · rw [if_pos c13] at H
          have c13b0 : decide (0 < (l1.length : Int)) = true := decide_eq_true c13
          have c13b1 : decide (0 < l1.length) = true := decide_eq_true (by omega)
          clear c13
          by_cases c14 : a0 = 0
          · rw [if_pos c14] at H
            exact absurd H (by simp)
          · rw [if_neg c14] at H
            have c14b0 : (a0 == 0) = false := beq_eq_false_iff_ne.mpr c14
            have c14b1 : (a0 != 0) = true := bne_iff_ne.mpr c14
            by_cases c15 : 1 < (l1.length : Int)
            · rw [if_pos c15] at H
              have c15b0 : decide (1 < (l1.length : Int)) = true := decide_eq_true c15
              have c15b1 : decide (1 < l1.length) = true := decide_eq_true (by omega)
              clear c15
              by_cases c16 : 2 < (l1.length : Int)
              · rw [if_pos c16] at H
                have c16b0 : decide (2 < (l1.length : Int)) = true := decide_eq_true c16
                have c16b1 : decide (2 < l1.length) = true := decide_eq_true (by omega)
                clear c16
                by_cases c17 : 3 < (l1.length : Int)
                · rw [if_pos c17] at H
                  have c17b0 : decide (3 < (l1.length : Int)) = true := decide_eq_true c17
                  have c17b1 : decide (3 < l1.length) = true := decide_eq_true (by omega)
                  clear c17
                  replace H := Option.bind_eq_some_iff.mp H
                  obtain ⟨t168, A180, H⟩ := H
                  replace H : (privitylaw21_ProductProofVerify.l0 kj3 a0 l2 (Int.tmod (rd l1 0) a0) (Int.tmod (rd l1 1) a0) (Int.tmod (rd l1 2) a0) (Int.tmod (rd l1 3) a0) t168 0) = some r := H
                  have A18 := Aside0.mk A180
                  clear A180
                  have H' := Aside0.mk H
                  clear H
                  have hx160 := (HB.out.cell (World.block_lt_of_cell? w1 _ HX0.out)).trans HX0.out
                  have hx161 := (HB.out.cell (World.block_lt_of_cell? w1 _ HX1.out)).trans HX1.out
                  have hx162 := (HB.out.cell (World.block_lt_of_cell? w1 _ HX2.out)).trans HX2.out
                  have hx163 := (HB.out.cell (World.block_lt_of_cell? w1 _ HX3.out)).trans HX3.out
                  go_wp2_with (first | (go_at_call 23; (with_reducible refine (field_Mul.calls a0 (Int.tmod (rd l1 1) a0) (Int.tmod (rd l1 2) a0) t168 _ A18.out).mono ?_); rintro e w' ⟨rfl, ⟨nd, rfl⟩⟩; (try first | exact ⟨rfl, _, World.drewN_drewN _ _ _⟩ | exact ⟨rfl, _, Eq.trans (World.drewN_drewN _ _ _) (congrArg (World.drewN _) (Nat.add_assoc _ _ _))⟩)))
                  repeat (go_quiet (first | (go_at_call 23; (with_reducible refine (field_Mul.calls a0 (Int.tmod (rd l1 1) a0) (Int.tmod (rd l1 2) a0) t168 _ A18.out).mono ?_); rintro e w' ⟨rfl, ⟨nd, rfl⟩⟩; (try first | exact ⟨rfl, _, World.drewN_drewN _ _ _⟩ | exact ⟨rfl, _, Eq.trans (World.drewN_drewN _ _ _) (congrArg (World.drewN _) (Nat.add_assoc _ _ _))⟩))); try go_wp2_with (first | (go_at_call 23; (with_reducible refine (field_Mul.calls a0 (Int.tmod (rd l1 1) a0) (Int.tmod (rd l1 2) a0) t168 _ A18.out).mono ?_); rintro e w' ⟨rfl, ⟨nd, rfl⟩⟩; (try first | exact ⟨rfl, _, World.drewN_drewN _ _ _⟩ | exact ⟨rfl, _, Eq.trans (World.drewN_drewN _ _ _) (congrArg (World.drewN _) (Nat.add_assoc _ _ _))⟩))))
                  go_loopg [11, 12] kj3 (fun kq v11 v12 w' => ∃ (x11_2 : Int) (x12_2 : Int), v11 = .int .u64 x11_2 ∧ v12 = .int .i64 x12_2 ∧ Aside0 (privitylaw21_ProductProofVerify.l0 kq a0 l2 (Int.tmod (rd l1 0) a0) (Int.tmod (rd l1 1) a0) (Int.tmod (rd l1 2) a0) (Int.tmod (rd l1 3) a0) x11_2 x12_2 = some r) ∧ Aside0 (kq ≤ kj3) ∧ Aside0 (Below w1.heap.size w1 w'))
                  case atStart => exact ⟨(t168), (0), (by first | rfl | (simp; done) | (simp [*]; done)), (by first | rfl | (simp; done) | (simp [*]; done)), H', ⟨Nat.le_refl _⟩, ⟨by repeat (first | (with_reducible first | exact HB.out | apply below_alloc | apply pw_below_drewN | apply below_drew1) | exact HB.out)⟩⟩
                  case round =>
                    clear H'
                    try clear c1
                    try clear p1
                    try clear q1
                    try clear hx1
                    try clear qi1
                    try clear c2
                    try clear p2
                    try clear c6
                    try clear c10
                    try clear c13
                    try clear c13b0
                    try clear c13b1
                    try clear c14
                    try clear c14b0
                    try clear c14b1
                    try clear c15
                    try clear c15b0
                    try clear c15b1
                    try clear c16
                    try clear c16b0
                    try clear c16b1
                    try clear p16
                    try clear q16
                    try clear hx16
                    try clear qi16
                    try clear c17
                    try clear c17b0
                    try clear c17b1
                    try clear hx164_0
                    try clear hx165_0
                    try clear hx166_0
                    try clear hx167_0
                    try clear p164
                    try clear p165
                    try clear p166
                    try clear p167
                    try clear p2
                    try clear q164
                    try clear q165
                    try clear q166
                    try clear q167
                    obtain ⟨x11_2, x12_2, rfl, rfl, HA, HK2, HB⟩ := hrel
                    cases gk with
                    | zero => exact absurd HA.out (by simp [privitylaw21_ProductProofVerify.l0])
                    | succ k2 =>
                      have H := HA.out
                      clear HA
                      simp only [privitylaw21_ProductProofVerify.l0] at H
                      by_cases c19 : x12_2 < (l2.length : Int)
                      · rw [if_pos c19] at H
                        have c19b0 : decide (x12_2 < (l2.length : Int)) = true := decide_eq_true c19
                        clear c19
                        replace H := Option.bind_eq_some_iff.mp H
                        obtain ⟨t169, A200, H⟩ := H
                        replace H : (if 0 ≤ x12_2 then ((field_Mul.f a0 t169 (rd l2 x12_2)).bind fun t171 => ((field_Sub.f a0 x11_2 t171).bind fun t172 => (privitylaw21_ProductProofVerify.l0 k2 a0 l2 (Int.tmod (rd l1 0) a0) (Int.tmod (rd l1 1) a0) (Int.tmod (rd l1 2) a0) (Int.tmod (rd l1 3) a0) t172 (wrap64 (x12_2 + 1))))) else (none)) = some r := H
                        have A20 := Aside0.mk A200
                        clear A200
                        by_cases c21 : 0 ≤ x12_2
                        · rw [if_pos c21] at H
                          have c21b0 : decide (0 ≤ x12_2) = true := decide_eq_true c21
                          clear c21
                          replace H := Option.bind_eq_some_iff.mp H
                          obtain ⟨t171, A220, H⟩ := H
                          replace H : ((field_Sub.f a0 x11_2 t171).bind fun t172 => (privitylaw21_ProductProofVerify.l0 k2 a0 l2 (Int.tmod (rd l1 0) a0) (Int.tmod (rd l1 1) a0) (Int.tmod (rd l1 2) a0) (Int.tmod (rd l1 3) a0) t172 (wrap64 (x12_2 + 1)))) = some r := H
                          have A22 := Aside0.mk A220
                          clear A220
                          replace H := Option.bind_eq_some_iff.mp H
                          obtain ⟨t172, A230, H⟩ := H
                          replace H : (privitylaw21_ProductProofVerify.l0 k2 a0 l2 (Int.tmod (rd l1 0) a0) (Int.tmod (rd l1 1) a0) (Int.tmod (rd l1 2) a0) (Int.tmod (rd l1 3) a0) t172 (wrap64 (x12_2 + 1))) = some r := H
                          have A23 := Aside0.mk A230
                          clear A230
                          have H' := Aside0.mk H
                          clear H
                          have p170 : 0 ≤ (x12_2 : Int) := of_decide_eq_true (by first | (with_reducible assumption) | assumption)
                          have q170 : x12_2 < (l2.length : Int) := of_decide_eq_true (by first | (with_reducible assumption) | assumption)
                          obtain ⟨ad170, e170, hx170_0⟩ := Kd.at_int HR2.out x12_2 p170 q170
                          cases e170
                          replace hx170_0 := (HB.out.cell (World.block_lt_of_cell? w1 _ hx170_0)).trans hx170_0
                          replace p170 := eq_true p170
                          replace q170 := eq_true q170
                          go_wp2_with (first | (go_at_call 32; (with_reducible refine (field_Pow.calls a0 (Int.tmod (rd l1 0) a0) (IntKind.u64.wrap (wrap64 (x12_2 + 1))) t169 _ A20.out).mono ?_); rintro e w' ⟨rfl, ⟨nd, rfl⟩⟩; (try first | exact ⟨rfl, _, World.drewN_drewN _ _ _⟩ | exact ⟨rfl, _, Eq.trans (World.drewN_drewN _ _ _) (congrArg (World.drewN _) (Nat.add_assoc _ _ _))⟩)) | (go_at_call 23; (with_reducible refine (field_Mul.calls a0 t169 (rd l2 x12_2) t171 _ A22.out).mono ?_); rintro e w' ⟨rfl, ⟨nd, rfl⟩⟩; (try first | exact ⟨rfl, _, World.drewN_drewN _ _ _⟩ | exact ⟨rfl, _, Eq.trans (World.drewN_drewN _ _ _) (congrArg (World.drewN _) (Nat.add_assoc _ _ _))⟩)) | (go_at_call 31; (with_reducible refine (field_Sub.calls a0 x11_2 t171 t172 _ A23.out).mono ?_); rintro e w' ⟨rfl, ⟨nd, rfl⟩⟩; (try first | exact ⟨rfl, _, World.drewN_drewN _ _ _⟩ | exact ⟨rfl, _, Eq.trans (World.drewN_drewN _ _ _) (congrArg (World.drewN _) (Nat.add_assoc _ _ _))⟩)))
                          repeat (go_quiet (first | (go_at_call 32; (with_reducible refine (field_Pow.calls a0 (Int.tmod (rd l1 0) a0) (IntKind.u64.wrap (wrap64 (x12_2 + 1))) t169 _ A20.out).mono ?_); rintro e w' ⟨rfl, ⟨nd, rfl⟩⟩; (try first | exact ⟨rfl, _, World.drewN_drewN _ _ _⟩ | exact ⟨rfl, _, Eq.trans (World.drewN_drewN _ _ _) (congrArg (World.drewN _) (Nat.add_assoc _ _ _))⟩)) | (go_at_call 23; (with_reducible refine (field_Mul.calls a0 t169 (rd l2 x12_2) t171 _ A22.out).mono ?_); rintro e w' ⟨rfl, ⟨nd, rfl⟩⟩; (try first | exact ⟨rfl, _, World.drewN_drewN _ _ _⟩ | exact ⟨rfl, _, Eq.trans (World.drewN_drewN _ _ _) (congrArg (World.drewN _) (Nat.add_assoc _ _ _))⟩)) | (go_at_call 31; (with_reducible refine (field_Sub.calls a0 x11_2 t171 t172 _ A23.out).mono ?_); rintro e w' ⟨rfl, ⟨nd, rfl⟩⟩; (try first | exact ⟨rfl, _, World.drewN_drewN _ _ _⟩ | exact ⟨rfl, _, Eq.trans (World.drewN_drewN _ _ _) (congrArg (World.drewN _) (Nat.add_assoc _ _ _))⟩))); try go_wp2_with (first | (go_at_call 32; (with_reducible refine (field_Pow.calls a0 (Int.tmod (rd l1 0) a0) (IntKind.u64.wrap (wrap64 (x12_2 + 1))) t169 _ A20.out).mono ?_); rintro e w' ⟨rfl, ⟨nd, rfl⟩⟩; (try first | exact ⟨rfl, _, World.drewN_drewN _ _ _⟩ | exact ⟨rfl, _, Eq.trans (World.drewN_drewN _ _ _) (congrArg (World.drewN _) (Nat.add_assoc _ _ _))⟩)) | (go_at_call 23; (with_reducible refine (field_Mul.calls a0 t169 (rd l2 x12_2) t171 _ A22.out).mono ?_); rintro e w' ⟨rfl, ⟨nd, rfl⟩⟩; (try first | exact ⟨rfl, _, World.drewN_drewN _ _ _⟩ | exact ⟨rfl, _, Eq.trans (World.drewN_drewN _ _ _) (congrArg (World.drewN _) (Nat.add_assoc _ _ _))⟩)) | (go_at_call 31; (with_reducible refine (field_Sub.calls a0 x11_2 t171 t172 _ A23.out).mono ?_); rintro e w' ⟨rfl, ⟨nd, rfl⟩⟩; (try first | exact ⟨rfl, _, World.drewN_drewN _ _ _⟩ | exact ⟨rfl, _, Eq.trans (World.drewN_drewN _ _ _) (congrArg (World.drewN _) (Nat.add_assoc _ _ _))⟩))))
                          go_roundg k2
                          case measure => have := HJ3.out; have := HK2.out; omega
                          case rel => exact ⟨(t172), (wrap64 (x12_2 + 1)), (by first | rfl | (simp; done) | (simp [*]; done)), (by first | rfl | (simp; done) | (simp [*]; done)), H', ⟨by have := HJ3.out; have := HK2.out; omega⟩, ⟨by repeat (first | (with_reducible first | exact HB.out | apply below_alloc | apply pw_below_drewN | apply below_drew1) | exact HB.out)⟩⟩
                        · rw [if_neg c21] at H
                          exact absurd H (by simp)
                      · rw [if_neg c19] at H
                        have c19b0 : decide (x12_2 < (l2.length : Int)) = false := decide_eq_false c19
                        clear c19
                        replace H := Option.bind_eq_some_iff.mp H
                        obtain ⟨t173, A240, H⟩ := H
                        replace H : (if t173 = true then ((productproof_Verify.f k2 a0 (Int.tmod (rd l1 0) a0) (Int.tmod (rd l1 1) a0) (Int.tmod (rd l1 2) a0) l2 (Int.tmod (rd l1 3) a0)).bind fun t174 => ((privityref21_Verify.f k2 a0 (Int.tmod (rd l1 0) a0) (Int.tmod (rd l1 1) a0) (Int.tmod (rd l1 2) a0) l2 (Int.tmod (rd l1 3) a0)).bind fun t175 => (if (t174 == t175) = true then ((productproof_Verify.f k2 a0 (Int.tmod (rd l1 0) a0) (Int.tmod (rd l1 1) a0) (Int.tmod (rd l1 2) a0) l2 (Int.tmod (rd l1 3) a0)).bind fun t176 => (some (t176 == ((Int.tmod (rd l1 3) a0) == x11_2)))) else (none)))) else (none)) = some r := H
                        have A24 := Aside0.mk A240
                        clear A240
                        by_cases c25 : t173 = true
                        · subst c25
                          have H1 : ((productproof_Verify.f k2 a0 (Int.tmod (rd l1 0) a0) (Int.tmod (rd l1 1) a0) (Int.tmod (rd l1 2) a0) l2 (Int.tmod (rd l1 3) a0)).bind fun t174 => ((privityref21_Verify.f k2 a0 (Int.tmod (rd l1 0) a0) (Int.tmod (rd l1 1) a0) (Int.tmod (rd l1 2) a0) l2 (Int.tmod (rd l1 3) a0)).bind fun t175 => (if (t174 == t175) = true then ((productproof_Verify.f k2 a0 (Int.tmod (rd l1 0) a0) (Int.tmod (rd l1 1) a0) (Int.tmod (rd l1 2) a0) l2 (Int.tmod (rd l1 3) a0)).bind fun t176 => (some (t176 == ((Int.tmod (rd l1 3) a0) == x11_2)))) else (none)))) = some r := by rw [if_pos rfl] at H; exact H
                          clear H
                          have H := H1
                          clear H1
                          replace H := Option.bind_eq_some_iff.mp H
                          obtain ⟨t174, A260, H⟩ := H
                          replace H : ((privityref21_Verify.f k2 a0 (Int.tmod (rd l1 0) a0) (Int.tmod (rd l1 1) a0) (Int.tmod (rd l1 2) a0) l2 (Int.tmod (rd l1 3) a0)).bind fun t175 => (if (t174 == t175) = true then ((productproof_Verify.f k2 a0 (Int.tmod (rd l1 0) a0) (Int.tmod (rd l1 1) a0) (Int.tmod (rd l1 2) a0) l2 (Int.tmod (rd l1 3) a0)).bind fun t176 => (some (t176 == ((Int.tmod (rd l1 3) a0) == x11_2)))) else (none))) = some r := H
                          have A26 := Aside0.mk A260
                          clear A260
                          replace H := Option.bind_eq_some_iff.mp H
                          obtain ⟨t175, A270, H⟩ := H
                          replace H : (if (t174 == t175) = true then ((productproof_Verify.f k2 a0 (Int.tmod (rd l1 0) a0) (Int.tmod (rd l1 1) a0) (Int.tmod (rd l1 2) a0) l2 (Int.tmod (rd l1 3) a0)).bind fun t176 => (some (t176 == ((Int.tmod (rd l1 3) a0) == x11_2)))) else (none)) = some r := H
                          have A27 := Aside0.mk A270
                          clear A270
                          by_cases c28 : (t174 == t175) = true
                          · rw [if_pos c28] at H
                            have c28b0 : (t174 == t175) = true := c28
                            (try (have c28b1 : decide (t174 = t175) = true := by simpa using c28))
                            (try (have c28b2 : (t174 == t175) = true := by simpa using c28))
                            clear c28
                            replace H := Option.bind_eq_some_iff.mp H
                            obtain ⟨t176, A290, H⟩ := H
                            replace H : (some (t176 == ((Int.tmod (rd l1 3) a0) == x11_2))) = some r := H
                            have A29 := Aside0.mk A290
                            clear A290
                            obtain rfl : t174 = t176 := Option.some.inj (A26.out.symm.trans A29.out)
                            obtain rfl := Option.some.inj H
                            go_wp2_with (first | (go_at_call 11; (with_reducible refine (privitylaw21_awake.calls k2  true _ A24.out).mono ?_); rintro e w30 ⟨rfl, hb⟩; have n0_ := Aside0.mk (below_step (by repeat (first | (with_reducible first | exact HB.out | apply below_alloc | apply pw_below_drewN | apply below_drew1) | exact HB.out)) hb); clear HB; have HB := n0_; clear n0_; (try clear hb); (try clear hb2); (try clear hk); (try clear hi)) | (go_at_call 33; (with_reducible refine (productproof_Verify.calls k2 a0 (Int.tmod (rd l1 0) a0) (Int.tmod (rd l1 1) a0) (Int.tmod (rd l1 2) a0) _ _ l2 (Int.tmod (rd l1 3) a0) t174 _ ?side1 ?side2 A26.out).mono ?_); (case side1 => repeat (first | exact (Kd.C_below HR2.out HB.out) | (with_reducible refine Kd.C_alloc ?_ _) | (with_reducible refine Kd.C_drewN ?_ _) | (with_reducible refine Kd.C_drew ?_))); (case side2 => exact HC2.out); rintro e w' ⟨rfl, ⟨nd, rfl⟩⟩; (try first | exact ⟨rfl, _, World.drewN_drewN _ _ _⟩ | exact ⟨rfl, _, Eq.trans (World.drewN_drewN _ _ _) (congrArg (World.drewN _) (Nat.add_assoc _ _ _))⟩)) | (go_at_call 34; (with_reducible refine (privityref21_Verify.calls k2 a0 (Int.tmod (rd l1 0) a0) (Int.tmod (rd l1 1) a0) (Int.tmod (rd l1 2) a0) _ _ l2 (Int.tmod (rd l1 3) a0) t175 _ ?side1 ?side2 A27.out).mono ?_); (case side1 => repeat (first | exact (Kd.C_below HR2.out (by repeat (first | (with_reducible first | exact HB.out | apply below_alloc | apply pw_below_drewN | apply below_drew1) | exact HB.out))) | (with_reducible refine Kd.C_alloc ?_ _) | (with_reducible refine Kd.C_drewN ?_ _) | (with_reducible refine Kd.C_drew ?_))); (case side2 => exact HC2.out); rintro e w' ⟨rfl, ⟨nd, rfl⟩⟩; (try first | exact ⟨rfl, _, World.drewN_drewN _ _ _⟩ | exact ⟨rfl, _, Eq.trans (World.drewN_drewN _ _ _) (congrArg (World.drewN _) (Nat.add_assoc _ _ _))⟩)) | (go_at_call 33; (with_reducible refine (productproof_Verify.calls k2 a0 (Int.tmod (rd l1 0) a0) (Int.tmod (rd l1 1) a0) (Int.tmod (rd l1 2) a0) _ _ l2 (Int.tmod (rd l1 3) a0) t174 _ ?side1 ?side2 A29.out).mono ?_); (case side1 => repeat (first | exact (Kd.C_below HR2.out (by repeat (first | (with_reducible first | exact HB.out | apply below_alloc | apply pw_below_drewN | apply below_drew1) | exact HB.out))) | (with_reducible refine Kd.C_alloc ?_ _) | (with_reducible refine Kd.C_drewN ?_ _) | (with_reducible refine Kd.C_drew ?_))); (case side2 => exact HC2.out); rintro e w' ⟨rfl, ⟨nd, rfl⟩⟩; (try first | exact ⟨rfl, _, World.drewN_drewN _ _ _⟩ | exact ⟨rfl, _, Eq.trans (World.drewN_drewN _ _ _) (congrArg (World.drewN _) (Nat.add_assoc _ _ _))⟩)))
                            repeat (go_quiet (first | (go_at_call 11; (with_reducible refine (privitylaw21_awake.calls k2  true _ A24.out).mono ?_); rintro e w30 ⟨rfl, hb⟩; have n0_ := Aside0.mk (below_step (by repeat (first | (with_reducible first | exact HB.out | apply below_alloc | apply pw_below_drewN | apply below_drew1) | exact HB.out)) hb); clear HB; have HB := n0_; clear n0_; (try clear hb); (try clear hb2); (try clear hk); (try clear hi)) | (go_at_call 33; (with_reducible refine (productproof_Verify.calls k2 a0 (Int.tmod (rd l1 0) a0) (Int.tmod (rd l1 1) a0) (Int.tmod (rd l1 2) a0) _ _ l2 (Int.tmod (rd l1 3) a0) t174 _ ?side1 ?side2 A26.out).mono ?_); (case side1 => repeat (first | exact (Kd.C_below HR2.out HB.out) | (with_reducible refine Kd.C_alloc ?_ _) | (with_reducible refine Kd.C_drewN ?_ _) | (with_reducible refine Kd.C_drew ?_))); (case side2 => exact HC2.out); rintro e w' ⟨rfl, ⟨nd, rfl⟩⟩; (try first | exact ⟨rfl, _, World.drewN_drewN _ _ _⟩ | exact ⟨rfl, _, Eq.trans (World.drewN_drewN _ _ _) (congrArg (World.drewN _) (Nat.add_assoc _ _ _))⟩)) | (go_at_call 34; (with_reducible refine (privityref21_Verify.calls k2 a0 (Int.tmod (rd l1 0) a0) (Int.tmod (rd l1 1) a0) (Int.tmod (rd l1 2) a0) _ _ l2 (Int.tmod (rd l1 3) a0) t175 _ ?side1 ?side2 A27.out).mono ?_); (case side1 => repeat (first | exact (Kd.C_below HR2.out (by repeat (first | (with_reducible first | exact HB.out | apply below_alloc | apply pw_below_drewN | apply below_drew1) | exact HB.out))) | (with_reducible refine Kd.C_alloc ?_ _) | (with_reducible refine Kd.C_drewN ?_ _) | (with_reducible refine Kd.C_drew ?_))); (case side2 => exact HC2.out); rintro e w' ⟨rfl, ⟨nd, rfl⟩⟩; (try first | exact ⟨rfl, _, World.drewN_drewN _ _ _⟩ | exact ⟨rfl, _, Eq.trans (World.drewN_drewN _ _ _) (congrArg (World.drewN _) (Nat.add_assoc _ _ _))⟩)) | (go_at_call 33; (with_reducible refine (productproof_Verify.calls k2 a0 (Int.tmod (rd l1 0) a0) (Int.tmod (rd l1 1) a0) (Int.tmod (rd l1 2) a0) _ _ l2 (Int.tmod (rd l1 3) a0) t174 _ ?side1 ?side2 A29.out).mono ?_); (case side1 => repeat (first | exact (Kd.C_below HR2.out (by repeat (first | (with_reducible first | exact HB.out | apply below_alloc | apply pw_below_drewN | apply below_drew1) | exact HB.out))) | (with_reducible refine Kd.C_alloc ?_ _) | (with_reducible refine Kd.C_drewN ?_ _) | (with_reducible refine Kd.C_drew ?_))); (case side2 => exact HC2.out); rintro e w' ⟨rfl, ⟨nd, rfl⟩⟩; (try first | exact ⟨rfl, _, World.drewN_drewN _ _ _⟩ | exact ⟨rfl, _, Eq.trans (World.drewN_drewN _ _ _) (congrArg (World.drewN _) (Nat.add_assoc _ _ _))⟩))); try go_wp2_with (first | (go_at_call 11; (with_reducible refine (privitylaw21_awake.calls k2  true _ A24.out).mono ?_); rintro e w30 ⟨rfl, hb⟩; have n0_ := Aside0.mk (below_step (by repeat (first | (with_reducible first | exact HB.out | apply below_alloc | apply pw_below_drewN | apply below_drew1) | exact HB.out)) hb); clear HB; have HB := n0_; clear n0_; (try clear hb); (try clear hb2); (try clear hk); (try clear hi)) | (go_at_call 33; (with_reducible refine (productproof_Verify.calls k2 a0 (Int.tmod (rd l1 0) a0) (Int.tmod (rd l1 1) a0) (Int.tmod (rd l1 2) a0) _ _ l2 (Int.tmod (rd l1 3) a0) t174 _ ?side1 ?side2 A26.out).mono ?_); (case side1 => repeat (first | exact (Kd.C_below HR2.out HB.out) | (with_reducible refine Kd.C_alloc ?_ _) | (with_reducible refine Kd.C_drewN ?_ _) | (with_reducible refine Kd.C_drew ?_))); (case side2 => exact HC2.out); rintro e w' ⟨rfl, ⟨nd, rfl⟩⟩; (try first | exact ⟨rfl, _, World.drewN_drewN _ _ _⟩ | exact ⟨rfl, _, Eq.trans (World.drewN_drewN _ _ _) (congrArg (World.drewN _) (Nat.add_assoc _ _ _))⟩)) | (go_at_call 34; (with_reducible refine (privityref21_Verify.calls k2 a0 (Int.tmod (rd l1 0) a0) (Int.tmod (rd l1 1) a0) (Int.tmod (rd l1 2) a0) _ _ l2 (Int.tmod (rd l1 3) a0) t175 _ ?side1 ?side2 A27.out).mono ?_); (case side1 => repeat (first | exact (Kd.C_below HR2.out (by repeat (first | (with_reducible first | exact HB.out | apply below_alloc | apply pw_below_drewN | apply below_drew1) | exact HB.out))) | (with_reducible refine Kd.C_alloc ?_ _) | (with_reducible refine Kd.C_drewN ?_ _) | (with_reducible refine Kd.C_drew ?_))); (case side2 => exact HC2.out); rintro e w' ⟨rfl, ⟨nd, rfl⟩⟩; (try first | exact ⟨rfl, _, World.drewN_drewN _ _ _⟩ | exact ⟨rfl, _, Eq.trans (World.drewN_drewN _ _ _) (congrArg (World.drewN _) (Nat.add_assoc _ _ _))⟩)) | (go_at_call 33; (with_reducible refine (productproof_Verify.calls k2 a0 (Int.tmod (rd l1 0) a0) (Int.tmod (rd l1 1) a0) (Int.tmod (rd l1 2) a0) _ _ l2 (Int.tmod (rd l1 3) a0) t174 _ ?side1 ?side2 A29.out).mono ?_); (case side1 => repeat (first | exact (Kd.C_below HR2.out (by repeat (first | (with_reducible first | exact HB.out | apply below_alloc | apply pw_below_drewN | apply below_drew1) | exact HB.out))) | (with_reducible refine Kd.C_alloc ?_ _) | (with_reducible refine Kd.C_drewN ?_ _) | (with_reducible refine Kd.C_drew ?_))); (case side2 => exact HC2.out); rintro e w' ⟨rfl, ⟨nd, rfl⟩⟩; (try first | exact ⟨rfl, _, World.drewN_drewN _ _ _⟩ | exact ⟨rfl, _, Eq.trans (World.drewN_drewN _ _ _) (congrArg (World.drewN _) (Nat.add_assoc _ _ _))⟩))))
                            go_ret
                            exact ⟨by first | rfl | (simp [errW_none, errW_some] <;> rfl) | (simp [*, errW_none, errW_some] <;> rfl), HBX.out _ (by repeat (first | (with_reducible first | exact HB.out | apply below_alloc | apply pw_below_drewN | apply below_drew1) | exact HB.out))⟩
                          · rw [if_neg c28] at H
                            exact absurd H (by simp)
                        · replace c25 := Bool.eq_false_iff.mpr c25
                          subst c25
                          have H1 : (none) = some r := by rw [if_neg (show ¬ (false = true) by decide)] at H; exact H
                          clear H
                          have H := H1
                          clear H1
                          exact absurd H (by simp)
                · rw [if_neg c17] at H
                  exact absurd H (by simp)
              · rw [if_neg c16] at H
                exact absurd H (by simp)
            · rw [if_neg c15] at H
              exact absurd H (by simp)
        · rw [if_neg c13] at H
          exact absurd H (by simp)

end Go.Proofs.Ytkcjhcjlaefgmaa.Q
