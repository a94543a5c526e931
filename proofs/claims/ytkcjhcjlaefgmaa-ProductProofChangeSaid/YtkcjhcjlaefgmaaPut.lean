/- The method put of poly's accumulator: the row grows by zeros up to the place and the place gets the sum. -/
import Derived.Test.YtkcjhcjlaefgmaaBase
import Derived.Test.YtkcjhcjlaefgmaaWMore
import Derived.StillTailTactics
namespace Go.Proofs.Ytkcjhcjlaefgmaa
open Go.RowKit Go.Proofs.YtkcjhcjlaefgmaaW.PrintWords Go.Proofs.YtkcjhcjlaefgmaaW.PrintLast
set_option linter.unusedVariables false
set_option linter.unusedSimpArgs false
theorem fold_same (p hi lo : Int) (hp : okp p = true) (x0 : 0 ≤ hi) (x1 : hi ≤ 18446744073709551615) (y0 : 0 ≤ lo) (y1 : lo ≤ 18446744073709551615) (w : World) :
    Calls Try.prog 53 #[.int .u64 p, .int .u64 hi, .int .u64 lo] w fun e w' => e = .returned (.int .u64 ((hi * 18446744073709551616 + lo) % p)) ∧ w = w' := by
  rcases okp_cases hp with rfl | rfl | rfl | rfl | rfl | rfl | rfl
  · exact Fold.fold5 hi lo x0 x1 y0 y1 w
  · exact Fold.fold7 hi lo x0 x1 y0 y1 w
  · exact Fold.fold13 hi lo x0 x1 y0 y1 w
  · exact Fold.fold17 hi lo x0 x1 y0 y1 w
  · exact Fold.fold19 hi lo x0 x1 y0 y1 w
  · exact Fold.fold31 hi lo x0 x1 y0 y1 w
  · exact Fold.fold61 hi lo x0 x1 y0 y1 w
theorem uinfo : (Try.prog.info? 22).map (fun i => (i.zero, i.size, i.bytes)) = some (some (.int .u64 0), 1, 8) := by kernel_rfl

/-- field.Add leaves the very world. -/
theorem add_same (p a b : Int) (hp : okp p = true) (ha : inF p a = true) (hb : inF p b = true) (w : World) :
    Calls Try.prog 24 #[.int .u64 p, .int .u64 a, .int .u64 b] w fun e w' => e = .returned (.int .u64 ((a + b) % p)) ∧ w' = w := by
  have h1 := inF_iff.1 ha
  have h2 := inF_iff.1 hb
  have h3 := okp_hi hp
  obtain ⟨h10, h11⟩ := h1
  obtain ⟨h20, h21⟩ := h2
  have hs0 : 0 ≤ a + b := by omega
  have hs1 : a + b ≤ 18446744073709551615 := by omega
  have HP := Aside0.mk hp
  clear hp ha hb
  go_enter Try.func24, Try.ntmps24
  go_wp2_with (go_at_call 53; refine (fold_same p 0 (a + b) HP.out (by omega) (by omega) hs0 hs1 _).mono ?_; rintro e w' ⟨rfl, rfl⟩)
  go_ret
  exact ⟨by simp, rfl⟩

/-- The accumulator at block g: the prime, and a row of the call's own that holds f. -/
def SumAt (W : World) (base g : Nat) (p : Int) (f : List Int) : Prop :=
  ∃ v, W.heap[g]? = some (.cells #[.int .u64 p, v] 75 (0, 0)) ∧ Kd.R (Kd.int .u64) 22 W base (fun k => k ≠ g) v f
/-- What put makes of the row. -/
def padTo (f : List Int) (i : Nat) : List Int := f ++ List.replicate (i + 1 - f.length) 0
def putL (p : Int) (f : List Int) (i : Nat) (k : Int) : List Int := (padTo f i).set i (((padTo f i).getD i 0 + k) % p)

theorem padTo_ge (f : List Int) (i : Nat) (h : i < f.length) : padTo f i = f := by
  unfold padTo
  rw [show i + 1 - f.length = 0 by omega]
  simp
theorem padTo_step (f : List Int) (i : Nat) (h : f.length ≤ i) : padTo (f ++ [0]) i = padTo f i := by
  unfold padTo
  rw [List.length_append, List.length_singleton, show i + 1 - f.length = (i + 1 - (f.length + 1)) + 1 by omega, List.append_assoc]
  rfl
theorem padTo_length (f : List Int) (i : Nat) : i < (padTo f i).length := by
  unfold padTo
  rw [List.length_append, List.length_replicate]
  omega

set_option maxHeartbeats 2000000 in
theorem put_any (p k : Int) (i : Nat) (f : List Int) (w0 W : World) (base g : Nat) (hp : okp p = true) (hf : allF p f = true) (hk : inF p k = true) (hi : i ≤ 1099511627776) (hl : f.length ≤ 1099511627776)
    (HS : SumAt W base g p f) (HB : Below base w0 W) (hbase : base ≤ g) :
    Calls Try.prog 61 #[.pointer (some ⟨g, 0, none⟩), .int .i64 i, .int .u64 k] W fun e w' => e = .returned (.tuple #[]) ∧ SumAt w' base g p (putL p f i k) ∧ Below base w0 w' := by
  have HS0 := Aside0.mk HS
  have HB0 := Aside0.mk HB
  have HP := Aside0.mk hp
  have HF := Aside0.mk hf
  have HK := Aside0.mk hk
  clear HS HB hp hf hk
  go_enter Try.func61, Try.ntmps61
  go_wp2
  go_loopg [] (i + 2) (fun kq w' => ∃ f' : List Int, Aside0 (SumAt w' base g p f') ∧ Aside0 (Below base w0 w') ∧ Aside0 (allF p f' = true) ∧ padTo f' i = padTo f i ∧ f'.length ≤ 1099511627777 ∧ i + 1 - f'.length < kq)
  case atStart => exact ⟨f, HS0, HB0, HF, rfl, by omega, by omega⟩
  case round =>
    obtain ⟨f', HS, HB, HF', he, hl', hq⟩ := hrel
    have HE := Aside0.mk he
    clear he
    obtain ⟨v, hb, hr⟩ := HS.out
    have hc0 := blk_cell hb 0
    have hc1 := blk_cell hb 1
    obtain ⟨A, c, rfl⟩ := Kd.R_slice hr
    have hz0 := blk_frozen hb 1
    have HBk := Aside0.mk hb
    have HRr := Aside0.mk hr
    clear hb hr HS
    simp at hc0 hc1
    have hgs : g < wr.heap.size := blk_lt HBk.out
    by_cases hlt : f'.length ≤ i
    · obtain ⟨k1, rfl⟩ : ∃ k1, gk = k1 + 1 := ⟨gk - 1, by omega⟩
      go_wp2_with ((with_reducible refine gate_builtin (b := .append) (xs := #[.tmp 17, .tmp 18]) rfl ?_); at_builtin; refine Kd.R_append (Kd.int .u64) (w0 := w0) base rfl (.tmp 17) (.tmp 18) 23 22 (.int .u64 0) 8 rfl Try.underlying23 uinfo rfl (by decide) (by omega) (.slice A f'.length c) f' 0 [.int .u64 0] (fun k => k ≠ g) (fun _ => False) rfl rfl ?aP (fun _ hk => hk.elim) ?aF ?aO ?aB ?aS ?aL ?_; (case aP => exact rfl); (case aF => intro k hk; omega); (case aO => exact HRr.out); (case aB => exact HB.out); (case aS => omega); (case aL => omega); intro v1 w1 hr1 hb1 hg1 hat1; have hbk1 := Aside0.mk (blk_grown HBk.out hg1 (Kd.R_away HRr.out (fun _ h => h))); have hr1' := Aside0.mk hr1; have hb1' := Aside0.mk hb1; clear hr1 hb1 hg1 hat1; obtain ⟨A1, c1, ev1⟩ := Kd.R_slice hr1'.out; subst ev1; have d0 := blk_cell hbk1.out 0; have d1 := blk_cell hbk1.out 1; have dz := blk_frozen hbk1.out 1; simp at d0 d1)
      go_roundg k1
      case rel =>
        have hr2 := Kd.R_far (p := ⟨g, 1, none⟩) hr1'.out (fun _ h => h) (.slice A1 (f'.length + 1) c1)
        simp only [List.length_append, List.length_singleton] at hr2
        refine ⟨f' ++ [0], ⟨_, blk_put hbk1.out 1 _ rfl, hr2⟩, ⟨hb1'.out.setCell hbase _⟩, ⟨?_⟩, ?_, ?_, ?_⟩
        · have h := HF'.out
          unfold allF at h ⊢
          rw [List.all_append, h]
          have := okp_lo HP.out
          simp [inF]; omega
        · rw [padTo_step f' i hlt]; exact HE.out
        · simp; omega
        · simp; omega
      case measure => omega
    · have hpos : 0 < f'.length := by omega
      obtain ⟨g2, c2, ev, hb2, hc2⟩ := Kd.R_form HRr.out hpos
      injection ev with ev1 ev2 ev3
      subst ev1
      have hx := Kd.R_celln (0 : Int) HRr.out (i : Int) (by omega) (by omega)
      have hxc := hx.1
      have hxf := hx.2
      clear hx
      simp only [Int.toNat_natCast] at hxc hxf
      have hi2 : (i : Int) < (f'.length : Int) := by omega
      have hi3 : (0 : Int) ≤ i := by omega
      have HIN := Aside0.mk (show inF p (rdOf (0 : Int) f' (i : Int)) = true from List.all_eq_true.1 HF'.out _ (by unfold rdOf; rw [Int.toNat_natCast, List.getD_eq_getElem?_getD, List.getElem?_eq_getElem (by omega)]; exact List.getElem_mem _))
      go_wp2
      go_still_tail 19, (by kernel_rfl)
      still_call (add_same p _ k HP.out HIN.out HK.out _)
      repeat still_step
      refine wpStill_nil ?_
      go_wp2
      go_end0
      have ef : f' = padTo f i := (padTo_ge f' i (by omega)).symm.trans HE.out
      have el : f'.set i ((rdOf (0 : Int) f' (i : Int) + k) % p) = putL p f i k := by
        unfold putL rdOf
        rw [Int.toNat_natCast, ← ef]
      have hg2 : g2 ≠ g := HRr.out.1 g2 rfl
      have hput := Kd.R_drew (Kd.R_putn HRr.out (i : Int) ((rdOf (0 : Int) f' (i : Int) + k) % p))
      rw [Int.toNat_natCast, el] at hput
      refine ⟨rfl, ⟨_, blk_drew (blk_far HBk.out (fun h => hg2 h.symm) _), hput⟩, below_drew (HB.out.setCell hb2 _)⟩
end Go.Proofs.Ytkcjhcjlaefgmaa
