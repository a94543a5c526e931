/- field.Exponent at the three numbers at which the statements' examples call it, where the package's list of exponents holds what the program's text lays. -/
import Derived.Test.YthlokgappehhgaaDoorBase
import Derived.Test.YthlokgappehhgaaDoorWMore
import Derived.Laws.Rows
namespace Go.Proofs.YthlokgappehhgaaDoor
open Go.RowKit Go.Proofs.YthlokgappehhgaaDoorW.PrintWords
set_option linter.unusedVariables false
set_option linter.unusedSimpArgs false

def exps7 : Array Value := #[.int .i64 5, .int .i64 7, .int .i64 13, .int .i64 17, .int .i64 19, .int .i64 31, .int .i64 61]
/-- The package-level variable exps (block 0) holds its seven numbers. -/
def Glob (w : World) : Prop := ∃ t fr, w.heap[0]? = some (.cells exps7 t fr)
theorem Glob.below {w w1 : World} (h : Glob w) (hb : Below w.heap.size w w1) : Glob w1 := by
  obtain ⟨t, fr, h⟩ := h
  have hlt : 0 < w.heap.size := (Array.getElem?_eq_some_iff.1 h).1
  exact ⟨t, fr, (hb.block 0 hlt).trans h⟩
theorem Glob.drawn {w w1 : World} (h : Glob w) (hd : Drawn0 w w1) : Glob w1 := h.below hd.below
def field_Exponent.f (p : Int) : Option Int := if p = 8191 then some 13 else if p = 7 then some 0 else if p = 127 then some 7 else none

set_option maxHeartbeats 1000000 in
theorem exp_8191 (w : World) (hG : Glob w) : Calls Tryd.prog 23 #[.int .u64 8191] w fun e w' => e = .returned (.int .i64 13) ∧ w = w' := by
  have i0 : ∀ w, (Instr.index 42 (.agg exps7) (.int .i64 0)).run Tryd.prog w = .ok (.int .i64 5) w := fun _ => by kernel_rfl
  have i1 : ∀ w, (Instr.index 42 (.agg exps7) (.int .i64 1)).run Tryd.prog w = .ok (.int .i64 7) w := fun _ => by kernel_rfl
  have i2 : ∀ w, (Instr.index 42 (.agg exps7) (.int .i64 2)).run Tryd.prog w = .ok (.int .i64 13) w := fun _ => by kernel_rfl
  have i3 : ∀ w, (Instr.index 42 (.agg exps7) (.int .i64 3)).run Tryd.prog w = .ok (.int .i64 17) w := fun _ => by kernel_rfl
  have i4 : ∀ w, (Instr.index 42 (.agg exps7) (.int .i64 4)).run Tryd.prog w = .ok (.int .i64 19) w := fun _ => by kernel_rfl
  have i5 : ∀ w, (Instr.index 42 (.agg exps7) (.int .i64 5)).run Tryd.prog w = .ok (.int .i64 31) w := fun _ => by kernel_rfl
  have i6 : ∀ w, (Instr.index 42 (.agg exps7) (.int .i64 6)).run Tryd.prog w = .ok (.int .i64 61) w := fun _ => by kernel_rfl
  obtain ⟨tg, frg, hG⟩ := hG
  have hg := Lib.hid hG
  clear hG
  go_enter Tryd.func23, Tryd.ntmps23
  go_wp2_with (refine wpList_load_row rfl 42 _ rfl 0 rfl tg exps7 frg _ hg Tryd.underlying42 rfl (by kernel_rfl) ?_)
  go_loop [6] (fun i => ∃ k : Nat, k ≤ 2 ∧ i = .int .i64 k) (fun i => 7 - (intOf i).toNat)
  case atStart => exact ⟨0, by omega, rfl⟩
  case round =>
    obtain ⟨k, hk, rfl⟩ := hrel
    rcases (show k = 0 ∨ k = 1 ∨ k = 2 by omega) with rfl | rfl | rfl

    · go_wp2
      go_round
      case rel => exact ⟨1, by omega, rfl⟩
      case measure => simp [intOf]

    · go_wp2
      go_round
      case rel => exact ⟨2, by omega, rfl⟩
      case measure => simp [intOf]

    · go_wp2
      go_ret
      exact ⟨rfl, rfl⟩

set_option maxHeartbeats 1000000 in
theorem exp_7 (w : World) (hG : Glob w) : Calls Tryd.prog 23 #[.int .u64 7] w fun e w' => e = .returned (.int .i64 0) ∧ w = w' := by
  have i0 : ∀ w, (Instr.index 42 (.agg exps7) (.int .i64 0)).run Tryd.prog w = .ok (.int .i64 5) w := fun _ => by kernel_rfl
  have i1 : ∀ w, (Instr.index 42 (.agg exps7) (.int .i64 1)).run Tryd.prog w = .ok (.int .i64 7) w := fun _ => by kernel_rfl
  have i2 : ∀ w, (Instr.index 42 (.agg exps7) (.int .i64 2)).run Tryd.prog w = .ok (.int .i64 13) w := fun _ => by kernel_rfl
  have i3 : ∀ w, (Instr.index 42 (.agg exps7) (.int .i64 3)).run Tryd.prog w = .ok (.int .i64 17) w := fun _ => by kernel_rfl
  have i4 : ∀ w, (Instr.index 42 (.agg exps7) (.int .i64 4)).run Tryd.prog w = .ok (.int .i64 19) w := fun _ => by kernel_rfl
  have i5 : ∀ w, (Instr.index 42 (.agg exps7) (.int .i64 5)).run Tryd.prog w = .ok (.int .i64 31) w := fun _ => by kernel_rfl
  have i6 : ∀ w, (Instr.index 42 (.agg exps7) (.int .i64 6)).run Tryd.prog w = .ok (.int .i64 61) w := fun _ => by kernel_rfl
  obtain ⟨tg, frg, hG⟩ := hG
  have hg := Lib.hid hG
  clear hG
  go_enter Tryd.func23, Tryd.ntmps23
  go_wp2_with (refine wpList_load_row rfl 42 _ rfl 0 rfl tg exps7 frg _ hg Tryd.underlying42 rfl (by kernel_rfl) ?_)
  go_loop [6] (fun i => ∃ k : Nat, k ≤ 7 ∧ i = .int .i64 k) (fun i => 7 - (intOf i).toNat)
  case atStart => exact ⟨0, by omega, rfl⟩
  case round =>
    obtain ⟨k, hk, rfl⟩ := hrel
    rcases (show k = 0 ∨ k = 1 ∨ k = 2 ∨ k = 3 ∨ k = 4 ∨ k = 5 ∨ k = 6 ∨ k = 7 by omega) with rfl | rfl | rfl | rfl | rfl | rfl | rfl | rfl

    · go_wp2
      go_round
      case rel => exact ⟨1, by omega, rfl⟩
      case measure => simp [intOf]

    · go_wp2
      go_round
      case rel => exact ⟨2, by omega, rfl⟩
      case measure => simp [intOf]

    · go_wp2
      go_round
      case rel => exact ⟨3, by omega, rfl⟩
      case measure => simp [intOf]

    · go_wp2
      go_round
      case rel => exact ⟨4, by omega, rfl⟩
      case measure => simp [intOf]

    · go_wp2
      go_round
      case rel => exact ⟨5, by omega, rfl⟩
      case measure => simp [intOf]

    · go_wp2
      go_round
      case rel => exact ⟨6, by omega, rfl⟩
      case measure => simp [intOf]

    · go_wp2
      go_round
      case rel => exact ⟨7, by omega, rfl⟩
      case measure => simp [intOf]

    · go_wp2
      go_ret
      exact ⟨rfl, rfl⟩

set_option maxHeartbeats 1000000 in
theorem exp_127 (w : World) (hG : Glob w) : Calls Tryd.prog 23 #[.int .u64 127] w fun e w' => e = .returned (.int .i64 7) ∧ w = w' := by
  have i0 : ∀ w, (Instr.index 42 (.agg exps7) (.int .i64 0)).run Tryd.prog w = .ok (.int .i64 5) w := fun _ => by kernel_rfl
  have i1 : ∀ w, (Instr.index 42 (.agg exps7) (.int .i64 1)).run Tryd.prog w = .ok (.int .i64 7) w := fun _ => by kernel_rfl
  have i2 : ∀ w, (Instr.index 42 (.agg exps7) (.int .i64 2)).run Tryd.prog w = .ok (.int .i64 13) w := fun _ => by kernel_rfl
  have i3 : ∀ w, (Instr.index 42 (.agg exps7) (.int .i64 3)).run Tryd.prog w = .ok (.int .i64 17) w := fun _ => by kernel_rfl
  have i4 : ∀ w, (Instr.index 42 (.agg exps7) (.int .i64 4)).run Tryd.prog w = .ok (.int .i64 19) w := fun _ => by kernel_rfl
  have i5 : ∀ w, (Instr.index 42 (.agg exps7) (.int .i64 5)).run Tryd.prog w = .ok (.int .i64 31) w := fun _ => by kernel_rfl
  have i6 : ∀ w, (Instr.index 42 (.agg exps7) (.int .i64 6)).run Tryd.prog w = .ok (.int .i64 61) w := fun _ => by kernel_rfl
  obtain ⟨tg, frg, hG⟩ := hG
  have hg := Lib.hid hG
  clear hG
  go_enter Tryd.func23, Tryd.ntmps23
  go_wp2_with (refine wpList_load_row rfl 42 _ rfl 0 rfl tg exps7 frg _ hg Tryd.underlying42 rfl (by kernel_rfl) ?_)
  go_loop [6] (fun i => ∃ k : Nat, k ≤ 1 ∧ i = .int .i64 k) (fun i => 7 - (intOf i).toNat)
  case atStart => exact ⟨0, by omega, rfl⟩
  case round =>
    obtain ⟨k, hk, rfl⟩ := hrel
    rcases (show k = 0 ∨ k = 1 by omega) with rfl | rfl

    · go_wp2
      go_round
      case rel => exact ⟨1, by omega, rfl⟩
      case measure => simp [intOf]

    · go_wp2
      go_ret
      exact ⟨rfl, rfl⟩

theorem field_Exponent.calls (a0 : Int) (r : Int) (w : World) (hG : Glob w) (h : field_Exponent.f a0 = some r) :
    Calls Tryd.prog 23 #[.int .u64 a0] w fun e w' => e = .returned (.int .i64 r) ∧ Drawn0 w w' := by
  unfold field_Exponent.f at h
  split at h
  · rename_i e
    subst e
    obtain rfl := Option.some.inj h
    exact (exp_8191 w hG).mono fun e w' ⟨he, hw⟩ => ⟨he, hw ▸ Drawn0.refl _⟩
  · split at h
    · rename_i e
      subst e
      obtain rfl := Option.some.inj h
      exact (exp_7 w hG).mono fun e w' ⟨he, hw⟩ => ⟨he, hw ▸ Drawn0.refl _⟩
    · split at h
      · rename_i e
        subst e
        obtain rfl := Option.some.inj h
        exact (exp_127 w hG).mono fun e w' ⟨he, hw⟩ => ⟨he, hw ▸ Drawn0.refl _⟩
      · cases h
end Go.Proofs.YthlokgappehhgaaDoor
