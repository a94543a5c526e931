/- productproof.down: an iterator that hands t, t - 1, .., 1. -/
import Derived.RangeFuncNested
import Derived.RangeFuncFrom
import Derived.RangeFuncBound
import Derived.RangeFuncCalls
import Derived.RangeFuncLeaves
import Derived.Shelf.Abstract
import Derived.Shelf.RegionOpen
import Derived.WalkKit
import Derived.OwnWalkIn
import Derived.TacticsInMore
import Derived.LoopNIn
import Derived.LoopIn
import Derived.Test.YtkcjhcjlaefgmaaMul
namespace Go.Proofs.Ytkcjhcjlaefgmaa
open Go.RowKit Go.Shelf Go.Proofs.YtkcjhcjlaefgmaaW.PrintWords Go.Proofs.YtkcjhcjlaefgmaaW.PrintLast
attribute [local go_sem] Oper.semAt_some
set_option linter.unusedVariables false
set_option linter.unusedSimpArgs false

/-- The loop's numbers. -/
abbrev Upto (t : Nat) := { x : Nat // 1 ≤ x ∧ x ≤ t }
/-- The first k of t, t - 1, .. -/
def downFirst (t : Nat) : Nat → List (Upto t)
  | 0 => []
  | k + 1 => if h : k + 1 ≤ t then downFirst t k ++ [⟨t - k, by omega, by omega⟩] else downFirst t k
theorem downFirst_succ (t k : Nat) (h : k + 1 ≤ t) : downFirst t (k + 1) = downFirst t k ++ [⟨t - k, by omega, by omega⟩] := by simp [downFirst, h]
theorem downFirst_length (t : Nat) : ∀ k, k ≤ t → (downFirst t k).length = k := by
  intro k
  induction k with
  | zero => intro _; rfl
  | succ k ih => intro h; rw [downFirst_succ t k h, List.length_append, ih (by omega)]; rfl

set_option maxRecDepth 100000 in
set_option maxHeartbeats 2000000 in
theorem down_stops (F : Fence) (n : Nat) (hf : F.fn 63) (hro : F.round = none) (hn : 1 ≤ n) (Bn n₀ t : Nat) (ht : t ≤ 1000000) (w : World) (hBn : Bn < w.heap.size)
    (hc : w.cell? ⟨Bn, 0, none⟩ = some (.int .i64 (t : Int))) :
    SeqStopsK F n Try.prog 63 #[.pointer (some ⟨Bn, 0, none⟩)] (fun x : Upto t => #[Value.int .i64 (x.1 : Int)]) (Below n₀) (fun ys => ys = downFirst t t) (fun _ => True) t w := by
  intro l J Jx W hW _ _ hY h0
  have hcW : W.cell? ⟨Bn, 0, none⟩ = some (.int .i64 (t : Int)) := (hW.cell (p := ⟨Bn, 0, none⟩) hBn).trans hc
  refine callsIn_of_wp Try.func63 rfl hf ?_ hro
  simp only [Try.ntmps63, List.size_toArray, List.length_cons, List.length_nil, Nat.reduceAdd, Nat.reduceSub, Array.replicate_succ, Array.replicate_zero, List.push_toArray, List.append_toArray, List.nil_append, List.cons_append]
  gi_wp2
  gi_loopw [3] (fun p wr => ∃ k : Nat, k ≤ t ∧ p = .int .i64 ((t : Int) - k) ∧ J (downFirst t k) wr) (fun p _ => (intOf p).toNat)
  case atStart => exact ⟨0, Nat.zero_le _, by simp, h0⟩
  case round =>
    obtain ⟨k, hk, rfl, hJs⟩ := hrel
    by_cases hlt : k + 1 ≤ t
    · have hx1 : 1 ≤ (t : Int) - k := by omega
      obtain ⟨fn, tmps, assign, body, hy, hR⟩ := hY (downFirst t k) ⟨t - k, by omega, by omega⟩ wr hJs (by rw [downFirst_length t k hk]; omega)
      dsimp only at hy
      rw [show (((t - k : Nat) : Int)) = (t : Int) - k by omega] at hy
      gi_wp2
      refine hR.mono ?_
      rintro e W3 (⟨rfl, hJ3, hk3⟩ | ⟨rfl, hJx3⟩)
      · gi_wp2
        go_roundw
        case rel => exact ⟨k + 1, hlt, by go_num, by rw [downFirst_succ t k hlt]; exact hJ3⟩
        case measure => simp [intOf]; omega
      · gi_wp2
        refine bodyPost_ret (results_none rfl _ _ _) rfl ?_
        exact ⟨⟨_, rfl⟩, .inr ⟨_, trivial, hJx3⟩⟩
    · obtain rfl : k = t := by omega
      gi_wp2
      go_end0
      exact ⟨⟨_, rfl⟩, .inl ⟨_, rfl, hJs⟩⟩

theorem down_call (t : Int) (w : World) : Calls Try.prog 48 #[.int .i64 t] w fun e w' => e = .returned (.func (.func 63) #[] #[.pointer (some ⟨w.heap.size, 0, none⟩)]) ∧ w' = w.alloc (.cells #[.int .i64 t] 3) := by
  go_enter Try.func48, Try.ntmps48
  go_wp2
  go_ret
  exact ⟨by simp, rfl⟩
end Go.Proofs.Ytkcjhcjlaefgmaa
