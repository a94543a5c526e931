/- At the wide fence, in a round or not, an operation is carried out as everywhere. -/
import Derived.Test.YtkcjhcjlaefgmaaDown
namespace Go.Proofs.Ytkcjhcjlaefgmaa
open Go.RowKit Go.Shelf
set_option linter.unusedVariables false

theorem in_of_wp {P : Program} {o : Oper} {a : Act} {w : World} {K : Act → World → Prop} {Q : Exit → Act → World → Prop} {n : Nat} (F : Fence) (hF : F = { Fence.wide with round := F.round }) (hd : ∀ c, o.op ≠ .defer c) (h : o.wp P a w K Q) : o.wpIn F n P a w K Q := by
  unfold Oper.wp at h
  unfold Oper.wpIn
  rw [Oper.semAt_plain F a.eval o hd]
  refine ⟨fun f _ => by rw [hF]; trivial, ?_⟩
  revert h
  generalize (execOp a.eval o).run P w = r
  intro h
  have hdep : ¬ F.depth.isSome = true := by
    rw [hF]
    exact fun hs => Bool.noConfusion hs
  cases r with
  | ok nx w' =>
    cases nx with
    | value v => exact h
    | skip => exact h
    | defer d => exact h
    | enter f args =>
      refine ⟨fun hs => absurd hs hdep, ?_⟩
      have h2 : CallsIn Fence.wide (n - 1) P f args w' _ := callsIn_wide.2 h
      rw [hF]
      exact h2
    | row row args =>
      refine ⟨fun hs => absurd hs hdep, fun c cs _ => ?_⟩
      obtain ⟨v, w2, hr, hs⟩ := h c cs
      rw [hF]
      exact ⟨v, w2, hr, stepsIn_wide.2 hs⟩
    | _ => exact False.elim h
  | halt s w' =>
    cases s with
    | panic v => exact h
    | _ => exact False.elim h

theorem wpListIn_of_step {P : Program} {ops : Array Oper} {Q : Exit → Act → World → Prop} {a : Act} {w : World} {rest : List Oper} {o : Oper} {n : Nat} (F : Fence) (hF : F = { Fence.wide with round := F.round }) (hd : ∀ c, o.op ≠ .defer c)
    (h : ∀ K : Act → World → Prop, (∀ a w, wpListIn F n P ops Q rest a w → K a w) → if Region.wanted o (yielded ops a.tmps) = true then Oper.wp P o a w K Q else K (a.put o.dst undef) w) : wpListIn F n P ops Q (o :: rest) a w := by
  refine wpListIn_step fun K hK => ?_
  have h1 := h K hK
  split
  · rename_i hw
    rw [if_pos hw] at h1
    exact in_of_wp F hF hd h1
  · rename_i hw
    rw [if_neg hw] at h1
    exact ⟨fun f _ => by rw [hF]; trivial, h1⟩

/-! ### A whole region by the plain walk -/
/-- It ends normally, and K holds. -/
def EndK (K : Act → World → Prop) : Exit → Act → World → Prop := fun e a w => e = .normal ∧ K a w
theorem EndK.out {K : Act → World → Prop} : ¬ LetsOut (EndK K) := fun ⟨_, _, h, _⟩ => by cases h
section
variable {P : Program} {ops : Array Oper} {Q : Exit → Act → World → Prop} {n : Nat} {K : Act → World → Prop}
theorem op_in {o : Oper} {a : Act} {w : World} {K1 K2 : Act → World → Prop} (F : Fence) (hF : F = { Fence.wide with round := F.round }) (hd : ∀ c, o.op ≠ .defer c) (hk : ∀ a w, K1 a w → K2 a w) (h : o.wp P a w K1 (EndK K)) : o.wpIn F n P a w K2 Q := by
  refine in_of_wp F hF hd ?_
  unfold Oper.wp at h ⊢
  revert h
  generalize (execOp a.eval o).run P w = r
  intro h
  cases r with
  | ok nx w' =>
    cases nx with
    | value v => exact hk _ _ h
    | skip => exact hk _ _ h
    | defer d => exact hk _ _ h
    | enter f args =>
      refine Calls.mono h fun e w2 he => ?_
      cases e with
      | returned v => exact hk _ _ he
      | panicked c => exact absurd he.1 (by simp)
      | outgrown => exact absurd he EndK.out
    | row row args => exact fun c cs => let ⟨v, w2, hr, hs⟩ := h c cs; ⟨v, w2, hk _ _ hr, hs⟩
    | _ => exact False.elim h
  | halt s w' =>
    cases s with
    | panic v => exact absurd h.1 (by simp)
    | _ => exact False.elim h
theorem ops_in (F : Fence) (hF : F = { Fence.wide with round := F.round }) (hnd : ∀ (i : Nat) (o : Oper) c, ops[i]? = some o → o.op ≠ Op.defer c) (hK : ∀ a w, K a w → Q .normal a w) : ∀ (l : List Nat) (a : Act) (w : World), wpOps P ops (EndK K) l a w → wpOpsIn F n P ops Q l a w := by
  intro l
  induction l with
  | nil => intro a w h; exact hK _ _ h.2
  | cons i rest ih =>
    intro a w h
    unfold wpOps at h
    unfold wpOpsIn
    split
    · rename_i he
      rw [he] at h
      exact ih a w h
    · rename_i o he
      rw [he] at h
      simp only at h
      split
      · rename_i hw
        rw [if_pos hw] at h
        rcases h with h | ⟨_, h⟩
        · exact op_in F hF (fun c => hnd i o c he) (fun a w hh => ih a w hh) h
        · exact absurd h EndK.out
      · rename_i hw
        rw [if_neg hw] at h
        exact ⟨fun f _ => by rw [hF]; trivial, ih _ _ h⟩
def noDefer (ops : Array Oper) : Bool := ops.all fun o => match o.op with | .defer _ => false | _ => true
theorem noDefer_at {ops : Array Oper} (h : noDefer ops = true) : ∀ (i : Nat) (o : Oper) c, ops[i]? = some o → o.op ≠ Op.defer c := by
  intro i o c ho e
  unfold noDefer at h
  rw [Array.all_eq_true] at h
  obtain ⟨hi, hoo⟩ := Array.getElem?_eq_some_iff.1 ho
  have := h i hi
  rw [hoo, e] at this
  cases this
theorem region_in {id : Nat} {a : Act} {w : World} {l : List Oper} (F : Fence) (hF : F = { Fence.wide with round := F.round }) (hnd : noDefer l.toArray = true) (hK : ∀ a w, K a w → Q .normal a w)
    (h : wpList P l.toArray (EndK K) l a w) : (Code.region id l.toArray false).wpIn F n P Q a w := by
  refine wpIn_region (ops_in F hF (noDefer_at hnd) hK _ _ _ ?_)
  rw [List.range_eq_range', List.size_toArray, wpOps_eq_wpList l 0 (by simp)]
  exact h
theorem draw_in {id : Nat} {a : Act} {w : World} (F : Fence) (hF : F = { Fence.wide with round := F.round }) (hnd : noDefer ops = true) (hm : P.follows .mixedOrders = true) (hK : ∀ a w, K a w → Q .normal a w)
    (h : wpAny P .any ops (EndK K) ops.size (Array.replicate ops.size false) a { w with drawn := w.drawn + 1 }) : (Code.region id ops true).wpIn F n P Q a w := by
  refine wpIn_region_draw fun t => ops_in F hF (noDefer_at hnd) hK _ _ _ ?_
  simp only [Region.schedule, hm, Bool.true_or, if_true]
  exact wpAny_sound ops.size t _ a _ h
/-- What is left of a plain region, by the plain walk. -/
theorem list_in (F : Fence) (hF : F = { Fence.wide with round := F.round }) (hK : ∀ a w, K a w → Q .normal a w) : ∀ (l : List Oper) (a : Act) (w : World), noDefer l.toArray = true → wpList P ops (EndK K) l a w → wpListIn F n P ops Q l a w := by
  intro l
  induction l with
  | nil => intro a w _ h; exact hK _ _ h.2
  | cons o rest ih =>
    intro a w hn h
    have hd : ∀ c, o.op ≠ Op.defer c := fun c => noDefer_at hn 0 o c rfl
    have hr : noDefer rest.toArray = true := by
      unfold noDefer at hn ⊢
      simp only [List.all_toArray, List.all_cons, Bool.and_eq_true] at hn ⊢
      exact hn.2
    unfold wpList at h
    unfold wpListIn
    split
    · rename_i hw
      rw [if_pos hw] at h
      rcases h with h | ⟨_, h⟩
      · exact op_in F hF hd (fun a w hh => ih a w hr hh) h
      · exact absurd h EndK.out
    · rename_i hw
      rw [if_neg hw] at h
      exact ⟨fun f _ => by rw [hF]; trivial, ih _ _ hr h⟩
theorem list_inQ (F : Fence) (hF : F = { Fence.wide with round := F.round }) (l : List Oper) (a : Act) (w : World) (hn : noDefer l.toArray = true) (h : wpList P ops (EndK (fun a w => Q .normal a w)) l a w) : wpListIn F n P ops Q l a w :=
  list_in F hF (fun _ _ h => h) l a w hn h
end
end Go.Proofs.Ytkcjhcjlaefgmaa
