/- productproof.Prove. -/
import Derived.Test.YtkcjhcjlaefgmaaInWide
namespace Go.Proofs.Ytkcjhcjlaefgmaa
open Go.RowKit Go.Shelf Go.Proofs.YtkcjhcjlaefgmaaW.PrintWords Go.Proofs.YtkcjhcjlaefgmaaW.PrintLast
attribute [local go_sem] Oper.semAt_some
set_option linter.unusedVariables false
set_option linter.unusedSimpArgs false

section
variable {F : Fence} {n : Nat} {P : Program} {ops : Array Oper} {Q : Exit → Act → World → Prop} {a : Act} {w : World} {rest : List Oper} {o : Oper}
theorem gin_dst {N : Tmp} (h : o.dst = some N) (k : wpListIn F n P ops Q (o :: rest) a w) : wpListIn F n P ops Q (o :: rest) a w := k
/-- One operation by a law of the plain walk. -/
theorem wpListIn_of_list (hF : F = { Fence.wide with round := F.round }) (hd : ∀ c, o.op ≠ .defer c) (hg : o.guard = none)
    (h : ∀ K : Act → World → Prop, (∀ a w, wpListIn F n P ops Q rest a w → K a w) → wpList P ops (fun e a w => e = .normal ∧ K a w) [o] a w) : wpListIn F n P ops Q (o :: rest) a w := by
  refine wpListIn_of_step F hF hd fun K hK => ?_
  have hw : Region.wanted o (yielded ops a.tmps) = true := by simp [Region.wanted, hg]
  rw [if_pos hw]
  have h1 := h K hK
  unfold wpList at h1
  rw [if_pos hw] at h1
  rcases h1 with h1 | ⟨_, _, _, h2, _⟩
  · unfold Oper.wp at h1 ⊢
    revert h1
    generalize (execOp a.eval o).run P w = r
    intro h1
    cases r with
    | ok nx w' =>
      cases nx with
      | value v => exact h1.2
      | skip => exact h1.2
      | defer d => exact h1.2
      | enter f args =>
        refine Calls.mono h1 fun e w2 he => ?_
        cases e with
        | returned v => exact he.2
        | panicked c => exact absurd he.1 (by simp)
        | outgrown => obtain ⟨_, _, h3, _⟩ := he; cases h3
      | row row args => exact fun c cs => let ⟨v, w2, hr, hs⟩ := h1 c cs; ⟨v, w2, hr.2, hs⟩
      | _ => exact h1
    | halt s w' =>
      cases s with
      | panic v => exact absurd h1.1 (by simp)
      | _ => exact h1
  · cases h2
end

/-- A region that draws its order, in the fence. -/
theorem start_in {P : Program} {ops : Array Oper} {Q : Exit → Act → World → Prop} {F : Fence} {n : Nat} {K : Act → World → Prop} {S : World → Prop} {ds : List Nat} {id m : Nat} {a : Act} {w : World} (l : Array Bool) (hF : F = { Fence.wide with round := F.round }) (hnd : noDefer ops = true) (hm : P.follows .mixedOrders = true) (hn : ops.size = m) (hl : Array.replicate m false = l)
    (hK : ∀ a w, K a w → Q .normal a w) (hS : S w.drew) (h : S w.drew → wpAnyLast P .any ops (EndK K) S ds m l a w.drew) : (Code.region id ops true).wpIn F n P Q a w := by
  subst hn
  subst hl
  exact draw_in F hF hnd hm hK (wpAny_of_last _ _ _ _ (h hS))

theorem start_inQ {P : Program} {ops : Array Oper} {Q : Exit → Act → World → Prop} {F : Fence} {n : Nat} {S : World → Prop} {ds : List Nat} {id m : Nat} {a : Act} {w : World} (l : Array Bool) (hF : F = { Fence.wide with round := F.round }) (hnd : noDefer ops = true) (hm : P.follows .mixedOrders = true) (hn : ops.size = m) (hl : Array.replicate m false = l)
    (hS : S w.drew) (h : S w.drew → wpAnyLast P .any ops (EndK (fun a w => Q .normal a w)) S ds m l a w.drew) : (Code.region id ops true).wpIn F n P Q a w := start_in l hF hnd hm hn hl (fun _ _ h => h) hS h

/-- One operation of a drawn region by a law of the plain walk. -/
theorem step_of_list {P : Program} {ops : Array Oper} {Q : Exit → Act → World → Prop} {a : Act} {w : World} {o : Oper} {N : Option Tmp} {K : Act → World → Prop} (hN : o.dst = N) (hg : o.guard = none) (h : wpList P ops (EndK K) [o] a w) :
    if Region.wanted o (yielded ops a.tmps) = true then Oper.wp P o a w K Q else K (a.put N undef) w := by
  have hw : Region.wanted o (yielded ops a.tmps) = true := by simp [Region.wanted, hg]
  rw [if_pos hw]
  unfold wpList at h
  rw [if_pos hw] at h
  rcases h with h | ⟨_, h⟩
  · unfold Oper.wp at h ⊢
    revert h
    generalize (execOp a.eval o).run P w = r
    intro h1
    cases r with
    | ok nx w' =>
      cases nx with
      | value v => exact h1.2
      | skip => exact h1.2
      | defer d => exact h1.2
      | enter f args =>
        refine Calls.mono h1 fun e w2 he => ?_
        cases e with
        | returned v => exact he.2
        | panicked c => exact absurd he.1 (by simp)
        | outgrown => exact absurd he EndK.out
      | row row args => exact fun c cs => let ⟨v, w2, hr, hs⟩ := h1 c cs; ⟨v, w2, hr.2, hs⟩
      | _ => exact h1
    | halt s w' =>
      cases s with
      | panic v => exact absurd h1.1 (by simp)
      | _ => exact h1
  · exact absurd h EndK.out

/-- The row filled up with zeros to n numbers, or cut. -/
def padN (l : List Int) (n : Nat) : List Int := l.take (min l.length n) ++ (List.replicate n (0 : Int)).drop (min l.length n)
/-- What f takes off at place x. -/
def offAt (p : Int) (x : Nat) (f : List Int) : Nat → List Int → List Int
  | 0, left => left
  | i + 1, left => (offAt p x f i left).set (x + i) (((offAt p x f i left).getD (x + i) 0 - f.getD i 0) % p)
/-- The polynomial of round x. -/
def roundF (t : Nat) (r : List Int) (x : Nat) (left : List Int) : List Int := (r.take (x * t)).drop ((x - 1) * t) ++ [left.getD (x + t) 0]
/-- One round. -/
def roundS (p : Int) (t : Nat) (r : List Int) (s : List Int × List (List Int)) (x : Nat) : List Int × List (List Int) :=
  (offAt p x (roundF t r x s.1) (t + 1) s.1, s.2.set (x - 1) (roundF t r x s.1))
def roundsS (p : Int) (t : Nat) (r : List Int) (left : List Int) (l : List (Upto t)) : List Int × List (List Int) := l.foldl (fun s x => roundS p t r s x.1) (left, List.replicate t [])
def productproof_Prove.f (p t : Int) (a b r : List Int) : Option (List (List Int) × List Int) :=
  if (okp p && allF p a && allF p b && allF p r && decide (1 ≤ t) && decide (t ≤ 1000) && decide (a.length ≤ 100000) && decide (b.length ≤ 100000) && decide (r.length = t.toNat * t.toNat)) = true then
    some ((roundsS p t.toNat r (padN (trimL (pmul p a b)) (2 * t.toNat + 1)) (downFirst t.toNat t.toNat)).2, (roundsS p t.toNat r (padN (trimL (pmul p a b)) (2 * t.toNat + 1)) (downFirst t.toNat t.toNat)).1.take (t.toNat + 1))
  else none

theorem padN_length (l : List Int) (n : Nat) : (padN l n).length = n := by
  unfold padN
  rw [List.length_append, List.length_take, List.length_drop, List.length_replicate]
  omega
theorem offAt_length (p : Int) (x : Nat) (f : List Int) : ∀ i left, (offAt p x f i left).length = left.length := by
  intro i
  induction i with
  | zero => intro left; rfl
  | succ i ih => intro left; simp only [offAt, List.length_set, ih]
theorem offAt_allF {p : Int} (hp : okp p = true) (x : Nat) (f : List Int) : ∀ i left, allF p left = true → allF p (offAt p x f i left) = true := by
  intro i
  induction i with
  | zero => intro left h; exact h
  | succ i ih =>
    intro left h
    refine allF_of fun y hy => ?_
    rcases List.mem_or_eq_of_mem_set hy with hy | rfl
    · exact allF_mem (ih left h) hy
    · exact inF_mod hp _
theorem roundF_length (t : Nat) (r : List Int) (x : Nat) (left : List Int) (hr : r.length = t * t) (hx : 1 ≤ x) (hx2 : x ≤ t) : (roundF t r x left).length = t + 1 := by
  have h1 : x * t ≤ t * t := Nat.mul_le_mul_right _ hx2
  have h2 : x * t = (x - 1) * t + t := by
    obtain ⟨y, rfl⟩ : ∃ y, x = y + 1 := ⟨x - 1, by omega⟩
    rw [Nat.add_sub_cancel, Nat.succ_mul]
  unfold roundF
  rw [List.length_append, List.length_drop, List.length_take, List.length_singleton]
  omega
theorem roundF_allF {p : Int} (hp : okp p = true) (t : Nat) (r : List Int) (x : Nat) (left : List Int) (hr : allF p r = true) (hl : allF p left = true) : allF p (roundF t r x left) = true := by
  unfold roundF
  refine allF_append (allF_drop (allF_take hr _) _) ?_
  show (inF p (left.getD (x + t) 0) && true) = true
  rw [allF_getD hp hl]; rfl

theorem rinfo22 : (Try.prog.info? 22).map (fun i => (i.zero, i.size, i.bytes)) = some (some (.int .u64 0), 1, 8) := by kernel_rfl
theorem rinfo23 : (Try.prog.info? 23).map (fun i => (i.zero, i.size, i.bytes)) = some (some (.slice none 0 0), 1, 24) := by kernel_rfl
end Go.Proofs.Ytkcjhcjlaefgmaa
