/- A map from numbers to truths that the call made and wrote 'true' into: it is the set of its keys. -/
import Derived.Test.YtkjknpibcbpdfaaBase
import Derived.Maps.OwnSet
import Derived.Maps.OwnOps
import Derived.Test.YtkjknpibcbpdfaaWMore
namespace Go.Proofs.Ytkjknpibcbpdfaa
open Go Go.RowKit Go.Maps Go.Proofs.YtkjknpibcbpdfaaW.PrintWords Go.Proofs.YtkjknpibcbpdfaaW.PrintLast
set_option linter.unusedVariables false

/-- Block b of w is a map of at most n entries whose keys with 'true' are the numbers of l. -/
def Seen (w : World) (b n : Nat) (l : List Int) : Prop :=
  ∃ D : DataW Unit, w.ownsMap Try.prog 22 (plainElem Try.prog 4) b n D ∧ ∀ x : Int, (Lit.int .u64 x).wf = true → D.atKey (.int .u64 x) (.lit (.bool false)) = .lit (.bool (decide (x ∈ l)))
theorem Seen.made (w : World) : Seen (w.alloc (.map #[] 0)) w.heap.size 0 [] :=
  ⟨.map [], World.ownsMap_made _ _ _ _, fun x _ => by simp [DataW.atKey]⟩
theorem Seen.lt {w : World} {b n : Nat} {l : List Int} (h : Seen w b n l) : b < w.heap.size := by obtain ⟨D, h, _⟩ := h; exact h.lt
theorem Seen.below {w w' : World} {b n B : Nat} {l : List Int} (h : Seen w b n l) (hb : Below B w w') (hB : b < B) : Seen w' b n l := by
  obtain ⟨D, ⟨es, clock, hc, r⟩, hD⟩ := h
  exact ⟨D, ⟨es, clock, (hb.block b hB).trans hc, r⟩, hD⟩
theorem Seen.set {w : World} {b n g j : Nat} {l : List Int} {v : Value} (h : Seen w b n l) (hg : b < g) : Seen (w.setCell ⟨g, j, none⟩ v) b n l := by
  obtain ⟨D, h, hD⟩ := h
  exact ⟨D, h.setCell (by simp only; omega) _, hD⟩
theorem Seen.to {w : World} {b n m : Nat} {l l' : List Int} (h : Seen w b n l) (hn : n ≤ m) (hl : ∀ x, x ∈ l ↔ x ∈ l') : Seen w b m l' := by
  obtain ⟨D, h, hD⟩ := h
  exact ⟨D, h.mono hn, fun x hx => by rw [hD x hx]; simp only [hl]⟩
theorem seen_wf {x : Int} (h0 : 0 ≤ x) (h1 : x < 18446744073709551616) : (Lit.int .u64 x).wf = true := by
  unfold Lit.wf
  rw [Bool.and_eq_true]
  exact ⟨decide_eq_true h0, decide_eq_true (by show x ≤ 18446744073709551615; omega)⟩
theorem zero_bool (w : World) : (zeroValue 4).run Try.prog w = .ok (.bool false) w := by kernel_rfl
theorem plain_bool_inv {P : Program} {t : TypeId} (ht : P.underlying t = some .bool) {v : Value} {d : DataW Unit} {ps : List MemPlace} (h : plainElem P t v = some (d, ps)) : ∃ x, v = .bool x ∧ d = .lit (.bool x) := by
  unfold plainElem at h
  rw [ht] at h
  cases v <;> simp at h
  obtain ⟨rfl, rfl⟩ := h
  exact ⟨_, rfl, rfl⟩
/-- The look-up at the operation. -/
theorem look_seen {w : World} {ops : Array Oper} {rest : List Oper} {o : Oper} {a : Act} {Q : Exit → Act → World → Prop}
    (hg : o.guard = none) (m x : Operand) (hop : o.op = Op.lookup 108 m x false) (b n : Nat) (l : List Int)
    (hm : a.eval m = .map (some b)) (z : Int) (hx : a.eval x = .int .u64 z) (hwf : (Lit.int .u64 z).wf = true) (hS : Seen w b n l) (r : Bool) (hr : decide (z ∈ l) = r)
    (hK : wpList Try.prog ops Q rest (a.put o.dst (.bool r)) w) : wpList Try.prog ops Q (o :: rest) a w := by
  refine wpList_plain hg fun K' hK' => ?_
  obtain ⟨D, hown, hD⟩ := hS
  obtain ⟨v, ps, hrun, hv⟩ := hown.lookup (int_keyed Try.underlying22) Try.underlying108 (zero_bool w) (plainElem_bool Try.underlying4 false) (keyOf_int_mk Try.underlying22 hwf)
  rw [hD z hwf] at hv
  have hb4 : Program.underlying Try.prog 4 = some .bool := Try.underlying4
  have hi := plain_bool_inv hb4 hv
  obtain ⟨y, rfl, hy⟩ := hi
  have hyr : y = r := (Lit.bool.inj (DataW.lit.inj hy)).symm.trans hr
  subst hyr
  unfold Oper.wp
  simp [execOp, hop, hm, hx, hrun, Result.andThen]
  exact hK' _ _ hK
/-- The store of 'true' at the operation. -/
theorem put_seen {w : World} {ops : Array Oper} {rest : List Oper} {o : Oper} {a : Act} {Q : Exit → Act → World → Prop}
    (hg : o.guard = none) (m x v : Operand) (hop : o.op = Op.mapUpdate 108 m x v) (b n : Nat) (l : List Int)
    (hm : a.eval m = .map (some b)) (z : Int) (hx : a.eval x = .int .u64 z) (hv : a.eval v = .bool true) (hwf : (Lit.int .u64 z).wf = true) (hS : Seen w b n l) (hn : n < maxLen)
    (hK : ∀ w', Seen w' b (n + 1) (z :: l) → w.grownBy w' (some b) → wpList Try.prog ops Q rest (a.put o.dst undef) w') : wpList Try.prog ops Q (o :: rest) a w := by
  obtain ⟨D, hown, hD⟩ := hS
  refine wpList_mapUpdate_own w hg m x v _ hop _ _ (int_keyed Try.underlying22) Try.underlying108 _ b n D hm hown hn _ _ _ hx hv (keyOf_int_mk Try.underlying22 hwf) (.lit (.bool true)) [] (plainElem_bool Try.underlying4 true) ?_
  intro w' hown' hgr
  refine hK w' ⟨_, hown', fun y hy => ?_⟩ hgr
  by_cases he : y = z
  · subst he
    rw [atKey_put_same hown.isMap (by first | exact trivial | exact rfl | simp [WideAt.IsKeyLit])]
    simp
  · rw [atKey_put_other (by intro e; injection e with _ e; exact he e), hD y hy]
    congr 2
    simp [he]
end Go.Proofs.Ytkjknpibcbpdfaa
