/- The arguments of the laws 06 and 08, opened to plain numbers, lists and tables. -/
import Derived.Test.YtkjknpibcbpdfaaBase
import Derived.Test.YtkjknpibcbpdfaaRows
import Derived.Deep.Matrix
import Derived.WalkKit
import Derived.ProofKit
import Derived.OpenShut
import Derived.Below
import Derived.SizedLaws
import Derived.ChangeSlices
namespace Go.Proofs.Ytkjknpibcbpdfaa
open Go.ChangeShapes Go.WideShapes Go.ChangeAt Go.RowKit Go.Deep Go.Proofs.YtkjknpibcbpdfaaW.PrintWords
set_option linter.unusedVariables false
set_option linter.unusedSimpArgs false
section
variable {H : Type} {enc : TypeId × Value → H} {P : Program} {w : World} {base : Nat} {held : Bool}
theorem ow_u64 {n : Int} (h : (Lit.int .u64 n).wf = true) : 0 ≤ n ∧ n ≤ 18446744073709551615 := bounds_u64 h
/-- A row of numbers, off a cell. -/
theorem row_at {t e : TypeId} {n : Nat} {v : Value} {y : DataW H × List MemPlace} (ht : P.underlying t = some (.slice e)) (he : P.underlying e = some (.int .u64)) (hc : P.cellsOf e = 1) (h : DataW.trod enc P w base (fun _ => true) held n t [v] = some y) :
    ∃ (A : Option Addr) (c : Nat) (l : List Int), v = .slice A l.length c ∧ Kd.C (Kd.int .u64) w A l.length l ∧ l.length ≤ c ∧ ∀ x ∈ l, 0 ≤ x := by
  have key : ∃ A len cap zs, v = .slice A len cap ∧ ((A = none ∧ len = 0 ∧ cap = 0 ∧ zs = ([] : List Int)) ∨ ∃ x, A = some x ∧ len ≤ cap ∧ cap ≤ maxLen ∧ zs.length = cap ∧ (∀ i, i < zs.length → w.cell? (x.add i) = some (.int .u64 (zs.getD i 0))) ∧ ∀ n ∈ zs, (Lit.int .u64 n).wf = true) := by
    rcases open_ints ht he hc h with ⟨hcs, _⟩ | ⟨x, l, c, zs, hcs, _, hl, hm, hz, _, hcell, hwz⟩
    · exact ⟨none, 0, 0, [], by simpa using hcs, .inl ⟨rfl, rfl, rfl, rfl⟩⟩
    · exact ⟨some x, l, c, zs, by simpa using hcs, .inr ⟨x, rfl, hl, hm, by simpa using hz, hcell, hwz⟩⟩
  obtain ⟨A, len, cap, zs, rfl, hk⟩ := key
  obtain ⟨l, rfl, hr, _, hw, hc⟩ := ReadsInt.ofRowC hk
  exact ⟨A, cap, l, rfl, Kd.C_of_reads hr, hc, fun x hx => (bounds_u64 (hw x hx)).1⟩
/-- A table of numbers, off a cell. -/
theorem table_at {t e q : TypeId} {n : Nat} {v : Value} {y : DataW H × List MemPlace} (qt : Nat) (ht : P.underlying t = some (.slice e)) (he : P.underlying e = some (.slice q)) (hq : P.underlying q = some (.int .u64)) (ce : P.cellsOf e = 1) (cq : P.cellsOf q = 1) (h : DataW.trod enc P w base (fun _ => true) held n t [v] = some y) :
    ∃ (A : Option Addr) (c : Nat) (l : List (List Int)), v = .slice A l.length c ∧ Kd.C (Kd.slice qt (Kd.int .u64)) w A l.length l ∧ l.length ≤ c ∧ ∀ r ∈ l, ∀ x ∈ r, 0 ≤ x := by
  rcases open_int_rows ht he hq ce cq h with ⟨hcs, _⟩ | ⟨a, len, cap, A, L, C, Z, hcs, _, hl, hm, _, hrow⟩
  · obtain rfl : v = .slice none 0 0 := by simpa using hcs
    exact ⟨none, 0, [], rfl, ⟨rfl, by decide, fun h => absurd h (by decide)⟩, Nat.le_refl _, fun r hr => by cases hr⟩
  · obtain rfl : v = .slice (some a) len cap := by simpa using hcs
    have hlen : ((List.range len).map fun r => (Z r).take (L r)).length = len := by simp
    refine ⟨some a, cap, (List.range len).map fun r => (Z r).take (L r), by rw [hlen], ?_, by rw [hlen]; exact hl, ?_⟩
    · rw [hlen]
      refine ⟨hlen, by unfold maxLen at hm; omega, fun hp => ⟨a, rfl, fun j p hj => ?_⟩⟩
      have hjl : j < len := by have := (List.getElem?_eq_some_iff.1 hj).1; rwa [hlen] at this
      rw [List.getElem?_map, List.getElem?_range hjl] at hj
      obtain rfl := Option.some.inj hj
      obtain ⟨h1, h2, h3, h4, h5, h6, h7⟩ := hrow j (by omega)
      have hzl : ((Z j).take (L j)).length = L j := by rw [List.length_take]; omega
      refine ⟨[.slice (A j) (L j) (C j)], rfl, ⟨A j, C j, by rw [hzl], by rw [hzl]; exact h2, ?_⟩, fun i u hu => ?_⟩
      · rw [hzl]
        refine ⟨hzl, by unfold maxLen at h3; omega, fun hp2 => ?_⟩
        cases hA : A j with
        | none => have := h6 hA; omega
        | some a' =>
          obtain ⟨_, hc⟩ := h7 a' hA
          refine ⟨a', rfl, fun i p hi => ⟨[.int .u64 p], rfl, rfl, fun i' u hu => ?_⟩⟩
          have hil : i < L j := by have := (List.getElem?_eq_some_iff.1 hi).1; rwa [hzl] at this
          match i', hu with
          | 0, hu =>
            obtain rfl := Option.some.inj hu
            have hz : (Z j).getD i 0 = p := by
              rw [List.getElem?_take_of_lt hil] at hi
              rw [List.getD_eq_getElem?_getD, hi]
              rfl
            have := hc i (by omega)
            rw [hz] at this
            rw [show i * (Kd.int IntKind.u64).sz + 0 = i by show i * 1 + 0 = i; omega]
            exact this
      · match i, hu with
        | 0, hu =>
          obtain rfl := Option.some.inj hu
          rw [show j * (Kd.slice qt (Kd.int IntKind.u64)).sz + 0 = j by show j * 1 + 0 = j; omega]
          exact h1
    · intro r hr x hx
      obtain ⟨j, hj, rfl⟩ := List.mem_map.1 hr
      have hj' := List.mem_range.1 hj
      exact (bounds_u64 ((hrow j (by omega)).2.2.2.2.1 x (List.mem_of_mem_take hx))).1
end
section
variable {H : Type} {enc : TypeId × Value → H} {w : World} {base b0 : Nat} {held : Bool} {r : Reach} {v : Value} {d : DataW H} {p : List MemPlace}
set_option maxRecDepth 100000 in
theorem open_num (hv : Value.okWide Try.prog w r b0 22 v) (h : DataW.Trod enc Try.prog w base (fun _ => true) held 22 v d p) : ∃ a : Int, v = .int .u64 a ∧ 0 ≤ a := by
  obtain ⟨n, rfl, _, _, hw⟩ := open_int Try.underlying22 hv h
  exact ⟨n, rfl, (bounds_u64 hw).1⟩
set_option maxRecDepth 100000 in
theorem open_row (hv : Value.okWide Try.prog w r b0 32 v) (h : DataW.Trod enc Try.prog w base (fun _ => true) held 32 v d p) : ∃ (A : Option Addr) (c : Nat) (l : List Int), v = .slice A l.length c ∧ Kd.C (Kd.int .u64) w A l.length l ∧ l.length ≤ c ∧ ∀ x ∈ l, 0 ≤ x := by
  obtain ⟨A, len, cap, rfl⟩ := okWide_slice Try.underlying32 hv
  obtain ⟨fuel, hf⟩ := h
  exact row_at Try.underlying32 Try.underlying22 (by kernel_rfl) hf
set_option maxRecDepth 100000 in
theorem open_table (hv : Value.okWide Try.prog w r b0 23 v) (h : DataW.Trod enc Try.prog w base (fun _ => true) held 23 v d p) : ∃ (A : Option Addr) (c : Nat) (l : List (List Int)), v = .slice A l.length c ∧ Kd.C (Kd.slice 22 (Kd.int .u64)) w A l.length l ∧ l.length ≤ c ∧ ∀ r ∈ l, ∀ x ∈ r, 0 ≤ x := by
  obtain ⟨A, len, cap, rfl⟩ := okWide_slice Try.underlying23 hv
  obtain ⟨fuel, hf⟩ := h
  exact table_at 22 Try.underlying23 Try.underlying32 Try.underlying22 (by kernel_rfl) (by kernel_rfl) hf
end
end Go.Proofs.Ytkjknpibcbpdfaa
