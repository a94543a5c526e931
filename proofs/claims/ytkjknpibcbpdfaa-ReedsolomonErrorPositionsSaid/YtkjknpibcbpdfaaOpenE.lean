/- The arguments of the laws 08, structs with points, opened to plain numbers and lists. -/
import Derived.Test.YtkjknpibcbpdfaaD0
import Derived.Test.YtkjknpibcbpdfaaRows
import Derived.Deep.Slices
import Derived.Deep.Matrix
import Derived.WalkKit
import Derived.ProofKit
import Derived.OpenShut
import Derived.Below
import Derived.SizedLaws
import Derived.ChangeSlices
namespace Go.Proofs.Ytkjknpibcbpdfaa.L8
open Go.ChangeShapes Go.WideShapes Go.ChangeAt Go.RowKit Go.Deep Go.Proofs.YtkjknpibcbpdfaaW.PrintWords
set_option linter.unusedVariables false
set_option linter.unusedSimpArgs false
section
variable {H : Type} {enc : TypeId × Value → H} {P : Program} {w : World} {base : Nat} {spare : Nat → Bool} {held : Bool}
/-- One field of a struct whose fields are one cell each, out of the struct's reading. -/
theorem field_at {t : TypeId} {fs : Array Field} {fuel : Nat} {cs : List Value} {x : DataW H × List MemPlace} (hs : P.underlying t = some (.struct fs)) (h : DataW.trod enc P w base spare held fuel t cs = some x)
    (i : Nat) (f : Field) (v : Value) (hf : fs[i]? = some f) (ho : f.offset = i) (hc : P.cellsOf f.type = 1) (hv : (cs.drop i).take 1 = [v]) : ∃ n y, DataW.trod enc P w base spare held n f.type [v] = some y := by
  obtain ⟨xs, n, _, _, _, hl, hg⟩ := DataW.trod_struct hs h
  have hi : i < xs.length := by rw [hl]; exact (Array.getElem?_eq_some_iff.1 hf).1
  have := hg i f hf
  rw [ho, hc, hv, List.getElem?_eq_getElem hi] at this
  exact ⟨n, _, this⟩
/-- A number's cell. -/
theorem num_at {t : TypeId} {n : Nat} {v : Value} {y : DataW H × List MemPlace} (ht : P.underlying t = some (.int .u64)) (h : DataW.trod enc P w base spare held n t [v] = some y) : ∃ a : Int, v = .int .u64 a ∧ 0 ≤ a ∧ a ≤ 18446744073709551615 := by
  obtain ⟨a, e, -, hw⟩ := DataW.trod_int ht h
  exact ⟨a, by simpa using e, bounds_u64 hw⟩
/-- An int's cell. -/
theorem int_at {t : TypeId} {n : Nat} {v : Value} {y : DataW H × List MemPlace} (ht : P.underlying t = some (.int .i64)) (h : DataW.trod enc P w base spare held n t [v] = some y) : ∃ a : Int, v = .int .i64 a := by
  obtain ⟨a, e, -, hw⟩ := DataW.trod_int ht h
  exact ⟨a, by simpa using e⟩
/-- A field of a struct, however many cells it has. -/
theorem part_at {t : TypeId} {fs : Array Field} {fuel : Nat} {cs : List Value} {x : DataW H × List MemPlace} (hs : P.underlying t = some (.struct fs)) (h : DataW.trod enc P w base spare held fuel t cs = some x)
    (i : Nat) (f : Field) (hf : fs[i]? = some f) : ∃ n y, DataW.trod enc P w base spare held n f.type ((cs.drop f.offset).take (P.cellsOf f.type)) = some y := by
  obtain ⟨xs, n, _, _, _, hl, hg⟩ := DataW.trod_struct hs h
  have hi : i < xs.length := by rw [hl]; exact (Array.getElem?_eq_some_iff.1 hf).1
  have := hg i f hf
  rw [List.getElem?_eq_getElem hi] at this
  exact ⟨n, _, this⟩
/-- A row's cell. -/
theorem row_at {t e : TypeId} {n : Nat} {v : Value} {y : DataW H × List MemPlace} (ht : P.underlying t = some (.slice e)) (he : P.underlying e = some (.int .u64)) (hc : P.cellsOf e = 1) (h : DataW.trod enc P w base (fun _ => true) held n t [v] = some y) : ∃ (A : Option Addr) (c : Nat) (l : List Int), v = .slice A l.length c ∧ Kd.C (Kd.int .u64) w A l.length l ∧ l.length ≤ c ∧ ∀ x ∈ l, 0 ≤ x ∧ x ≤ 18446744073709551615 := by
  have key : ∃ A len cap zs, v = .slice A len cap ∧ ((A = none ∧ len = 0 ∧ cap = 0 ∧ zs = ([] : List Int)) ∨ ∃ x, A = some x ∧ len ≤ cap ∧ cap ≤ maxLen ∧ zs.length = cap ∧ (∀ i, i < zs.length → w.cell? (x.add i) = some (.int .u64 (zs.getD i 0))) ∧ ∀ n ∈ zs, (Lit.int .u64 n).wf = true) := by
    rcases open_ints ht he hc h with ⟨hcs, _⟩ | ⟨x, l, c, zs, hcs, _, hl, hm, hz, _, hcell, hwz⟩
    · exact ⟨none, 0, 0, [], by simpa using hcs, .inl ⟨rfl, rfl, rfl, rfl⟩⟩
    · exact ⟨some x, l, c, zs, by simpa using hcs, .inr ⟨x, rfl, hl, hm, by simpa using hz, hcell, hwz⟩⟩
  obtain ⟨A, len, cap, zs, rfl, hk⟩ := key
  obtain ⟨l, rfl, hr, _, hw, hc⟩ := ReadsInt.ofRowC hk
  refine ⟨A, cap, l, rfl, Kd.C_of_reads hr, hc, fun x hx => ?_⟩
  exact bounds_u64 (hw x hx)
end
def inI (x : Int) : Prop := -9223372036854775808 ≤ x ∧ x ≤ 9223372036854775807
theorem int_in {H : Type} {enc : TypeId × Value → H} {P : Program} {w : World} {base : Nat} {spare : Nat → Bool} {held : Bool} {t : TypeId} {n : Nat} {v : Value} {y : DataW H × List MemPlace} (ht : P.underlying t = some (.int .i64)) (h : DataW.trod enc P w base spare held n t [v] = some y) : ∃ a : Int, v = .int .i64 a ∧ inI a := by
  obtain ⟨a, e, -, hw⟩ := DataW.trod_int ht h
  refine ⟨a, by simpa using e, ?_⟩
  unfold Lit.wf at hw
  rw [Bool.and_eq_true] at hw
  exact ⟨of_decide_eq_true hw.1, of_decide_eq_true hw.2⟩
abbrev Pt := D.S71
def inU (x : Int) : Prop := 0 ≤ x ∧ x ≤ 18446744073709551615
set_option maxRecDepth 100000 in
/-- A row of points. -/
theorem points_at {H : Type} {enc : TypeId × Value → H} {w : World} {base : Nat} {held : Bool} {n : Nat} {v : Value} {y : DataW H × List MemPlace} (h : DataW.trod enc Try.prog w base (fun _ => true) held n 46 [v] = some y) :
    ∃ (A : Option Addr) (c : Nat) (l : List Pt), v = .slice A l.length c ∧ Kd.C D.k71 w A l.length l ∧ l.length ≤ c ∧ ∀ q ∈ l, inU q.f0 ∧ inU q.f1 := by
  have ce : Try.prog.cellsOf 71 = 2 := by kernel_rfl
  have cU : Try.prog.cellsOf 22 = 1 := by kernel_rfl
  have hs := Try.underlying71
  rcases open_slice Try.underlying46 h with ⟨hcs, _⟩ | ⟨a, len, cap, m, n', D_, Pl, hcs, _, hl, hm, hmm, _, hx⟩
  · obtain rfl : v = .slice none 0 0 := by simpa using hcs
    exact ⟨none, 0, [], rfl, ⟨rfl, by decide, fun h => absurd h (by decide)⟩, Nat.le_refl _, fun q hq => by cases hq⟩
  · obtain rfl : v = .slice (some a) len cap := by simpa using hcs
    simp only [if_true] at hmm
    subst hmm
    have each : ∀ i, i < m → ∃ q : Pt, w.cell? (a.add (i * 2 + 0)) = some (.int .u64 q.f0) ∧ w.cell? (a.add (i * 2 + 1)) = some (.int .u64 q.f1) ∧ inU q.f0 ∧ inU q.f1 := by
      intro i hi
      obtain ⟨cs', h1, h2⟩ := hx i hi
      rw [ce] at h1
      obtain ⟨_, hlen, hc⟩ := World.cells?_some h1
      match cs', hlen with
      | [c0, c1], _ =>
        obtain ⟨_, _, f0⟩ := field_at hs h2 0 _ c0 rfl rfl cU rfl
        obtain ⟨_, _, f1⟩ := field_at hs h2 1 _ c1 rfl rfl cU rfl
        obtain ⟨a0, rfl, b0⟩ := num_at Try.underlying22 f0
        obtain ⟨a1, rfl, b1⟩ := num_at Try.underlying22 f1
        have g0 := hc 0 (by omega)
        have g1 := hc 1 (by omega)
        rw [Addr.add_add] at g0 g1
        exact ⟨⟨a0, a1⟩, g0, g1, b0, b1⟩
    have : Inhabited Pt := ⟨D.z71⟩
    obtain ⟨q, hq⟩ := choose_lt each
    have hlen : ((List.range len).map q).length = len := by simp
    refine ⟨some a, m, (List.range len).map q, by rw [hlen], ?_, by rw [hlen]; exact hl, fun z hz => ?_⟩
    · rw [hlen]
      refine ⟨hlen, by unfold maxLen at hm; omega, fun hp => ⟨a, rfl, fun j z hj => ?_⟩⟩
      have hjl : j < len := by have := (List.getElem?_eq_some_iff.1 hj).1; rwa [hlen] at this
      rw [List.getElem?_map, List.getElem?_range hjl] at hj
      obtain rfl := Option.some.inj hj
      obtain ⟨e0, e1, _, _⟩ := hq j (by omega)
      refine ⟨[.int .u64 (q j).f0, .int .u64 (q j).f1], rfl, D.k71_mk w (q j), fun i u hu => ?_⟩
      rw [show D.k71.sz = 2 from rfl]
      match i, hu with
      | 0, hu =>
        obtain rfl := Option.some.inj hu
        exact e0
      | 1, hu =>
        obtain rfl := Option.some.inj hu
        exact e1
    · obtain ⟨j, hj, rfl⟩ := List.mem_map.1 hz
      exact (hq j (by have := List.mem_range.1 hj; omega)).2.2
set_option maxRecDepth 100000 in
/-- A whole Ask. -/
theorem open_ask {H : Type} {enc : TypeId × Value → H} {w : World} {base b0 : Nat} {held : Bool} {r : Reach} {v : Value} {d : DataW H} {p : List MemPlace} (hv : Value.okWide Try.prog w r b0 48 v) (h : DataW.Trod enc Try.prog w base (fun _ => true) held 48 v d p) :
    ∃ (a0 : Int) (A1 : Option Addr) (c1 : Nat) (l1 : List Pt) (a2 a3 : Int), v = .agg #[.int .u64 a0, .slice A1 l1.length c1, .int .i64 a2, .int .i64 a3] ∧ inU a0 ∧ Kd.C D.k71 w A1 l1.length l1 ∧ l1.length ≤ c1 ∧ (∀ q ∈ l1, inU q.f0 ∧ inU q.f1) ∧ inI a2 ∧ inI a3 := by
  have hs := Try.underlying48
  obtain ⟨cs, rfl, hsz⟩ := okWide_struct hs hv
  obtain ⟨l⟩ := cs
  have hC : Try.prog.cellsOf 48 = 4 := by kernel_rfl
  have cU : Try.prog.cellsOf 22 = 1 := by kernel_rfl
  have cI : Try.prog.cellsOf 3 = 1 := by kernel_rfl
  have cS : Try.prog.cellsOf 46 = 1 := by kernel_rfl
  match l, hsz.trans hC with
  | [v0, v1, v2, v3], _ =>
    obtain ⟨fuel, hf⟩ := h
    obtain ⟨_, _, f0⟩ := field_at hs hf 0 _ v0 rfl rfl cU rfl
    obtain ⟨_, _, f1⟩ := field_at hs hf 1 _ v1 rfl rfl cS rfl
    obtain ⟨_, _, f2⟩ := field_at hs hf 2 _ v2 rfl rfl cI rfl
    obtain ⟨_, _, f3⟩ := field_at hs hf 3 _ v3 rfl rfl cI rfl
    obtain ⟨a0, rfl, b0⟩ := num_at Try.underlying22 f0
    obtain ⟨A1, c1, l1, rfl, b1⟩ := points_at f1
    obtain ⟨a2, rfl, b2⟩ := int_in Try.underlying3 f2
    obtain ⟨a3, rfl, b3⟩ := int_in Try.underlying3 f3
    exact ⟨a0, A1, c1, l1, a2, a3, rfl, b0, b1.1, b1.2.1, b1.2.2, b2, b3⟩
set_option maxRecDepth 100000 in
theorem open_list {H : Type} {enc : TypeId × Value → H} {w : World} {base b0 : Nat} {held : Bool} {r : Reach} {v : Value} {d : DataW H} {p : List MemPlace} (hv : Value.okWide Try.prog w r b0 32 v) (h : DataW.Trod enc Try.prog w base (fun _ => true) held 32 v d p) :
    ∃ (A : Option Addr) (c : Nat) (l : List Int), v = .slice A l.length c ∧ Kd.C (Kd.int .u64) w A l.length l ∧ l.length ≤ c ∧ ∀ x ∈ l, inU x := by
  obtain ⟨A, len, cap, rfl⟩ := okWide_slice Try.underlying32 hv
  obtain ⟨fuel, hf⟩ := h
  exact row_at Try.underlying32 Try.underlying22 (by kernel_rfl) hf
end Go.Proofs.Ytkjknpibcbpdfaa.L8
