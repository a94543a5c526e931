/- The table of matrix.reduce while its rows are cloned, one behind the other. -/
import Derived.Test.YtkjknpibcbpdfaaMat5
namespace Go.Proofs.Ytkjknpibcbpdfaa
open Go.RowKit Go.Proofs.YtkjknpibcbpdfaaW.PrintWords Go.Proofs.YtkjknpibcbpdfaaW.PrintLast Go.Proofs.YtkjknpibcbpdfaaW.PrintMore
set_option linter.unusedVariables false
set_option linter.unusedSimpArgs false

/-- The cells of a table that came in. -/
theorem C_raw {w : World} {A : Option Addr} {l : List (List Int)} (h : Kd.C (Kd.slice 22 (Kd.int .u64)) w A l.length l) :
    ∃ rows : List (List Value), rows.length = l.length ∧ ReadsRow (fun x c => c = x ∧ c.length = 1 ∧ ∀ u ∈ c, u.oneCell' = true) 1 w A rows.length rows ∧
      ∀ j, j < l.length → ∃ A' c', rows[j]? = some [.slice A' (l.getD j []).length c'] ∧ (l.getD j []).length ≤ c' ∧ Kd.C (Kd.int .u64) w A' (l.getD j []).length (l.getD j []) := by
  have key : ∀ j : Fin l.length, ∃ x : Value, (∃ A' c', x = .slice A' (l.getD j []).length c' ∧ (l.getD j []).length ≤ c' ∧ Kd.C (Kd.int .u64) w A' (l.getD j []).length (l.getD j [])) ∧ ∃ ad, A = some ad ∧ w.cell? (ad.add j) = some x := by
    intro ⟨j, hj⟩
    obtain ⟨ad, A0, c0, e, h1, h2, h3⟩ := row_at2 h (j : Int) (by omega) (by omega)
    rw [Int.toNat_natCast] at h1 h2 h3
    exact ⟨_, ⟨A0, c0, rfl, h2, h3⟩, ad, e, h1⟩
  have ch := fun j => (key j).choose_spec
  refine ⟨List.ofFn fun j => [(key j).choose], by simp, ⟨rfl, by simp; have := h.2.1; omega, fun hp => ?_⟩, fun j hj => ?_⟩
  · have hl : 0 < l.length := by simpa using hp
    obtain ⟨ad, e, _⟩ := (ch ⟨0, hl⟩).2
    refine ⟨ad, e, fun j q hq => ?_⟩
    have hj : j < l.length := by have := (List.getElem?_eq_some_iff.1 hq).1; simpa using this
    rw [List.getElem?_ofFn, dif_pos hj] at hq
    obtain rfl := Option.some.inj hq
    obtain ⟨⟨A', c', ev, _, _⟩, ad', e', hc⟩ := ch ⟨j, hj⟩
    rw [e] at e'
    cases e'
    refine ⟨_, rfl, ⟨rfl, rfl, fun u hu => ?_⟩, fun i u hu => ?_⟩
    · rw [List.mem_singleton.1 hu, ev]; rfl
    · match i, hu with
      | 0, hu =>
        obtain rfl := Option.some.inj hu
        rw [Nat.mul_one, Nat.add_zero]
        exact hc
  · obtain ⟨⟨A', c', ev, h2, h3⟩, _⟩ := ch ⟨j, hj⟩
    refine ⟨A', c', ?_, h2, h3⟩
    rw [List.getElem?_ofFn, dif_pos hj, ev]
/-- The first k rows are clones, the others the cells that came in. -/
def Mix (W : World) (base : Nat) (v : Value) (m : List (List Int)) (rows0 : List (List Value)) (k : Nat) : Prop :=
  ∃ (f : Nat → Nat) (rows : List (List Value)), rows.length = m.length ∧ Kd.R (Kd.raw 1) 32 W base (fun _ => True) v rows ∧
    (∀ j, j < k → ∃ vj, rows[j]? = some [vj] ∧ Kd.R (Kd.int .u64) 22 W base (fun b => some b ≠ v.ownBlock ∧ f b = j) vj (m.getD j [])) ∧ (∀ j, k ≤ j → rows[j]? = rows0[j]?)
theorem Mix.done {W : World} {base : Nat} {v : Value} {m : List (List Int)} {rows0 : List (List Value)} (h : Mix W base v m rows0 m.length) : Kd.S (Kd.slice 22 (Kd.int .u64)) 32 W base (fun _ => True) v m := by
  obtain ⟨f, rows, hl, ⟨_, inner, ho, hr⟩, hown, _⟩ := h
  refine ⟨f, fun _ _ => trivial, inner, by rw [List.length_zipIdx, ← hl]; exact ho, by rw [List.length_zipIdx, ← hl]; exact hr.1, fun j q hq => ?_⟩
  rw [List.getElem?_zipIdx, Nat.zero_add] at hq
  obtain ⟨x, hx, rfl⟩ := Option.map_eq_some_iff.1 hq
  have hj : j < m.length := (List.getElem?_eq_some_iff.1 hx).1
  obtain ⟨vj, hv, hR⟩ := hown j hj
  have hc := (hr.2 j _ hv).1
  have hmx : m.getD j [] = x := by rw [List.getD_eq_getElem?_getD, hx]; rfl
  rw [hmx] at hR
  exact ⟨vj, hc, Kd.R_mono hR (fun b hb => ⟨⟨trivial, hb.1⟩, hb.2⟩)⟩
theorem Mix.start {W : World} {base : Nat} {v : Value} {m : List (List Int)} {rows : List (List Value)} (hl : rows.length = m.length) (h : Kd.R (Kd.raw 1) 32 W base (fun _ => True) v rows) : Mix W base v m rows 0 :=
  ⟨fun _ => 0, rows, hl, h, fun j hj => by omega, fun _ _ => rfl⟩
theorem Mix.below {W W1 : World} {base : Nat} {v : Value} {m : List (List Int)} {rows0 : List (List Value)} {k : Nat} (h : Mix W base v m rows0 k) (hb : Below W.heap.size W W1) : Mix W1 base v m rows0 k := by
  obtain ⟨f, rows, hl, hR, hown, hrest⟩ := h
  refine ⟨f, rows, hl, Kd.R_below hR hb, fun j hj => ?_, hrest⟩
  obtain ⟨vj, hv, h1⟩ := hown j hj
  exact ⟨vj, hv, Kd.R_below h1 hb⟩
open Classical in
theorem Mix.step {W W1 : World} {base gt ct n : Nat} {m : List (List Int)} {rows0 : List (List Value)} {k : Nat} (h : Mix W base (.slice (some ⟨gt, 0, none⟩) n ct) m rows0 k) (hk : k < m.length) (hb : Below W.heap.size W W1) (hbase : base ≤ W.heap.size) {vk : Value} (hR : Kd.R (Kd.int .u64) 22 W1 W.heap.size (fun _ => True) vk (m.getD k [])) :
    Mix (W1.setCell ⟨gt, k, none⟩ vk) base (.slice (some ⟨gt, 0, none⟩) n ct) m rows0 (k + 1) ∧ W1.grownBy (W1.setCell ⟨gt, k, none⟩ vk) (some gt) ∧ base ≤ gt ∧ gt < W.heap.size ∧ W1.frozen? ⟨gt, k, none⟩ = false ∧ ∃ u, W1.cell? ⟨gt, k, none⟩ = some u := by
  obtain ⟨f, rows, hl, hraw, hown, hrest⟩ := h
  have hgt : gt < W.heap.size := Kd.R_lt hraw gt (by simp [Value.ownBlock])
  have hgb : base ≤ gt := Kd.R_base hraw gt (by simp [Value.ownBlock])
  have hraw1 := Kd.R_below hraw hb
  have hn := (Kd.R_reads' hraw1).1
  obtain ⟨_, c, hcl, _, hcc, hfr⟩ := (show True ∧ _ from ⟨trivial, Kd.R_elem hraw1 [] (k : Int) (by omega) (by omega)⟩)
  obtain ⟨_, inner, ho, hr⟩ := hraw1
  have hlen : inner.length = rows.length := by have := hr.1; rw [show (Kd.raw 1).sz = 1 from rfl, Nat.mul_one] at this; exact this
  subst hn
  obtain ⟨s1, g1⟩ := ho.stored k vk
  have cell1 : ∀ (l : List Value) (q : Nat) (hq : q < l.length), (l.drop (q * 1)).take 1 = [l[q]] := fun l q hq => by
    rw [Nat.mul_one, List.drop_eq_getElem_cons hq]; rfl
  have hsl : vk.oneCell' = true := (Kd.R_val hR).2
  refine ⟨⟨fun b => if W.heap.size ≤ b then k else f b, rows.set k [vk], by rw [List.length_set]; exact hl, ⟨fun _ _ => trivial, inner.set k vk, by rw [List.length_set]; exact s1, by rw [List.length_set, List.length_set]; exact hr.1, fun j q hq => ?_⟩, fun j hj => ?_, fun j hj => ?_⟩, g1, hgb, hgt, ?_, ?_⟩
  · have hj : j < rows.length := by have := (List.getElem?_eq_some_iff.1 hq).1; rwa [List.length_set] at this
    show _ = q ∧ _
    rw [show (Kd.raw 1).sz = 1 from rfl, cell1 _ j (by rw [List.length_set]; omega)]
    by_cases e : j = k
    · subst e
      rw [List.getElem?_set_self hj] at hq
      obtain rfl := Option.some.inj hq
      rw [List.getElem_set_self]
      exact ⟨rfl, rfl, fun u hu => by rw [List.mem_singleton.1 hu]; exact hsl⟩
    · rw [List.getElem?_set_ne (fun e2 => e e2.symm)] at hq
      rw [List.getElem_set_ne (fun e2 => e e2.symm)]
      have := hr.2 j q hq
      rw [show (Kd.raw 1).sz = 1 from rfl, cell1 _ j (by omega)] at this
      exact this
  · by_cases e : j = k
    · subst e
      refine ⟨vk, List.getElem?_set_self (by omega), Kd.R_mono (Kd.R_far (p := ⟨gt, j, none⟩) (Kd.R_bound hR) (fun b hb2 => ?_) vk |> fun h => Kd.R_lower h hbase) (fun b hb2 => ⟨?_, ?_⟩)⟩
      · have := hb2.2.1
        show b ≠ gt
        omega
      · have := hb2.2.1
        intro e2
        have : b = gt := by simpa [Value.ownBlock] using e2
        omega
      · exact if_pos hb2.2.1
    · obtain ⟨vj, hv, h1⟩ := hown j (by omega)
      refine ⟨vj, by rw [List.getElem?_set_ne (fun e2 => e e2.symm)]; exact hv, Kd.R_mono (Kd.R_far (p := ⟨gt, k, none⟩) (Kd.R_below (Kd.R_bound h1) hb) (fun b hb2 => ?_) vk) (fun b hb2 => ⟨hb2.1.1, ?_⟩)⟩
      · intro e2
        exact hb2.1.1 (by rw [e2]; simp [Value.ownBlock])
      · show (if W.heap.size ≤ b then k else f b) = j
        rw [if_neg (by have := hb2.2.2.1; omega)]
        exact hb2.1.2
  · rw [List.getElem?_set_ne (by omega)]
    exact hrest j (by omega)
  · have := hfr 0
    simpa [Kd.raw] using this
  · have hc0 : 0 < c.length := by rw [hcl]; exact Nat.one_pos
    have := hcc 0 _ (List.getElem?_eq_getElem hc0)
    exact ⟨_, by simpa [Kd.raw] using this⟩
end Go.Proofs.Ytkjknpibcbpdfaa
