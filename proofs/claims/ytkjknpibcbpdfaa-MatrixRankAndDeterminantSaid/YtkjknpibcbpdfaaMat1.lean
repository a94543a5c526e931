/- matrix.rect, with slices.ContainsFunc, slices.IndexFunc and the closure. -/
import Derived.Test.YtkjknpibcbpdfaaBase
import Derived.Test.YtkjknpibcbpdfaaWApart
import Derived.Test.YtkjknpibcbpdfaaWMore
namespace Go.Proofs.Ytkjknpibcbpdfaa
open Go.RowKit Go.Proofs.YtkjknpibcbpdfaaW.PrintWords Go.Proofs.YtkjknpibcbpdfaaW.PrintLast
set_option linter.unusedVariables false
set_option linter.unusedSimpArgs false

/-- All rows are as long as the first. -/
def rectB (l : List (List Int)) : Bool := l.all fun r => r.length == (l.headD []).length
def fewR (l : List (List Int)) : Bool := decide (l.length ≤ 1048576) && l.all fun r => decide (r.length ≤ 1048576)
def matrix_rect.f (l : List (List Int)) : Option Bool := if fewR l = true then some (rectB l) else none
theorem row_at2 {w : World} {A : Option Addr} {n : Nat} {xs : List (List Int)} (h : Kd.C (Kd.slice 22 (Kd.int .u64)) w A n xs) (i : Int) (h0 : 0 ≤ i) (h1 : i < n) : ∃ ad A0 c0, A = some ad ∧ w.cell? (ad.add i.toNat) = some (.slice A0 (xs.getD i.toNat []).length c0) ∧ (xs.getD i.toNat []).length ≤ c0 ∧ (Kd.int .u64).C w A0 (xs.getD i.toNat []).length (xs.getD i.toNat []) := by
  obtain ⟨ad, c, e, _, hK, hc0⟩ := Kd.C_get h ([] : List Int) i h0 h1
  have hc : ∀ j u, c[j]? = some u → w.cell? (ad.add (i.toNat * 1 + j)) = some u := hc0
  obtain ⟨A0, c0, rfl, l0, g0⟩ := hK
  exact ⟨ad, A0, c0, e, by have hq := hc 0 _ rfl; rwa [Nat.mul_one, Nat.add_zero] at hq, l0, g0⟩
theorem rect_true {l : List (List Int)} (h : ∀ j, j < l.length → (l.getD j []).length = (l.getD 0 []).length) : rectB l = true := by
  unfold rectB
  rw [List.all_eq_true]
  intro r hr
  obtain ⟨j, hj, rfl⟩ := List.mem_iff_getElem.1 hr
  have := h j hj
  rw [List.getD_eq_getElem?_getD, List.getElem?_eq_getElem hj] at this
  have e : l.headD [] = l.getD 0 [] := by cases l <;> rfl
  rw [e]
  simpa using this
theorem rect_false {l : List (List Int)} {j : Nat} (hj : j < l.length) (h : (l.getD j []).length ≠ (l.getD 0 []).length) : rectB l = false := by
  rw [← Bool.not_eq_true]
  intro ht
  unfold rectB at ht
  rw [List.all_eq_true] at ht
  have := ht l[j] (List.getElem_mem _)
  have e : l.headD [] = l.getD 0 [] := by cases l <;> rfl
  rw [e] at this
  refine h ?_
  rw [List.getD_eq_getElem?_getD, List.getElem?_eq_getElem hj]
  simpa using this

set_option maxHeartbeats 1600000 in
set_option maxRecDepth 1000000 in
theorem indexFunc_any (b : Nat) (A : Option Addr) (c : Nat) (l : List (List Int)) (w : World) (hr : Kd.C (Kd.slice 22 (Kd.int .u64)) w A l.length l) (hl : l.length ≤ 1048576) (hlr : ∀ j, (l.getD j []).length ≤ 1048576)
    (hb : w.cell? ⟨b, 0, none⟩ = some (.slice A l.length c)) :
    Calls Try.prog 87 #[.slice A l.length c, .func (.func 75) #[] #[.pointer (some ⟨b, 0, none⟩)]] w fun e w' => ∃ i : Int, e = .returned (.int .i64 i) ∧ w' = w ∧ decide (i ≥ 0) = !rectB l := by
  go_enter Try.func87, Try.ntmps87
  go_wp2
  go_loopw [8] (fun v wr => ∃ k : Nat, k ≤ l.length ∧ v = .int .i64 k ∧ wr = w ∧ ∀ j, j < k → (l.getD j []).length = (l.getD 0 []).length) (fun v _ => l.length - (intOf v).toNat)
  case atStart => exact ⟨0, Nat.zero_le _, rfl, rfl, fun j hj => by omega⟩
  case round =>
    obtain ⟨k, hk, rfl, rfl, hP⟩ := hrel
    by_cases hlt : k < l.length
    · obtain ⟨ad, A0, c0, rfl, hc0, _, _⟩ := row_at2 hr 0 (by omega) (by omega)
      obtain ⟨ad', A1, c1, e1, hc1, _, _⟩ := row_at2 hr (k : Int) (by omega) (by omega)
      cases e1
      rw [Int.toNat_natCast] at hc1
      rw [show (0 : Int).toNat = 0 from rfl, Addr.add_zero'] at hc0
      have hlk := hlr k
      have hl0 := hlr 0
      have ek : (l.getD k []) = l[k] := by rw [List.getD_eq_getElem?_getD, List.getElem?_eq_getElem hlt]; rfl
      have e0 : (l.getD 0 []) = l[0]?.getD [] := List.getD_eq_getElem?_getD ..
      go_wp2_with go_in
      · have hne : ((l[k].length : Int) != ((l[0]?.getD []).length : Int)) = true := by assumption
        go_ret
        refine ⟨(k : Int), rfl, rfl, ?_⟩
        rw [rect_false hlt (by rw [ek, e0]; intro e; rw [e] at hne; simp at hne), decide_eq_true (by omega)]
        rfl
      · have hne : ((l[k].length : Int) != ((l[0]?.getD []).length : Int)) = false := by assumption
        refine ⟨⟨k + 1, by omega, by simp, trivial, fun j hj => ?_⟩, by simp [intOf]; omega⟩
        by_cases e : j = k
        · subst e
          rw [ek, e0]
          have h2 : (l[j].length : Int) = ((l[0]?.getD []).length : Int) := by simpa using hne
          omega
        · exact hP j (by omega)
    · obtain rfl : k = l.length := by omega
      go_wp2
      go_ret
      exact ⟨-1, rfl, rfl, by rw [rect_true hP]; rfl⟩
theorem containsFunc_any (b : Nat) (A : Option Addr) (c : Nat) (l : List (List Int)) (w : World) (hr : Kd.C (Kd.slice 22 (Kd.int .u64)) w A l.length l) (hl : l.length ≤ 1048576) (hlr : ∀ j, (l.getD j []).length ≤ 1048576)
    (hb : w.cell? ⟨b, 0, none⟩ = some (.slice A l.length c)) :
    Calls Try.prog 74 #[.slice A l.length c, .func (.func 75) #[] #[.pointer (some ⟨b, 0, none⟩)]] w fun e w' => e = .returned (.bool (!rectB l)) ∧ w' = w := by
  go_enter Try.func74, Try.ntmps74
  go_wp2_with (go_at_call 87; refine (indexFunc_any b A c l w hr hl hlr hb).mono ?_; rintro e w' ⟨i, rfl, rfl, hi⟩)
  go_ret
  exact ⟨by rw [← hi]; rfl, rfl⟩
theorem matrix_rect.calls (A0 : Option Addr) (c0 : Nat) (l0 : List (List Int)) (r : Bool) (w : World) (hr0 : Kd.C (Kd.slice 22 (Kd.int .u64)) w A0 l0.length l0) (hc0 : l0.length ≤ c0) (h : matrix_rect.f l0 = some r) :
    Calls Try.prog 50 #[.slice A0 l0.length c0] w fun e w' => e = .returned (.bool r) ∧ Below w.heap.size w w' := by
  have hmf : ∀ (fn : Fn) (first cap : Array Value) (w : World), (Instr.makeFunc fn first cap).run Try.prog w = .ok (.func fn first cap) w := fun _ _ _ _ => rfl
  unfold matrix_rect.f at h
  split at h
  · rename_i hg
    unfold fewR at hg
    rw [Bool.and_eq_true, List.all_eq_true] at hg
    obtain ⟨g1, g2⟩ := hg
    have g1' := of_decide_eq_true g1
    obtain rfl := Option.some.inj h
    have g3 : ∀ j, (l0.getD j []).length ≤ 1048576 := by
      intro j
      by_cases hj : j < l0.length
      · rw [List.getD_eq_getElem?_getD, List.getElem?_eq_getElem hj]
        exact of_decide_eq_true (g2 _ (List.getElem_mem _))
      · rw [List.getD_eq_getElem?_getD, List.getElem?_eq_none (by omega)]
        simp
    have hX := blk_new w (.cells #[.slice A0 l0.length c0] 23)
    have hcX : (w.alloc (.cells #[.slice A0 l0.length c0] 23)).cell? ⟨w.heap.size, 0, none⟩ = some (.slice A0 l0.length c0) := (blk_cell hX 0).trans rfl
    go_enter Try.func50, Try.ntmps50
    go_wp2_with (go_at_call 74; refine (containsFunc_any w.heap.size A0 c0 l0 _ (Kd.C_alloc hr0 _) g1' g3 hcX).mono ?_; rintro e w' ⟨rfl, rfl⟩)
    go_ret
    exact ⟨rfl, below_alloc (Below.refl _ _) _⟩
  · cases h
end Go.Proofs.Ytkjknpibcbpdfaa
