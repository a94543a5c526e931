/- matrix.rect with what it calls; slices.Clone of a row of numbers, and of a table (its cells). -/
import Derived.Test.YtkjknpibcbpdfaaBase
import Derived.Test.YtkjknpibcbpdfaaWApart
import Derived.Test.YtkjknpibcbpdfaaWMore
import Derived.Test.YtkjknpibcbpdfaaWZeros
import Derived.Lib.SliceRun
namespace Go.Proofs.Ytkjknpibcbpdfaa
open Go.RowKit Go.Proofs.YtkjknpibcbpdfaaW.PrintWords Go.Proofs.YtkjknpibcbpdfaaW.PrintLast
set_option linter.unusedVariables false
set_option linter.unusedSimpArgs false

/-- All rows are as long as the first. -/
def rectB (l : List (List Int)) : Bool := l.all fun r => r.length == (l.headD []).length
def fewR (l : List (List Int)) : Bool := decide (l.length ≤ 1048576) && l.all fun r => decide (r.length ≤ 1048576)
def matrix_rect.f (l : List (List Int)) : Option Bool := if fewR l = true then some (rectB l) else none
theorem row_at2 {w : World} {A : Option Addr} {n : Nat} {xs : List (List Int)} (h : Kd.C (Kd.slice 22 (Kd.int .u64)) w A n xs) (i : Int) (h0 : 0 ≤ i) (h1 : i < n) : ∃ ad A0 c0, A = some ad ∧ w.cell? (ad.add i.toNat) = some (.slice A0 (xs.getD i.toNat []).length c0) ∧ (xs.getD i.toNat []).length ≤ c0 ∧ (Kd.int .u64).C w A0 (xs.getD i.toNat []).length (xs.getD i.toNat []) := by
  obtain ⟨ad, c, e, _, hK, hc0⟩ := Kd.C_get h ([] : List Int) i h0 h1
  have hc : ∀ j u, c[j]? = some u → w.cell? (ad.add (i.toNat * 1 + j)) = some u := hc0
  obtain ⟨A0, c0, rfl, l0, g0⟩ := hK
  exact ⟨ad, A0, c0, e, by have hq := hc 0 _ rfl; rwa [Nat.mul_one, Nat.add_zero] at hq, l0, g0⟩
theorem rect_true {l : List (List Int)} (h : ∀ j, j < l.length → (l.getD j []).length = (l.getD 0 []).length) : rectB l = true := by
  unfold rectB
  rw [List.all_eq_true]
  intro r hr
  obtain ⟨j, hj, rfl⟩ := List.mem_iff_getElem.1 hr
  have := h j hj
  rw [List.getD_eq_getElem?_getD, List.getElem?_eq_getElem hj] at this
  have e : l.headD [] = l.getD 0 [] := by cases l <;> rfl
  rw [e]
  simpa using this
theorem rect_false {l : List (List Int)} {j : Nat} (hj : j < l.length) (h : (l.getD j []).length ≠ (l.getD 0 []).length) : rectB l = false := by
  rw [← Bool.not_eq_true]
  intro ht
  unfold rectB at ht
  rw [List.all_eq_true] at ht
  have := ht l[j] (List.getElem_mem _)
  have e : l.headD [] = l.getD 0 [] := by cases l <;> rfl
  rw [e] at this
  refine h ?_
  rw [List.getD_eq_getElem?_getD, List.getElem?_eq_getElem hj]
  simpa using this

set_option maxHeartbeats 1600000 in
set_option maxRecDepth 1000000 in
theorem indexFunc_any (b : Nat) (A : Option Addr) (c : Nat) (l : List (List Int)) (w : World) (hr : Kd.C (Kd.slice 22 (Kd.int .u64)) w A l.length l) (hl : l.length ≤ 1048576) (hlr : ∀ j, (l.getD j []).length ≤ 1048576)
    (hb : w.cell? ⟨b, 0, none⟩ = some (.slice A l.length c)) :
    Calls Try.prog 87 #[.slice A l.length c, .func (.func 75) #[] #[.pointer (some ⟨b, 0, none⟩)]] w fun e w' => ∃ i : Int, e = .returned (.int .i64 i) ∧ w' = w ∧ decide (i ≥ 0) = !rectB l := by
  go_enter Try.func87, Try.ntmps87
  go_wp2
  go_loopw [8] (fun v wr => ∃ k : Nat, k ≤ l.length ∧ v = .int .i64 k ∧ wr = w ∧ ∀ j, j < k → (l.getD j []).length = (l.getD 0 []).length) (fun v _ => l.length - (intOf v).toNat)
  case atStart => exact ⟨0, Nat.zero_le _, rfl, rfl, fun j hj => by omega⟩
  case round =>
    obtain ⟨k, hk, rfl, rfl, hP⟩ := hrel
    by_cases hlt : k < l.length
    · obtain ⟨ad, A0, c0, rfl, hc0, _, _⟩ := row_at2 hr 0 (by omega) (by omega)
      obtain ⟨ad', A1, c1, e1, hc1, _, _⟩ := row_at2 hr (k : Int) (by omega) (by omega)
      cases e1
      rw [Int.toNat_natCast] at hc1
      rw [show (0 : Int).toNat = 0 from rfl, Addr.add_zero'] at hc0
      have hlk := hlr k
      have hl0 := hlr 0
      have ek : (l.getD k []) = l[k] := by rw [List.getD_eq_getElem?_getD, List.getElem?_eq_getElem hlt]; rfl
      have e0 : (l.getD 0 []) = l[0]?.getD [] := List.getD_eq_getElem?_getD ..
      go_wp2_with go_in
      · have hne : ((l[k].length : Int) != ((l[0]?.getD []).length : Int)) = true := by assumption
        go_ret
        refine ⟨(k : Int), rfl, rfl, ?_⟩
        rw [rect_false hlt (by rw [ek, e0]; intro e; rw [e] at hne; simp at hne), decide_eq_true (by omega)]
        rfl
      · have hne : ((l[k].length : Int) != ((l[0]?.getD []).length : Int)) = false := by assumption
        refine ⟨⟨k + 1, by omega, by simp, trivial, fun j hj => ?_⟩, by simp [intOf]; omega⟩
        by_cases e : j = k
        · subst e
          rw [ek, e0]
          have h2 : (l[j].length : Int) = ((l[0]?.getD []).length : Int) := by simpa using hne
          omega
        · exact hP j (by omega)
    · obtain rfl : k = l.length := by omega
      go_wp2
      go_ret
      exact ⟨-1, rfl, rfl, by rw [rect_true hP]; rfl⟩
theorem containsFunc_any (b : Nat) (A : Option Addr) (c : Nat) (l : List (List Int)) (w : World) (hr : Kd.C (Kd.slice 22 (Kd.int .u64)) w A l.length l) (hl : l.length ≤ 1048576) (hlr : ∀ j, (l.getD j []).length ≤ 1048576)
    (hb : w.cell? ⟨b, 0, none⟩ = some (.slice A l.length c)) :
    Calls Try.prog 74 #[.slice A l.length c, .func (.func 75) #[] #[.pointer (some ⟨b, 0, none⟩)]] w fun e w' => e = .returned (.bool (!rectB l)) ∧ w' = w := by
  go_enter Try.func74, Try.ntmps74
  go_wp2_with (go_at_call 87; refine (indexFunc_any b A c l w hr hl hlr hb).mono ?_; rintro e w' ⟨i, rfl, rfl, hi⟩)
  go_ret
  exact ⟨by rw [← hi]; rfl, rfl⟩
theorem matrix_rect.calls (A0 : Option Addr) (c0 : Nat) (l0 : List (List Int)) (r : Bool) (w : World) (hr0 : Kd.C (Kd.slice 22 (Kd.int .u64)) w A0 l0.length l0) (hc0 : l0.length ≤ c0) (h : matrix_rect.f l0 = some r) :
    Calls Try.prog 50 #[.slice A0 l0.length c0] w fun e w' => e = .returned (.bool r) ∧ Below w.heap.size w w' := by
  have hmf : ∀ (fn : Fn) (first cap : Array Value) (w : World), (Instr.makeFunc fn first cap).run Try.prog w = .ok (.func fn first cap) w := fun _ _ _ _ => rfl
  unfold matrix_rect.f at h
  split at h
  · rename_i hg
    unfold fewR at hg
    rw [Bool.and_eq_true, List.all_eq_true] at hg
    obtain ⟨g1, g2⟩ := hg
    have g1' := of_decide_eq_true g1
    obtain rfl := Option.some.inj h
    have g3 : ∀ j, (l0.getD j []).length ≤ 1048576 := by
      intro j
      by_cases hj : j < l0.length
      · rw [List.getD_eq_getElem?_getD, List.getElem?_eq_getElem hj]
        exact of_decide_eq_true (g2 _ (List.getElem_mem _))
      · rw [List.getD_eq_getElem?_getD, List.getElem?_eq_none (by omega)]
        simp
    have hX := blk_new w (.cells #[.slice A0 l0.length c0] 23)
    have hcX : (w.alloc (.cells #[.slice A0 l0.length c0] 23)).cell? ⟨w.heap.size, 0, none⟩ = some (.slice A0 l0.length c0) := (blk_cell hX 0).trans rfl
    go_enter Try.func50, Try.ntmps50
    go_wp2_with (go_at_call 74; refine (containsFunc_any w.heap.size A0 c0 l0 _ (Kd.C_alloc hr0 _) g1' g3 hcX).mono ?_; rintro e w' ⟨rfl, rfl⟩)
    go_ret
    exact ⟨rfl, below_alloc (Below.refl _ _) _⟩
  · cases h
open Go.RowKit Go.Proofs.YtkjknpibcbpdfaaW.PrintWords Go.Proofs.YtkjknpibcbpdfaaW.PrintLast Go.Proofs.YtkjknpibcbpdfaaW.PrintMore
set_option linter.unusedVariables false
set_option linter.unusedSimpArgs false

theorem rinfo22 : (Try.prog.info? 22).map (fun i => (i.zero, i.size, i.bytes)) = some (some (.int .u64 0), 1, 8) := by kernel_rfl
theorem rinfo32 : (Try.prog.info? 32).map (fun i => (i.zero, i.size, i.bytes)) = some (some (.slice none 0 0), 1, 24) := by kernel_rfl
set_option maxHeartbeats 1600000 in
set_option maxRecDepth 100000 in
theorem clone_row (A0 : Option Addr) (c0 : Nat) (l0 : List Int) (w : World) (hr0 : Kd.C (Kd.int .u64) w A0 l0.length l0) (hl : l0.length ≤ 1048576) :
    Calls Try.prog 57 #[.slice A0 l0.length c0] w fun e w' => ∃ v : Value, e = .returned v ∧ Kd.R (Kd.int .u64) 22 w' w.heap.size (fun _ => True) v l0 ∧ Below w.heap.size w w' := by
  have hq := fun (w : World) (A : Option Addr) (n c : Nat) => Go.Lib.run_eql_slice_nil (P := Try.prog) w 32 22 A n c 0 0 Try.underlying32
  rcases A0 with _ | ad
  · have hl0 : l0 = [] := by
      by_cases h : 0 < l0.length
      · obtain ⟨ad, e, _⟩ := hr0.2.2 h
        cases e
      · exact List.length_eq_zero_iff.1 (by omega)
    subst hl0
    go_enter Try.func57, Try.ntmps57
    go_wp2
    go_ret
    exact ⟨_, rfl, Kd.R_nil _ _ _ _ _, Below.refl _ _⟩
  · go_enter Try.func57, Try.ntmps57
    go_wp2_with (first
      | ((with_reducible refine gate_dst (N := 5) rfl ?_); refine Kd.R_lit (Kd.int .u64) (w0 := w) w.heap.size 22 rfl (N := 5) rfl (xs := ([] : List Int)) (inner := []) (ok := fun _ => True) (okp := fun _ => True) ?hr ?hp (fun _ hk => hk) trivial (Below.refl _ _) (Nat.le_refl _) (by simp) ?_; (case hr => first | (go_simp; done) | (go_simp; rfl)); (case hp => exact (Reps.none _ _)); intro v102 w3 ho4 hb hg_ hnew_)
      | ((with_reducible refine gate_builtin (b := .append) (xs := #[.tmp 5, .tmp 6]) rfl ?_); at_builtin; refine Kd.R_append_rows (Kd.int .u64) (w0 := w) w.heap.size rfl (.tmp 5) (.tmp 6) 32 22 (.int .u64 0) 8 rfl Try.underlying32 rinfo22 rfl (by decide) (by omega) v102 [] l0 _ _ _ (fun _ => True) (fun _ => False) rfl rfl ho4 (Kd.C_below hr0 hb) (fun _ _ h => h) (fun _ h => h.elim) (fun _ _ => trivial) hb hb.size (by simp; omega) ?_; intro v105 w5 ho hb5 hg hat))
    go_ret
    exact ⟨_, rfl, ho, hb5⟩
set_option maxHeartbeats 1600000 in
set_option maxRecDepth 100000 in
/-- A table's clone: the same cells. -/
theorem clone_table (A0 : Option Addr) (c0 : Nat) (rows : List (List Value)) (w : World) (hr0 : ReadsRow (fun x c => c = x ∧ c.length = 1 ∧ ∀ u ∈ c, u.oneCell' = true) 1 w A0 rows.length rows) (hl : rows.length ≤ 1048576) :
    Calls Try.prog 76 #[.slice A0 rows.length c0] w fun e w' => ∃ v : Value, e = .returned v ∧ Kd.R (Kd.raw 1) 32 w' w.heap.size (fun _ => True) v rows ∧ Below w.heap.size w w' := by
  have hq := fun (w : World) (A : Option Addr) (n c : Nat) => Go.Lib.run_eql_slice_nil (P := Try.prog) w 23 32 A n c 0 0 Try.underlying23
  rcases A0 with _ | ad
  · have hl0 : rows = [] := by
      by_cases h : 0 < rows.length
      · obtain ⟨ad, e, _⟩ := hr0.2.2 h
        cases e
      · exact List.length_eq_zero_iff.1 (by omega)
    subst hl0
    go_enter Try.func76, Try.ntmps76
    go_wp2
    go_ret
    exact ⟨_, rfl, Kd.R_nil _ _ _ _ _, Below.refl _ _⟩
  · go_enter Try.func76, Try.ntmps76
    go_wp2_with (first
      | ((with_reducible refine gate_dst (N := 5) rfl ?_); refine Kd.R_lit (Kd.raw 1) (w0 := w) w.heap.size 32 rfl (N := 5) rfl (xs := ([] : List (List Value))) (inner := []) (ok := fun _ => True) (okp := fun _ => True) ?hr ?hp (fun _ hk => hk) trivial (Below.refl _ _) (Nat.le_refl _) (by simp) ?_; (case hr => first | (go_simp; done) | (go_simp; rfl)); (case hp => exact (Reps.none _ _)); intro v102 w3 ho4 hb hg_ hnew_)
      | ((with_reducible refine gate_builtin (b := .append) (xs := #[.tmp 5, .tmp 6]) rfl ?_); at_builtin; refine Kd.R_append_rows (Kd.raw 1) (w0 := w) w.heap.size rfl (.tmp 5) (.tmp 6) 23 32 (.slice none 0 0) 24 rfl Try.underlying23 rinfo32 rfl (by decide) (by omega) v102 [] rows _ _ _ (fun _ => True) (fun _ => False) rfl rfl ho4 ?aR (fun _ _ h => h) (fun _ h => h.elim) (fun _ _ => trivial) hb hb.size (by simp; omega) ?_; (case aR => refine ⟨hr0.1, hr0.2.1, fun hp => ?_⟩; obtain ⟨ad_, e_, h_⟩ := hr0.2.2 hp; refine ⟨ad_, e_, fun j p hj => ?_⟩; obtain ⟨c_, l_, r_, g_⟩ := h_ j p hj; exact ⟨c_, l_, r_, fun i u hu => (hb.cell (World.block_lt_of_cell? w _ (g_ i u hu))).trans (g_ i u hu)⟩); intro v105 w5 ho hb5 hg hat))
    go_ret
    exact ⟨_, rfl, ho, hb5⟩
end Go.Proofs.Ytkjknpibcbpdfaa
