/- slices.Clone of a row of numbers, and of a table (its cells). -/
import Derived.Test.YtkjknpibcbpdfaaMat1
import Derived.Test.YtkjknpibcbpdfaaWZeros
import Derived.Lib.SliceRun
namespace Go.Proofs.Ytkjknpibcbpdfaa
open Go.RowKit Go.Proofs.YtkjknpibcbpdfaaW.PrintWords Go.Proofs.YtkjknpibcbpdfaaW.PrintLast Go.Proofs.YtkjknpibcbpdfaaW.PrintMore
set_option linter.unusedVariables false
set_option linter.unusedSimpArgs false

theorem rinfo22 : (Try.prog.info? 22).map (fun i => (i.zero, i.size, i.bytes)) = some (some (.int .u64 0), 1, 8) := by kernel_rfl
theorem rinfo32 : (Try.prog.info? 32).map (fun i => (i.zero, i.size, i.bytes)) = some (some (.slice none 0 0), 1, 24) := by kernel_rfl
set_option maxHeartbeats 1600000 in
set_option maxRecDepth 100000 in
theorem clone_row (A0 : Option Addr) (c0 : Nat) (l0 : List Int) (w : World) (hr0 : Kd.C (Kd.int .u64) w A0 l0.length l0) (hl : l0.length ≤ 1048576) :
    Calls Try.prog 57 #[.slice A0 l0.length c0] w fun e w' => ∃ v : Value, e = .returned v ∧ Kd.R (Kd.int .u64) 22 w' w.heap.size (fun _ => True) v l0 ∧ Below w.heap.size w w' := by
  have hq := fun (w : World) (A : Option Addr) (n c : Nat) => Go.Lib.run_eql_slice_nil (P := Try.prog) w 32 22 A n c 0 0 Try.underlying32
  rcases A0 with _ | ad
  · have hl0 : l0 = [] := by
      by_cases h : 0 < l0.length
      · obtain ⟨ad, e, _⟩ := hr0.2.2 h
        cases e
      · exact List.length_eq_zero_iff.1 (by omega)
    subst hl0
    go_enter Try.func57, Try.ntmps57
    go_wp2
    go_ret
    exact ⟨_, rfl, Kd.R_nil _ _ _ _ _, Below.refl _ _⟩
  · go_enter Try.func57, Try.ntmps57
    go_wp2_with (first
      | ((with_reducible refine gate_dst (N := 5) rfl ?_); refine Kd.R_lit (Kd.int .u64) (w0 := w) w.heap.size 22 rfl (N := 5) rfl (xs := ([] : List Int)) (inner := []) (ok := fun _ => True) (okp := fun _ => True) ?hr ?hp (fun _ hk => hk) trivial (Below.refl _ _) (Nat.le_refl _) (by simp) ?_; (case hr => first | (go_simp; done) | (go_simp; rfl)); (case hp => exact (Reps.none _ _)); intro v102 w3 ho4 hb hg_ hnew_)
      | ((with_reducible refine gate_builtin (b := .append) (xs := #[.tmp 5, .tmp 6]) rfl ?_); at_builtin; refine Kd.R_append_rows (Kd.int .u64) (w0 := w) w.heap.size rfl (.tmp 5) (.tmp 6) 32 22 (.int .u64 0) 8 rfl Try.underlying32 rinfo22 rfl (by decide) (by omega) v102 [] l0 _ _ _ (fun _ => True) (fun _ => False) rfl rfl ho4 (Kd.C_below hr0 hb) (fun _ _ h => h) (fun _ h => h.elim) (fun _ _ => trivial) hb hb.size (by simp; omega) ?_; intro v105 w5 ho hb5 hg hat))
    go_ret
    exact ⟨_, rfl, ho, hb5⟩
set_option maxHeartbeats 1600000 in
set_option maxRecDepth 100000 in
/-- A table's clone: the same cells. -/
theorem clone_table (A0 : Option Addr) (c0 : Nat) (rows : List (List Value)) (w : World) (hr0 : ReadsRow (fun x c => c = x ∧ c.length = 1 ∧ ∀ u ∈ c, u.oneCell' = true) 1 w A0 rows.length rows) (hl : rows.length ≤ 1048576) :
    Calls Try.prog 76 #[.slice A0 rows.length c0] w fun e w' => ∃ v : Value, e = .returned v ∧ Kd.R (Kd.raw 1) 32 w' w.heap.size (fun _ => True) v rows ∧ Below w.heap.size w w' := by
  have hq := fun (w : World) (A : Option Addr) (n c : Nat) => Go.Lib.run_eql_slice_nil (P := Try.prog) w 23 32 A n c 0 0 Try.underlying23
  rcases A0 with _ | ad
  · have hl0 : rows = [] := by
      by_cases h : 0 < rows.length
      · obtain ⟨ad, e, _⟩ := hr0.2.2 h
        cases e
      · exact List.length_eq_zero_iff.1 (by omega)
    subst hl0
    go_enter Try.func76, Try.ntmps76
    go_wp2
    go_ret
    exact ⟨_, rfl, Kd.R_nil _ _ _ _ _, Below.refl _ _⟩
  · go_enter Try.func76, Try.ntmps76
    go_wp2_with (first
      | ((with_reducible refine gate_dst (N := 5) rfl ?_); refine Kd.R_lit (Kd.raw 1) (w0 := w) w.heap.size 32 rfl (N := 5) rfl (xs := ([] : List (List Value))) (inner := []) (ok := fun _ => True) (okp := fun _ => True) ?hr ?hp (fun _ hk => hk) trivial (Below.refl _ _) (Nat.le_refl _) (by simp) ?_; (case hr => first | (go_simp; done) | (go_simp; rfl)); (case hp => exact (Reps.none _ _)); intro v102 w3 ho4 hb hg_ hnew_)
      | ((with_reducible refine gate_builtin (b := .append) (xs := #[.tmp 5, .tmp 6]) rfl ?_); at_builtin; refine Kd.R_append_rows (Kd.raw 1) (w0 := w) w.heap.size rfl (.tmp 5) (.tmp 6) 23 32 (.slice none 0 0) 24 rfl Try.underlying23 rinfo32 rfl (by decide) (by omega) v102 [] rows _ _ _ (fun _ => True) (fun _ => False) rfl rfl ho4 ?aR (fun _ _ h => h) (fun _ h => h.elim) (fun _ _ => trivial) hb hb.size (by simp; omega) ?_; (case aR => refine ⟨hr0.1, hr0.2.1, fun hp => ?_⟩; obtain ⟨ad_, e_, h_⟩ := hr0.2.2 hp; refine ⟨ad_, e_, fun j p hj => ?_⟩; obtain ⟨c_, l_, r_, g_⟩ := h_ j p hj; exact ⟨c_, l_, r_, fun i u hu => (hb.cell (World.block_lt_of_cell? w _ (g_ i u hu))).trans (g_ i u hu)⟩); intro v105 w5 ho hb5 hg hat))
    go_ret
    exact ⟨_, rfl, ho, hb5⟩
end Go.Proofs.Ytkjknpibcbpdfaa
