/- poly.Degree and poly.Trim: what they compute of a list of coefficients. -/
import Derived.Test.YtkjknpibcbpdfaaBase
import Derived.Test.YtkjknpibcbpdfaaEList
import Derived.Test.YtkjknpibcbpdfaaWMore
namespace Go.Proofs.Ytkjknpibcbpdfaa.D
open Go.RowKit Go.Proofs.YtkjknpibcbpdfaaW.PrintWords Go.Proofs.YtkjknpibcbpdfaaW.PrintLast
set_option linter.unusedVariables false
set_option linter.unusedSimpArgs false

theorem wrap_in {x : Int} (h0 : -9223372036854775808 ≤ x) (h1 : x ≤ 9223372036854775807) : wrap64 x = x := by unfold wrap64; omega
theorem rd_nat (l : List Int) (i : Nat) : rd l (i : Int) = l.getD i 0 := by unfold rd; rw [Int.toNat_natCast]

theorem degree_l (l : List Int) (hl : l.length ≤ 1099511627776) : ∀ (i k : Nat), (trimL l).length ≤ i → i ≤ l.length → i < k → B.poly_Degree.l0 k l ((i : Int) - 1) = some (((trimL l).length : Int) - 1) := by
  intro i
  induction i with
  | zero =>
    intro k h1 h2 h3
    obtain ⟨k, rfl⟩ : ∃ m, k = m + 1 := ⟨k - 1, by omega⟩
    simp only [B.poly_Degree.l0]
    rw [if_neg (by omega)]
    congr 1
    omega
  | succ i ih =>
    intro k h1 h2 h3
    obtain ⟨k, rfl⟩ : ∃ m, k = m + 1 := ⟨k - 1, by omega⟩
    have e : ((i + 1 : Nat) : Int) - 1 = (i : Int) := by omega
    rw [e]
    simp only [B.poly_Degree.l0]
    rw [if_pos (by omega), if_pos (by omega), if_pos (by omega), rd_nat]
    by_cases hz : l.getD i 0 = 0
    · rw [if_pos hz, wrap_in (by omega) (by omega)]
      refine ih k ?_ (by omega) (by omega)
      rcases Nat.lt_or_ge i (trimL l).length with hlt | hge
      · exfalso
        have hne : trimL l ≠ [] := by intro e; rw [e] at hlt; simp at hlt
        have h4 := trimL_last l hne
        rw [List.getLast_eq_getElem] at h4
        have hi : (trimL l).length - 1 = i := by omega
        rw [← trimL_getD, List.getD_eq_getElem?_getD, List.getElem?_eq_getElem hlt] at hz
        simp only [hi] at h4
        exact h4 hz
      · exact hge
    · rw [if_neg hz]
      have : ¬ (trimL l).length ≤ i := fun h => hz (trimL_zero l i h)
      congr 1
      omega
theorem degree_eq (l : List Int) (hl : l.length ≤ 1099511627776) : B.poly_Degree.f (l.length + 1) l = some (((trimL l).length : Int) - 1) := by
  unfold B.poly_Degree.f
  rw [wrap_in (by omega) (by omega)]
  exact degree_l l hl l.length (l.length + 1) (trimL_le l) (Nat.le_refl _) (by omega)

theorem tinfo : (Try.prog.info? 22).map (fun i => (i.zero, i.size, i.bytes)) = some (some (.int .u64 0), 1, 8) := by kernel_rfl
set_option maxHeartbeats 2000000 in
theorem poly_Trim.calls (A0 : Option Addr) (c0 : Nat) (l0 : List Int) (r : List Int) (w : World) (hr0 : Kd.C (Kd.int .u64) w A0 l0.length l0) (hc0 : l0.length ≤ c0) (h : poly_Trim.f l0 = some r) :
    Calls Try.prog 85 #[.slice A0 l0.length c0] w fun e w' => ∃ v0_ : Value, e = .returned (v0_) ∧ Kd.R (Kd.int .u64) 22 w' w.heap.size (fun _ => True) v0_ r ∧ Below w.heap.size w w' := by
  unfold poly_Trim.f fewL at h
  split at h
  · rename_i hg
    have hlen : l0.length ≤ 1099511627776 := of_decide_eq_true hg
    obtain rfl := Option.some.inj h
    have HD := Aside0.mk (degree_eq l0 hlen)
    have HR0 := Aside0.mk hr0
    have hle := trimL_le l0
    have htk := Aside0.mk (trimL_take l0)
    obtain ⟨n, hn⟩ : ∃ n, n = (trimL l0).length := ⟨_, rfl⟩
    have Hn := Aside0.mk hn
    rw [← hn] at hle
    obtain ⟨i0, hi0, _, hsz, _⟩ := info_parts tinfo
    obtain ⟨hcut, hA, hC⟩ := print_take_of (P := Try.prog) (Value.int .u64) 0 32 22 .i64 Try.underlying32 hi0 hsz A0 c0 l0 (n : Int) (by omega) (by omega) hc0
    have HT := Aside0.mk (Kd.C_of_reads (h1 := fun _ => rfl) (hA _ (Kd.reads_of_C hr0)))
    have etk : l0.take (n : Int).toNat = l0.take n := by rw [Int.toNat_natCast]
    have etl : (l0.take n).length = n := by rw [List.length_take]; omega
    rw [etk, etl] at hcut
    have HTl := Aside0.mk etl
    clear h hg hn hr0 hA hC hi0 hsz etk etl
    go_enter Try.func85, Try.ntmps85
    go_wp2_with (first
      | (go_at_call 68; (with_reducible refine (B.poly_Degree.calls (l0.length + 1) A0 c0 l0 _ _ HR0.out hc0 HD.out).mono ?_); rintro e w' ⟨rfl, ⟨nd, rfl⟩⟩; rw [← Hn.out])
      | ((with_reducible refine gate_builtin (b := .append) (xs := #[.const (.slice none 0 0), .tmp 9]) rfl ?_); at_builtin; refine Kd.R_append_rows (Kd.int .u64) (w0 := w) w.heap.size rfl (.const (.slice none 0 0)) (.tmp 9) 32 22 (.int .u64 0) 8 rfl Try.underlying32 tinfo rfl (by decide) (by omega) (.slice none 0 0) [] (l0.take n) A0 n c0 (fun _ => True) (fun _ => False) rfl rfl ?aO ?aR (fun _ _ h => h) (fun _ h => h.elim) ?aF ?aB ?aS ?aL ?_; (case aO => exact Kd.R_nil _ _ _ _ _); (case aF => exact fun _ _ => trivial); (case aB => exact pw_below_drewN (Below.refl _ _) _); (case aS => exact Nat.le_refl _); (case aL => simp; omega); (case aR => have h_ := HT.out; rw [Int.toNat_natCast, HTl.out] at h_; exact Kd.C_drewN h_ _); intro v1 w1 hr1 hb1 hg1 hat1; have HR1 := Aside0.mk hr1; have HB1 := Aside0.mk hb1; clear hr1 hb1 hg1 hat1))
    go_ret
    refine ⟨_, rfl, ?_, HB1.out⟩
    have h1 := HR1.out
    rw [Hn.out, htk.out] at h1
    exact h1
  · cases h
end Go.Proofs.Ytkjknpibcbpdfaa.D
