/- matrix.reduce: the walk. -/
import Derived.Test.YtkjknpibcbpdfaaMat7
namespace Go.Proofs.Ytkjknpibcbpdfaa
open Go.RowKit Go.Proofs.YtkjknpibcbpdfaaW.PrintWords Go.Proofs.YtkjknpibcbpdfaaW.PrintLast Go.Proofs.YtkjknpibcbpdfaaW.PrintMore
set_option linter.unusedVariables false
set_option linter.unusedSimpArgs false

theorem Mix.cell {W : World} {base gt ct n : Nat} {m : List (List Int)} {rows0 : List (List Value)} {k : Nat} (h : Mix W base (.slice (some ⟨gt, 0, none⟩) n ct) m rows0 k) (hk : k < m.length) {u : Value} (hu : rows0[k]? = some [u]) : W.cell? ⟨gt, k, none⟩ = some u := by
  obtain ⟨f, rows, hl, hraw, _, hrest⟩ := h
  have hn := (Kd.R_reads' hraw).1
  obtain ⟨_, inner, ho, hr⟩ := hraw
  have h1 := hr.2 k [u] (by rw [hrest k (Nat.le_refl _)]; exact hu)
  have hlen : inner.length = rows.length := by have := hr.1; rw [show (Kd.raw 1).sz = 1 from rfl, Nat.mul_one] at this; exact this
  have h2 : inner[k]? = some u := by
    have h4 : (inner.drop (k * 1)).take 1 = [u] := h1.1
    rw [Nat.mul_one, List.drop_eq_getElem_cons (show k < inner.length by omega)] at h4
    rw [List.getElem?_eq_getElem (show k < inner.length by omega)]
    exact congrArg some (List.cons.inj h4).1
  have := ho.cells (g := gt) (by simp [Value.ownBlock]) k u h2
  rwa [add_plain] at this
theorem Mix.form {W : World} {base n : Nat} {v : Value} {m : List (List Int)} {rows0 : List (List Value)} {k : Nat} (h : Mix W base v m rows0 k) (hk : 0 < m.length) : ∃ gt ct, v = .slice (some ⟨gt, 0, none⟩) m.length ct ∧ base ≤ gt ∧ ∃ cells, W.heap[gt]? = some (.cells cells 32 (0, 0)) := by
  obtain ⟨f, rows, hl, hraw, _, _⟩ := h
  obtain ⟨gt, ct, e, h1, _, h2⟩ := Kd.R_form hraw (by omega)
  exact ⟨gt, ct, by rw [e, hl], h1, h2⟩

set_option maxRecDepth 100000 in
set_option maxHeartbeats 4000000 in
theorem reduce_walk (p : Int) (A : Option Addr) (c : Nat) (m : List (List Int)) (n : Nat) (w : World) (hr : Kd.C (Kd.slice 22 (Kd.int .u64)) w A m.length m) (hc : m.length ≤ c) (hgood : goodM p m = true) (hn : n ≤ 1048576) (hcols : m = [] ∨ n ≤ (m.headD []).length) :
    Calls Try.prog 51 #[.int .u64 p, .slice A m.length c, .int .i64 (n : Int)] w fun e w' => ∃ (g : Nat) (v pv : Value), e = .returned (.pointer (some ⟨g, 0, none⟩)) ∧ WInv w' w.heap.size g p v (redAll p m n).1 pv (redAll p m n).2.1 (redAll p m n).2.2 ∧ Below w.heap.size w w' := by
  have hlen : m.length ≤ 1048576 := by
    unfold goodM fewR at hgood
    simp only [Bool.and_eq_true, decide_eq_true_eq] at hgood
    exact hgood.2.1
  obtain ⟨rows, hrl, hrr, hrc⟩ := C_raw hr
  have hcl := clone_table A c rows w hrr (by omega)
  rw [hrl] at hcl
  have HG := Aside0.mk hgood
  have HRC := Aside0.mk hrc
  clear hgood hr hrc
  go_enter Try.func51, Try.ntmps51
  go_upto_block 0 with (go_at_call 76; refine hcl.mono ?_; rintro e w1 ⟨v, rfl, hv, hb1⟩; obtain ⟨Av, cv, rfl⟩ := Kd.R_slice hv; rw [hrl] at hv; have hX := blk_new w1 (.cells #[.int .u64 p, .slice Av m.length cv, .slice none 0 0, .int .u64 1] 79); have hx1 := (blk_cell hX 1).trans rfl; rw [hrl])
  have HV := Aside0.mk hv
  have HB1 := Aside0.mk (below_alloc hb1 (.cells #[.int .u64 p, .slice Av m.length cv, .slice none 0 0, .int .u64 1] 79))
  have HX := Aside0.mk hX
  have HMX := Aside0.mk ((Mix.start hrl hv).below (below_alloc (Below.refl _ _) (.cells #[.int .u64 p, .slice Av m.length cv, .slice none 0 0, .int .u64 1] 79)))
  have hgw := hb1.size
  obtain ⟨g, hgE⟩ : ∃ g, g = w1.heap.size := ⟨_, rfl⟩
  rw [← hgE] at HX hx1 hgw ⊢
  generalize w1.alloc (.cells #[.int .u64 p, .slice Av m.length cv, .slice none 0 0, .int .u64 1] 79) = w2 at *
  clear hX hv hb1 HV hgE hcl hrr hrl
  have HLR := Aside0.mk (show ∀ k, (m.getD k []).length ≤ 1048576 from by
    intro k
    have h1 := HG.out
    unfold goodM fewR at h1
    simp only [Bool.and_eq_true, List.all_eq_true, decide_eq_true_eq] at h1
    by_cases hk : k < m.length
    · rw [List.getD_eq_getElem?_getD, List.getElem?_eq_getElem hk]
      exact h1.2.2 _ (List.getElem_mem _)
    · rw [List.getD_eq_getElem?_getD, List.getElem?_eq_none (by omega)]
      simp)
  go_cut [33] (fun v33 wc => Aside0 (WInv wc w.heap.size g p (.slice Av m.length cv) m (.slice none 0 0) [] 1) ∧ Aside0 (Below w.heap.size w wc))
  case first => as_aux_lemma =>
    go_wp2
    go_loopw [33] (fun v wr => ∃ k : Nat, k ≤ m.length ∧ v = .int .i64 (k : Int) ∧ Aside0 (wr.heap[g]? = some (.cells #[.int .u64 p, .slice Av m.length cv, .slice none 0 0, .int .u64 1] 79 (0, 0))) ∧ Aside0 (Mix wr w.heap.size (.slice Av m.length cv) m rows k) ∧ Aside0 (Below w.heap.size w wr)) (fun v _ => m.length - (intOf v).toNat)
    case atStart => exact ⟨0, Nat.zero_le _, rfl, HX, HMX, HB1⟩
    case round =>
      obtain ⟨k, hk, rfl, HXr, HMr, HBr⟩ := hrel
      clear HX HMX HB1 hx1
      by_cases hlt : k < m.length
      · obtain ⟨gt, ct, ev, hgtb, cells, hcells⟩ := Mix.form (n := 0) HMr.out (by omega)
        cases ev
        obtain ⟨A', c', hrow0, hc', hrow⟩ := HRC.out k hlt
        have hlk := HLR.out k
        obtain ⟨rk, hrk⟩ : ∃ rk, rk = m.getD k [] := ⟨_, rfl⟩
        rw [← hrk] at hrow0 hc' hrow hlk
        have HRK := Aside0.mk hrk
        clear hrk
        have hxk := Mix.cell HMr.out hlt hrow0
        have hxg : wr.cell? ⟨g, 1, none⟩ = some (.slice (some ⟨gt, 0, none⟩) m.length cv) := (blk_cell HXr.out 1).trans rfl
        go_wp2
        refine start_ (n := 9) (S := fun w' => w'.cell? ⟨g, 1, none⟩ = some (.slice (some ⟨gt, 0, none⟩) m.length cv)) (ds := [8]) #[false, false, false, false, false, false, false, false, false] (by kernel_rfl) rfl rfl hxg (fun hHeld => ?_)
        refine pure_ (i := 0) (N := some 38) (v := ?_) (a' := ?_) #[true, false, false, false, false, false, false, false, false] rfl rfl (by kernel_rfl) (fun _ _ _ h => h) (Or.inl ⟨by rfl, ?_⟩) ?_ ?_; rotate_left; (intro w'; go_simp; with_reducible rfl); rotate_left; (simp only [Act.put, List.setIfInBounds_toArray, List.set_cons_zero, List.set_cons_succ, i64_w, i32_w]; rfl)
        refine pure_ (i := 1) (N := some 39) (v := ?_) (a' := ?_) #[true, true, false, false, false, false, false, false, false] rfl rfl (by kernel_rfl) (fun _ _ _ h => h) (Or.inl ⟨by rfl, ?_⟩) ?_ ?_; rotate_left; (intro w'; go_simp; with_reducible rfl); rotate_left; (simp only [Act.put, List.setIfInBounds_toArray, List.set_cons_zero, List.set_cons_succ, i64_w, i32_w]; rfl)
        refine pure_ (i := 2) (N := some 40) (v := ?_) (a' := ?_) #[true, true, true, false, false, false, false, false, false] rfl rfl (by kernel_rfl) (fun _ _ _ h => h) (Or.inl ⟨by rfl, ?_⟩) ?_ ?_; rotate_left; (intro w'; go_simp; with_reducible rfl); rotate_left; (simp only [Act.put, List.setIfInBounds_toArray, List.set_cons_zero, List.set_cons_succ, i64_w, i32_w]; rfl)
        refine pure_ (i := 4) (N := some 42) (v := ?_) (a' := ?_) #[true, true, true, false, true, false, false, false, false] rfl rfl (by kernel_rfl) (fun _ _ _ h => h) (Or.inl ⟨by rfl, ?_⟩) ?_ ?_; rotate_left; (intro w'; go_simp; with_reducible rfl); rotate_left; (simp only [Act.put, List.setIfInBounds_toArray, List.set_cons_zero, List.set_cons_succ, i64_w, i32_w]; rfl)
        refine pure_ (i := 5) (N := some 43) (v := ?_) (a' := ?_) #[true, true, true, false, true, true, false, false, false] rfl rfl (by kernel_rfl) (fun _ _ _ h => h) (Or.inl ⟨by rfl, ?_⟩) ?_ ?_; rotate_left; (intro w'; go_simp; with_reducible rfl); rotate_left; (simp only [Act.put, List.setIfInBounds_toArray, List.set_cons_zero, List.set_cons_succ, i64_w, i32_w]; rfl)
        refine take_ (i := 3) (N := some 41) (v := ?_) (a' := ?_) #[true, true, true, true, true, true, false, false, false] rfl rfl (by kernel_rfl) (fun _ _ _ h => h) (Or.inl ⟨by rfl, ?_⟩) hHeld ?_ ?_; rotate_left; (intro w' s0; go_simp; with_reducible rfl); rotate_left; (simp only [Act.put, List.setIfInBounds_toArray, List.set_cons_zero, List.set_cons_succ, i64_w, i32_w]; rfl)
        refine one_ (i := 6) (N := some 44) #[true, true, true, true, true, true, true, false, false] rfl rfl (by kernel_rfl) (by decide) (fun K hK => ?_)
        refine goes_ Try.func57 (by kernel_rfl) rfl #[.slice A' rk.length c'] (by rfl) rfl rfl (by (try simp only [List.map_toArray, List.map_cons, List.map_nil]); first | done | rfl) ?_
        refine (clone_row A' c' rk _ (Kd.C_drew (Kd.C_below hrow HBr.out)) hlk).mono ?_
        rintro e w8 ⟨vk, rfl, hvk, hb8⟩
        refine ⟨_, rfl, ?_⟩
        obtain ⟨Ak, ck, rfl⟩ := Kd.R_slice hvk
        refine hK.out _ _ ((hb8.cell (World.block_lt_of_cell? _ _ hHeld)).trans hHeld) (fun hHeld => ?_)
        clear hK K
        refine norm_ (a' := ?_) ?_ ?_
        rotate_left
        · show Act.put _ (some 44) _ = _
          simp only [Act.put, List.setIfInBounds_toArray, List.set_cons_zero, List.set_cons_succ]
          rfl
        refine pure_ (i := 7) (N := some 45) (v := ?_) (a' := ?_) #[true, true, true, true, true, true, true, true, false] rfl rfl (by kernel_rfl) (fun _ _ _ h => h) (Or.inl ⟨by rfl, ?_⟩) ?_ ?_; rotate_left; (intro w'; go_simp; with_reducible rfl); rotate_left; (simp only [Act.put, List.setIfInBounds_toArray, List.set_cons_zero, List.set_cons_succ, i64_w, i32_w]; rfl)
        refine last_ (i := 8) (N := none) #[true, true, true, true, true, true, true, true, true] rfl rfl (by kernel_rfl) (by decide) (fun K hK => ?_)
        obtain ⟨MX, hgr, hgb, hgl, hz1, u8_, hz2⟩ := Mix.step (vk := .slice Ak rk.length ck) HMr.out hlt (below_step (below_drew (Below.refl wr.heap.size wr)) hb8) (by have := HBr.out.size; exact this) (HRK.out ▸ hvk)
        refine skip_ (w1 := w8.setCell ⟨gt, k, none⟩ (.slice Ak rk.length ck)) (by rfl) rfl ?_ ?_
        · go_simp
        refine hK.out _ _ ?_
        clear hK K
        refine done_ (by kernel_rfl) ?_
        go_wp2
        go_roundw
        case rel =>
          have hne : some g ≠ some gt := by
            intro e
            obtain rfl := Option.some.inj e
            have := HXr.out
            rw [hcells] at this
            simp at this
          exact ⟨k + 1, hlt, by go_num, ⟨blk_grown (blk_below (blk_drew HXr.out) hb8) hgr hne⟩, ⟨MX⟩, ⟨(below_step (below_drew HBr.out) hb8).setCell (p := ⟨gt, k, none⟩) hgb _⟩⟩
        case measure => simp [intOf]; omega
      · obtain rfl : k = m.length := by omega
        have HW := Aside0.mk (show WInv wr w.heap.size g p (.slice Av m.length cv) m (.slice none 0 0) [] 1 from ⟨HXr.out, hgw, HMr.out.done, Kd.R_nil _ _ _ _ _⟩)
        clear HXr HMr
        go_wp2
        go_meet
        case rel => exact ⟨HW, HBr⟩
  case rest => as_aux_lemma =>
    obtain ⟨HW, HBr⟩ := hcut
    clear HX HMX HB1 hx1 HRC HLR
    go_wp2
    go_loopg [48] n (fun kq v wr => ∃ (j : Nat) (pv : Value), j ≤ n ∧ n ≤ j + kq ∧ v = .int .i64 (j : Int) ∧ Aside0 (WInv wr w.heap.size g p (.slice Av m.length cv) (redAll p m j).1 pv (redAll p m j).2.1 (redAll p m j).2.2) ∧ Aside0 (Below w.heap.size w wr))
    case atStart => exact ⟨0, _, Nat.zero_le _, by omega, rfl, HW, HBr⟩
    case round => as_aux_lemma =>
      obtain ⟨j, pv, hj, hjk, rfl, HWj, HBj⟩ := hrel
      clear HW HBr
      by_cases hjn : j < n
      · obtain ⟨k1, rfl⟩ : ∃ k1, gk = k1 + 1 := ⟨gk - 1, by omega⟩
        obtain ⟨wd, hwd⟩ : ∃ wd, wd = (m.headD []).length := ⟨_, rfl⟩
        obtain ⟨⟨T, piv, det⟩, hs⟩ : ∃ s, s = redAll p m j := ⟨_, rfl⟩
        have HS := Aside0.mk hs
        have hok := redAll_ok HG.out (okp_good HG.out) j
        rw [← hs, ← hwd] at hok
        rw [← hs] at HWj
        replace HWj := Aside0.mk (show WInv wr w.heap.size g p (.slice Av m.length cv) T pv piv det from HWj.out)
        have HOK := Aside0.mk hok
        have hTm : T.length = m.length := hok.wide.len
        have hr0 : piv.length ≤ m.length := hok.piv
        have HJW := Aside0.mk (show m.length = 0 ∨ j < wd from hcols.elim (fun h => .inl (by rw [h]; rfl)) (fun h => .inr (by omega)))
        have HWD := Aside0.mk hwd
        have hwl : wd ≤ 1048576 := by rw [hwd]; exact goodM_wd HG.out
        clear hwd hs hok
        have HTM := Aside0.mk hTm
        clear hTm
        obtain ⟨Ap, cp, rfl⟩ := Kd.R_slice HWj.out.hp
        have hx1 : wr.cell? ⟨g, 1, none⟩ = some (.slice Av m.length cv) := (blk_cell HWj.out.hg 1).trans rfl
        have hx2 : wr.cell? ⟨g, 2, none⟩ = some (.slice Ap piv.length cp) := (blk_cell HWj.out.hg 2).trans rfl
        go_upto_block 4 with (fail)
        go_cut [12] (fun v12 wc => wr = wc ∧ ((v12 = .int .i64 (-1) ∧ Aside0 (findP T j (m.length - piv.length) piv.length = none)) ∨ ∃ q : Nat, v12 = .int .i64 (q : Int) ∧ Aside0 (findP T j (m.length - piv.length) piv.length = some q)))
        case first => as_aux_lemma =>
          go_wp2
          go_loopw [12, 13] (fun v12 v13 wr' => ∃ i : Nat, piv.length ≤ i ∧ i ≤ m.length ∧ v13 = .int .i64 (i : Int) ∧ wr' = wr ∧ ((v12 = .int .i64 (-1) ∧ Aside0 (findP T j (m.length - i) i = findP T j (m.length - piv.length) piv.length)) ∨ ∃ q : Nat, v12 = .int .i64 (q : Int) ∧ Aside0 (findP T j (m.length - piv.length) piv.length = some q))) (fun _ v13 _ => m.length - (intOf v13).toNat)
          case atStart => exact ⟨piv.length, Nat.le_refl _, hr0, rfl, rfl, .inl ⟨rfl, ⟨rfl⟩⟩⟩
          case round =>
            obtain ⟨i, hi0, hi1, rfl, rfl, hat⟩ := hrel
            rcases hat with ⟨rfl, HAT⟩ | ⟨q, rfl, HAT⟩
            · by_cases hlt : i < m.length
              · obtain ⟨gt, ct, ev, hgtb⟩ := HWj.out.vform (by have := HTM.out; omega)
                rw [HTM.out] at ev
                cases ev
                have hjw : j < wd := HJW.out.elim (fun h => by omega) id
                obtain ⟨gr, cr, _, hxi, hxc, _⟩ := HWj.out.rowL i (by have := HTM.out; omega) (HOK.out.wide.row i hlt) (by omega)
                obtain ⟨hxj, _⟩ := hxc j hjw
                obtain ⟨x, hx⟩ : ∃ x, x = cellAt T i j := ⟨_, rfl⟩
                rw [← hx] at hxj
                have HX := Aside0.mk hx
                clear hx hxc
                by_cases hx0 : x = 0
                · subst hx0
                  go_wp2
                  go_roundw
                  case rel => exact ⟨i + 1, by omega, hlt, by go_num, trivial, .inl ⟨rfl, ⟨(findP_skip T j i m.length hlt HX.out.symm).trans HAT.out⟩⟩⟩
                  case measure => simp [intOf]; omega
                · have b1 : (x != 0) = true := bne_iff_ne.mpr hx0
                  go_wp2
                  go_roundw
                  case rel => exact ⟨i + 1, by omega, hlt, by go_num, trivial, .inr ⟨i, rfl, ⟨HAT.out.symm.trans (findP_hit T j i m.length hlt (HX.out ▸ hx0))⟩⟩⟩
                  case measure => simp [intOf]; omega
              · obtain rfl : i = m.length := by omega
                go_wp2
                go_meet
                case rel => exact ⟨rfl, .inl ⟨rfl, ⟨HAT.out.symm.trans (by rw [Nat.sub_self]; rfl)⟩⟩⟩
            · have hq0 : decide ((q : Int) < 0) = false := decide_eq_false (by omega)
              by_cases hlt : i < m.length
              all_goals
                go_wp2
                go_meet
                case rel => exact ⟨rfl, .inr ⟨q, rfl, HAT⟩⟩
        case rest => as_aux_lemma =>
          obtain ⟨rfl, hfind⟩ := hcut
          rcases hfind with ⟨rfl, HF⟩ | ⟨q, rfl, HF⟩
          · go_wp2
            go_roundg k1
            case measure => omega
            case rel =>
              have e : redAll p m (j + 1) = (T, piv, det) := by rw [redAll_succ, ← HS.out]; exact redCol_none p T piv det j (by rw [HTM.out]; exact HF.out)
              exact ⟨j + 1, _, hjn, by omega, by go_num, by rw [e]; exact HWj, HBj⟩
          · obtain ⟨hq1, hq2, hq3⟩ := findP_spec _ _ _ _ _ HF.out
            have hqm : q < m.length := by omega
            have hrm : piv.length < m.length := by omega
            have HC := Aside0.mk hq3
            clear hq2 hq3
            obtain ⟨gt, ct, ev, hgtb⟩ := HWj.out.vform (by have := HTM.out; omega)
            rw [HTM.out] at ev
            cases ev
            have hjw : j < wd := HJW.out.elim (fun h => by omega) id
            have hq0 : decide ((q : Int) < 0) = false := decide_eq_false (by omega)
            have HP := Aside0.mk (okp_good HG.out)
            go_upto_if 86 with (fail)
            go_cut [] (fun wc => ∃ (T1 : List (List Int)) (d1 : Int), Aside0 (T1 = if q = piv.length then T else swapL [] T (q : Int) (piv.length : Int)) ∧ Aside0 (d1 = if q = piv.length then det else (-det) % p) ∧ Aside0 (WInv wc w.heap.size g p (.slice (some ⟨gt, 0, none⟩) m.length cv) T1 (.slice Ap piv.length cp) piv d1) ∧ Aside0 (Below w.heap.size w wc))
            case first => as_aux_lemma =>
              by_cases e : q = piv.length
              · have b0 : ((q : Int) != (piv.length : Int)) = false := bne_eq_false_iff_eq.mpr (by omega)
                have HE := Aside0.mk e
                clear e
                (first | rw [b0] | (simp only [i64_w, i32_w]; rw [b0]) | skip)
                go_wp2
                go_meet
                case rel => exact ⟨T, det, ⟨(if_pos HE.out).symm⟩, ⟨(if_pos HE.out).symm⟩, HWj, HBj⟩
              · have b0 : ((q : Int) != (piv.length : Int)) = true := bne_iff_ne.mpr (by omega)
                have HE := Aside0.mk e
                clear e
                (first | rw [b0] | (simp only [i64_w, i32_w]; rw [b0]) | skip)
                obtain ⟨gt', ct', vi, vr, ev, _, hxi, hxr, hfi, hfr, ⟨AI, lI, cI, rfl⟩, ⟨AR, lR, cR, rfl⟩, hSW, _⟩ := HWj.out.drew.swap q piv.length (by have := HTM.out; omega) (by have := HTM.out; omega)
                rw [HTM.out] at ev
                cases ev
                have HSW := Aside0.mk hSW
                clear hSW
                have hx1d : wr.drew.cell? ⟨g, 1, none⟩ = some (.slice (some ⟨gt, 0, none⟩) m.length cv) := hx1
                have HBN := Aside0.mk (((below_drew1 HBj.out).setCell (p := ⟨gt, q, none⟩) hgtb (.slice AR lR cR)).setCell (p := ⟨gt, piv.length, none⟩) hgtb (.slice AI lI cI))
                have hneA : (⟨gt, piv.length, none⟩ : Addr) ≠ ⟨gt, q, none⟩ := by intro e_; injection e_ with _ e_; exact HE.out e_.symm
                have hz1 : (wr.drew.setCell ⟨gt, q, none⟩ (.slice AR lR cR)).cell? ⟨gt, piv.length, none⟩ = some (.slice AR lR cR) := (World.cell?_setCell_other _ _ _ _ (by first | exact hneA | exact hneA.symm)).trans hxr
                have hz2 : (wr.drew.setCell ⟨gt, q, none⟩ (.slice AR lR cR)).frozen? ⟨gt, piv.length, none⟩ = false := (World.frozen?_setCell _ _ _ _).trans hfr
                have hz5 : (wr.setCell ⟨gt, q, none⟩ (.slice AR lR cR)).cell? ⟨gt, piv.length, none⟩ = some (.slice AR lR cR) := (World.cell?_setCell_other _ _ _ _ (by first | exact hneA | exact hneA.symm)).trans hxr
                have hz6 : wr.frozen? ⟨gt, piv.length, none⟩ = false := hfr
                have hz3 : wr.drew.frozen? ⟨gt, q, none⟩ = false := hfi
                have hz4 : wr.drew.cell? ⟨gt, q, none⟩ = some (.slice AI lI cI) := hxi
                have hz7 : wr.frozen? ⟨gt, q, none⟩ = false := hfi
                have hz8 : wr.cell? ⟨gt, q, none⟩ = some (.slice AI lI cI) := hxi
                clear hfi hfr hneA hx2
                go_wp2
                refine start_ (n := 28) (S := fun w' => w'.cell? ⟨g, 1, none⟩ = some (.slice (some ⟨gt, 0, none⟩) m.length cv) ∧ w'.cell? ⟨gt, q, none⟩ = some (.slice AI lI cI) ∧ w'.cell? ⟨gt, piv.length, none⟩ = some (.slice AR lR cR)) (ds := [25, 27]) #[false, false, false, false, false, false, false, false, false, false, false, false, false, false, false, false, false, false, false, false, false, false, false, false, false, false, false, false] (by kernel_rfl) rfl rfl ⟨hx1d, hxi, hxr⟩ (fun hHeld => ?_)
                refine pure_ (i := 0) (N := some 87) (v := ?_) (a' := ?_) #[true, false, false, false, false, false, false, false, false, false, false, false, false, false, false, false, false, false, false, false, false, false, false, false, false, false, false, false] rfl rfl (by kernel_rfl) (fun _ _ _ h => h) (Or.inl ⟨by rfl, ?_⟩) ?_ ?_; rotate_left; (intro w'; go_simp; with_reducible rfl); rotate_left; (simp only [Act.put, List.setIfInBounds_toArray, List.set_cons_zero, List.set_cons_succ, i64_w, i32_w]; rfl)
                refine pure_ (i := 1) (N := some 88) (v := ?_) (a' := ?_) #[true, true, false, false, false, false, false, false, false, false, false, false, false, false, false, false, false, false, false, false, false, false, false, false, false, false, false, false] rfl rfl (by kernel_rfl) (fun _ _ _ h => h) (Or.inl ⟨by rfl, ?_⟩) ?_ ?_; rotate_left; (intro w'; go_simp; with_reducible rfl); rotate_left; (simp only [Act.put, List.setIfInBounds_toArray, List.set_cons_zero, List.set_cons_succ, i64_w, i32_w]; rfl)
                refine pure_ (i := 2) (N := some 89) (v := ?_) (a' := ?_) #[true, true, true, false, false, false, false, false, false, false, false, false, false, false, false, false, false, false, false, false, false, false, false, false, false, false, false, false] rfl rfl (by kernel_rfl) (fun _ _ _ h => h) (Or.inl ⟨by rfl, ?_⟩) ?_ ?_; rotate_left; (intro w'; go_simp; with_reducible rfl); rotate_left; (simp only [Act.put, List.setIfInBounds_toArray, List.set_cons_zero, List.set_cons_succ, i64_w, i32_w]; rfl)
                refine pure_ (i := 4) (N := some 91) (v := ?_) (a' := ?_) #[true, true, true, false, true, false, false, false, false, false, false, false, false, false, false, false, false, false, false, false, false, false, false, false, false, false, false, false] rfl rfl (by kernel_rfl) (fun _ _ _ h => h) (Or.inl ⟨by rfl, ?_⟩) ?_ ?_; rotate_left; (intro w'; go_simp; with_reducible rfl); rotate_left; (simp only [Act.put, List.setIfInBounds_toArray, List.set_cons_zero, List.set_cons_succ, i64_w, i32_w]; rfl)
                refine pure_ (i := 5) (N := some 92) (v := ?_) (a' := ?_) #[true, true, true, false, true, true, false, false, false, false, false, false, false, false, false, false, false, false, false, false, false, false, false, false, false, false, false, false] rfl rfl (by kernel_rfl) (fun _ _ _ h => h) (Or.inl ⟨by rfl, ?_⟩) ?_ ?_; rotate_left; (intro w'; go_simp; with_reducible rfl); rotate_left; (simp only [Act.put, List.setIfInBounds_toArray, List.set_cons_zero, List.set_cons_succ, i64_w, i32_w]; rfl)
                refine pure_ (i := 6) (N := some 93) (v := ?_) (a' := ?_) #[true, true, true, false, true, true, true, false, false, false, false, false, false, false, false, false, false, false, false, false, false, false, false, false, false, false, false, false] rfl rfl (by kernel_rfl) (fun _ _ _ h => h) (Or.inl ⟨by rfl, ?_⟩) ?_ ?_; rotate_left; (intro w'; go_simp; with_reducible rfl); rotate_left; (simp only [Act.put, List.setIfInBounds_toArray, List.set_cons_zero, List.set_cons_succ, i64_w, i32_w]; rfl)
                refine pure_ (i := 7) (N := some 94) (v := ?_) (a' := ?_) #[true, true, true, false, true, true, true, true, false, false, false, false, false, false, false, false, false, false, false, false, false, false, false, false, false, false, false, false] rfl rfl (by kernel_rfl) (fun _ _ _ h => h) (Or.inl ⟨by rfl, ?_⟩) ?_ ?_; rotate_left; (intro w'; go_simp; with_reducible rfl); rotate_left; (simp only [Act.put, List.setIfInBounds_toArray, List.set_cons_zero, List.set_cons_succ, i64_w, i32_w]; rfl)
                refine pure_ (i := 10) (N := some 97) (v := ?_) (a' := ?_) #[true, true, true, false, true, true, true, true, false, false, true, false, false, false, false, false, false, false, false, false, false, false, false, false, false, false, false, false] rfl rfl (by kernel_rfl) (fun _ _ _ h => h) (Or.inl ⟨by rfl, ?_⟩) ?_ ?_; rotate_left; (intro w'; go_simp; with_reducible rfl); rotate_left; (simp only [Act.put, List.setIfInBounds_toArray, List.set_cons_zero, List.set_cons_succ, i64_w, i32_w]; rfl)
                refine pure_ (i := 11) (N := some 98) (v := ?_) (a' := ?_) #[true, true, true, false, true, true, true, true, false, false, true, true, false, false, false, false, false, false, false, false, false, false, false, false, false, false, false, false] rfl rfl (by kernel_rfl) (fun _ _ _ h => h) (Or.inl ⟨by rfl, ?_⟩) ?_ ?_; rotate_left; (intro w'; go_simp; with_reducible rfl); rotate_left; (simp only [Act.put, List.setIfInBounds_toArray, List.set_cons_zero, List.set_cons_succ, i64_w, i32_w]; rfl)
                refine pure_ (i := 12) (N := some 99) (v := ?_) (a' := ?_) #[true, true, true, false, true, true, true, true, false, false, true, true, true, false, false, false, false, false, false, false, false, false, false, false, false, false, false, false] rfl rfl (by kernel_rfl) (fun _ _ _ h => h) (Or.inl ⟨by rfl, ?_⟩) ?_ ?_; rotate_left; (intro w'; go_simp; with_reducible rfl); rotate_left; (simp only [Act.put, List.setIfInBounds_toArray, List.set_cons_zero, List.set_cons_succ, i64_w, i32_w]; rfl)
                refine pure_ (i := 14) (N := some 101) (v := ?_) (a' := ?_) #[true, true, true, false, true, true, true, true, false, false, true, true, true, false, true, false, false, false, false, false, false, false, false, false, false, false, false, false] rfl rfl (by kernel_rfl) (fun _ _ _ h => h) (Or.inl ⟨by rfl, ?_⟩) ?_ ?_; rotate_left; (intro w'; go_simp; with_reducible rfl); rotate_left; (simp only [Act.put, List.setIfInBounds_toArray, List.set_cons_zero, List.set_cons_succ, i64_w, i32_w]; rfl)
                refine pure_ (i := 17) (N := some 104) (v := ?_) (a' := ?_) #[true, true, true, false, true, true, true, true, false, false, true, true, true, false, true, false, false, true, false, false, false, false, false, false, false, false, false, false] rfl rfl (by kernel_rfl) (fun _ _ _ h => h) (Or.inl ⟨by rfl, ?_⟩) ?_ ?_; rotate_left; (intro w'; go_simp; with_reducible rfl); rotate_left; (simp only [Act.put, List.setIfInBounds_toArray, List.set_cons_zero, List.set_cons_succ, i64_w, i32_w]; rfl)
                refine pure_ (i := 18) (N := some 105) (v := ?_) (a' := ?_) #[true, true, true, false, true, true, true, true, false, false, true, true, true, false, true, false, false, true, true, false, false, false, false, false, false, false, false, false] rfl rfl (by kernel_rfl) (fun _ _ _ h => h) (Or.inl ⟨by rfl, ?_⟩) ?_ ?_; rotate_left; (intro w'; go_simp; with_reducible rfl); rotate_left; (simp only [Act.put, List.setIfInBounds_toArray, List.set_cons_zero, List.set_cons_succ, i64_w, i32_w]; rfl)
                refine pure_ (i := 19) (N := some 106) (v := ?_) (a' := ?_) #[true, true, true, false, true, true, true, true, false, false, true, true, true, false, true, false, false, true, true, true, false, false, false, false, false, false, false, false] rfl rfl (by kernel_rfl) (fun _ _ _ h => h) (Or.inl ⟨by rfl, ?_⟩) ?_ ?_; rotate_left; (intro w'; go_simp; with_reducible rfl); rotate_left; (simp only [Act.put, List.setIfInBounds_toArray, List.set_cons_zero, List.set_cons_succ, i64_w, i32_w]; rfl)
                refine pure_ (i := 21) (N := some 108) (v := ?_) (a' := ?_) #[true, true, true, false, true, true, true, true, false, false, true, true, true, false, true, false, false, true, true, true, false, true, false, false, false, false, false, false] rfl rfl (by kernel_rfl) (fun _ _ _ h => h) (Or.inl ⟨by rfl, ?_⟩) ?_ ?_; rotate_left; (intro w'; go_simp; with_reducible rfl); rotate_left; (simp only [Act.put, List.setIfInBounds_toArray, List.set_cons_zero, List.set_cons_succ, i64_w, i32_w]; rfl)
                refine take_ (i := 3) (N := some 90) (v := ?_) (a' := ?_) #[true, true, true, true, true, true, true, true, false, false, true, true, true, false, true, false, false, true, true, true, false, true, false, false, false, false, false, false] rfl rfl (by kernel_rfl) (fun _ _ _ h => h) (Or.inl ⟨by rfl, ?_⟩) hHeld ?_ ?_; rotate_left; (rintro w' ⟨s0, s1, s2⟩; go_simp; with_reducible rfl); rotate_left; (simp only [Act.put, List.setIfInBounds_toArray, List.set_cons_zero, List.set_cons_succ, i64_w, i32_w]; rfl)
                refine take_ (i := 8) (N := some 95) (v := ?_) (a' := ?_) #[true, true, true, true, true, true, true, true, true, false, true, true, true, false, true, false, false, true, true, true, false, true, false, false, false, false, false, false] rfl rfl (by kernel_rfl) (fun _ _ _ h => h) (Or.inl ⟨by rfl, ?_⟩) hHeld ?_ ?_; rotate_left; (rintro w' ⟨s0, s1, s2⟩; go_simp; with_reducible rfl); rotate_left; (simp only [Act.put, List.setIfInBounds_toArray, List.set_cons_zero, List.set_cons_succ, i64_w, i32_w]; rfl)
                refine take_ (i := 13) (N := some 100) (v := ?_) (a' := ?_) #[true, true, true, true, true, true, true, true, true, false, true, true, true, true, true, false, false, true, true, true, false, true, false, false, false, false, false, false] rfl rfl (by kernel_rfl) (fun _ _ _ h => h) (Or.inl ⟨by rfl, ?_⟩) hHeld ?_ ?_; rotate_left; (rintro w' ⟨s0, s1, s2⟩; go_simp; with_reducible rfl); rotate_left; (simp only [Act.put, List.setIfInBounds_toArray, List.set_cons_zero, List.set_cons_succ, i64_w, i32_w]; rfl)
                refine pure_ (i := 15) (N := some 102) (v := ?_) (a' := ?_) #[true, true, true, true, true, true, true, true, true, false, true, true, true, true, true, true, false, true, true, true, false, true, false, false, false, false, false, false] rfl rfl (by kernel_rfl) (fun _ _ _ h => h) (Or.inl ⟨by rfl, ?_⟩) ?_ ?_; rotate_left; (intro w'; go_simp; with_reducible rfl); rotate_left; (simp only [Act.put, List.setIfInBounds_toArray, List.set_cons_zero, List.set_cons_succ, i64_w, i32_w]; rfl)
                refine take_ (i := 16) (N := some 103) (v := ?_) (a' := ?_) #[true, true, true, true, true, true, true, true, true, false, true, true, true, true, true, true, true, true, true, true, false, true, false, false, false, false, false, false] rfl rfl (by kernel_rfl) (fun _ _ _ h => h) (Or.inl ⟨by rfl, ?_⟩) hHeld ?_ ?_; rotate_left; (rintro w' ⟨s0, s1, s2⟩; go_simp; with_reducible rfl); rotate_left; (simp only [Act.put, List.setIfInBounds_toArray, List.set_cons_zero, List.set_cons_succ, i64_w, i32_w]; rfl)
                refine take_ (i := 20) (N := some 107) (v := ?_) (a' := ?_) #[true, true, true, true, true, true, true, true, true, false, true, true, true, true, true, true, true, true, true, true, true, true, false, false, false, false, false, false] rfl rfl (by kernel_rfl) (fun _ _ _ h => h) (Or.inl ⟨by rfl, ?_⟩) hHeld ?_ ?_; rotate_left; (rintro w' ⟨s0, s1, s2⟩; go_simp; with_reducible rfl); rotate_left; (simp only [Act.put, List.setIfInBounds_toArray, List.set_cons_zero, List.set_cons_succ, i64_w, i32_w]; rfl)
                refine pure_ (i := 22) (N := some 109) (v := ?_) (a' := ?_) #[true, true, true, true, true, true, true, true, true, false, true, true, true, true, true, true, true, true, true, true, true, true, true, false, false, false, false, false] rfl rfl (by kernel_rfl) (fun _ _ _ h => h) (Or.inl ⟨by rfl, ?_⟩) ?_ ?_; rotate_left; (intro w'; go_simp; with_reducible rfl); rotate_left; (simp only [Act.put, List.setIfInBounds_toArray, List.set_cons_zero, List.set_cons_succ, i64_w, i32_w]; rfl)
                refine take_ (i := 23) (N := some 110) (v := ?_) (a' := ?_) #[true, true, true, true, true, true, true, true, true, false, true, true, true, true, true, true, true, true, true, true, true, true, true, true, false, false, false, false] rfl rfl (by kernel_rfl) (fun _ _ _ h => h) (Or.inl ⟨by rfl, ?_⟩) hHeld ?_ ?_; rotate_left; (rintro w' ⟨s0, s1, s2⟩; go_simp; with_reducible rfl); rotate_left; (simp only [Act.put, List.setIfInBounds_toArray, List.set_cons_zero, List.set_cons_succ, i64_w, i32_w]; rfl)
                refine pure_ (i := 9) (N := some 96) (v := ?_) (a' := ?_) #[true, true, true, true, true, true, true, true, true, true, true, true, true, true, true, true, true, true, true, true, true, true, true, true, false, false, false, false] rfl rfl (by kernel_rfl) (fun _ _ _ h => h) (Or.inl ⟨by rfl, ?_⟩) ?_ ?_; rotate_left; (intro w'; go_simp; with_reducible rfl); rotate_left; (simp only [Act.put, List.setIfInBounds_toArray, List.set_cons_zero, List.set_cons_succ, i64_w, i32_w]; rfl)
                refine pure_ (i := 24) (N := some 111) (v := ?_) (a' := ?_) #[true, true, true, true, true, true, true, true, true, true, true, true, true, true, true, true, true, true, true, true, true, true, true, true, true, false, false, false] rfl rfl (by kernel_rfl) (fun _ _ _ h => h) (Or.inl ⟨by rfl, ?_⟩) ?_ ?_; rotate_left; (intro w'; go_simp; with_reducible rfl); rotate_left; (simp only [Act.put, List.setIfInBounds_toArray, List.set_cons_zero, List.set_cons_succ, i64_w, i32_w]; rfl)
                refine last_ (i := 25) (N := none) #[true, true, true, true, true, true, true, true, true, true, true, true, true, true, true, true, true, true, true, true, true, true, true, true, true, true, false, false] rfl rfl (by kernel_rfl) (by decide) (fun K hK => ?_)
                refine skip_ (w1 := wr.drew.setCell ⟨gt, q, none⟩ (.slice AR lR cR)) (by rfl) rfl ?_ ?_
                · go_simp
                refine hK.out _ _ ?_
                clear hK K
                clear hHeld hz3 hz4 hz7 hz8 hxi hxr
                refine pure_ (i := 26) (N := some 112) (v := ?_) (a' := ?_) #[true, true, true, true, true, true, true, true, true, true, true, true, true, true, true, true, true, true, true, true, true, true, true, true, true, true, true, false] rfl rfl (by kernel_rfl) (fun _ _ _ h => h) (Or.inl ⟨by rfl, ?_⟩) ?_ ?_; rotate_left; (intro w'; go_simp; with_reducible rfl); rotate_left; (simp only [Act.put, List.setIfInBounds_toArray, List.set_cons_zero, List.set_cons_succ, i64_w, i32_w]; rfl)
                refine last_ (i := 27) (N := none) #[true, true, true, true, true, true, true, true, true, true, true, true, true, true, true, true, true, true, true, true, true, true, true, true, true, true, true, true] rfl rfl (by kernel_rfl) (by decide) (fun K hK => ?_)
                refine skip_ (w1 := (wr.drew.setCell ⟨gt, q, none⟩ (.slice AR lR cR)).setCell ⟨gt, piv.length, none⟩ (.slice AI lI cI)) (by rfl) rfl ?_ ?_
                · go_simp
                refine hK.out _ _ ?_
                clear hK K
                refine done_ (by kernel_rfl) ?_
                clear hz1 hz2 hz5 hz6
                generalize (wr.drew.setCell ⟨gt, q, none⟩ (.slice AR lR cR)).setCell ⟨gt, piv.length, none⟩ (.slice AI lI cI) = wsw at HSW HBN ⊢
                have hx3 : wsw.cell? ⟨g, 3, none⟩ = some (.int .u64 det) := (blk_cell HSW.out.hg 3).trans rfl
                have hf3 : wsw.frozen? ⟨g, 3, none⟩ = false := blk_frozen HSW.out.hg 3
                have HDT := Aside0.mk HOK.out.det
                go_wp2_with (go_at_call 77; refine (field_Neg.calls p det _ _ (neg_f HP.out HDT.out)).mono ?_; rintro e w' ⟨rfl, ⟨nd, rfl⟩⟩)
                go_meet
                case rel => exact ⟨_, _, ⟨(if_neg HE.out).symm⟩, ⟨(if_neg HE.out).symm⟩, ⟨by first | exact (HSW.out.drewN _).setDet _ | exact (HSW.out.setDet _).drewN _ | exact HSW.out.setDet _⟩, ⟨by first | exact (pw_below_drewN HBN.out _).setCell (p := ⟨g, 3, none⟩) HSW.out.hb _ | exact pw_below_drewN (HBN.out.setCell (p := ⟨g, 3, none⟩) HSW.out.hb _) _⟩⟩
            case rest => as_aux_lemma =>
              obtain ⟨T1, d1, HT1, HD1, HW1, HB1⟩ := hcut
              clear hx1 hx2 HWj HBj
              have HWI1 := Aside0.mk (show Wide p m.length wd T1 from by
                rw [HT1.out]
                split
                · exact HOK.out.wide
                · exact HOK.out.wide.swap hqm hrm)
              have HDF := Aside0.mk (show inF p d1 = true from by
                rw [HD1.out]
                split
                · exact HOK.out.det
                · exact inF_mod HP.out _)
              have HL1 := Aside0.mk HWI1.out.len
              obtain ⟨gr, cr, _, hxr, hxc, _⟩ := HW1.out.rowL piv.length (by rw [HL1.out]; exact hrm) (HWI1.out.row _ hrm) (by omega)
              obtain ⟨hxj, _⟩ := hxc j hjw
              obtain ⟨x, hx⟩ : ∃ x, x = cellAt T1 piv.length j := ⟨_, rfl⟩
              rw [← hx] at hxj
              have HXV := Aside0.mk hx
              have HXF := Aside0.mk (show inF p x = true from by rw [hx]; exact HWI1.out.at HP.out _ _)
              clear hx hxc
              have hx1 : wc.drew.cell? ⟨g, 1, none⟩ = some (.slice (some ⟨gt, 0, none⟩) m.length cv) := (blk_cell HW1.out.hg 1).trans rfl
              have hx3 : wc.drew.cell? ⟨g, 3, none⟩ = some (.int .u64 d1) := (blk_cell HW1.out.hg 3).trans rfl
              have hx3' : wc.cell? ⟨g, 3, none⟩ = some (.int .u64 d1) := (blk_cell HW1.out.hg 3).trans rfl
              have hf3 : wc.frozen? ⟨g, 3, none⟩ = false := blk_frozen HW1.out.hg 3
              have hxrd : wc.drew.cell? ⟨gt, piv.length, none⟩ = some (.slice (some ⟨gr, 0, none⟩) wd cr) := hxr
              have hxjd : wc.drew.cell? ⟨gr, j, none⟩ = some (.int .u64 x) := hxj
              go_wp2
              refine start_ (n := 20) (S := fun w' => w'.cell? ⟨g, 1, none⟩ = some (.slice (some ⟨gt, 0, none⟩) m.length cv) ∧ w'.cell? ⟨g, 3, none⟩ = some (.int .u64 d1) ∧ w'.cell? ⟨gt, piv.length, none⟩ = some (.slice (some ⟨gr, 0, none⟩) wd cr) ∧ w'.cell? ⟨gr, j, none⟩ = some (.int .u64 x)) (ds := [19]) #[false, false, false, false, false, false, false, false, false, false, false, false, false, false, false, false, false, false, false, false] (by kernel_rfl) rfl rfl ⟨hx1, hx3, hxrd, hxjd⟩ (fun hHeld => ?_)
              refine pure_ (i := 0) (N := some 122) (v := ?_) (a' := ?_) #[true, false, false, false, false, false, false, false, false, false, false, false, false, false, false, false, false, false, false, false] rfl rfl (by kernel_rfl) (fun _ _ _ h => h) (Or.inl ⟨by rfl, ?_⟩) ?_ ?_; rotate_left; (intro w'; go_simp; with_reducible rfl); rotate_left; (simp only [Act.put, List.setIfInBounds_toArray, List.set_cons_zero, List.set_cons_succ, i64_w, i32_w]; rfl)
              refine pure_ (i := 1) (N := some 123) (v := ?_) (a' := ?_) #[true, true, false, false, false, false, false, false, false, false, false, false, false, false, false, false, false, false, false, false] rfl rfl (by kernel_rfl) (fun _ _ _ h => h) (Or.inl ⟨by rfl, ?_⟩) ?_ ?_; rotate_left; (intro w'; go_simp; with_reducible rfl); rotate_left; (simp only [Act.put, List.setIfInBounds_toArray, List.set_cons_zero, List.set_cons_succ, i64_w, i32_w]; rfl)
              refine pure_ (i := 2) (N := some 124) (v := ?_) (a' := ?_) #[true, true, true, false, false, false, false, false, false, false, false, false, false, false, false, false, false, false, false, false] rfl rfl (by kernel_rfl) (fun _ _ _ h => h) (Or.inl ⟨by rfl, ?_⟩) ?_ ?_; rotate_left; (intro w'; go_simp; with_reducible rfl); rotate_left; (simp only [Act.put, List.setIfInBounds_toArray, List.set_cons_zero, List.set_cons_succ, i64_w, i32_w]; rfl)
              refine pure_ (i := 3) (N := some 125) (v := ?_) (a' := ?_) #[true, true, true, true, false, false, false, false, false, false, false, false, false, false, false, false, false, false, false, false] rfl rfl (by kernel_rfl) (fun _ _ _ h => h) (Or.inl ⟨by rfl, ?_⟩) ?_ ?_; rotate_left; (intro w'; go_simp; with_reducible rfl); rotate_left; (simp only [Act.put, List.setIfInBounds_toArray, List.set_cons_zero, List.set_cons_succ, i64_w, i32_w]; rfl)
              refine pure_ (i := 4) (N := some 126) (v := ?_) (a' := ?_) #[true, true, true, true, true, false, false, false, false, false, false, false, false, false, false, false, false, false, false, false] rfl rfl (by kernel_rfl) (fun _ _ _ h => h) (Or.inl ⟨by rfl, ?_⟩) ?_ ?_; rotate_left; (intro w'; go_simp; with_reducible rfl); rotate_left; (simp only [Act.put, List.setIfInBounds_toArray, List.set_cons_zero, List.set_cons_succ, i64_w, i32_w]; rfl)
              refine pure_ (i := 6) (N := some 128) (v := ?_) (a' := ?_) #[true, true, true, true, true, false, true, false, false, false, false, false, false, false, false, false, false, false, false, false] rfl rfl (by kernel_rfl) (fun _ _ _ h => h) (Or.inl ⟨by rfl, ?_⟩) ?_ ?_; rotate_left; (intro w'; go_simp; with_reducible rfl); rotate_left; (simp only [Act.put, List.setIfInBounds_toArray, List.set_cons_zero, List.set_cons_succ, i64_w, i32_w]; rfl)
              refine pure_ (i := 7) (N := some 129) (v := ?_) (a' := ?_) #[true, true, true, true, true, false, true, true, false, false, false, false, false, false, false, false, false, false, false, false] rfl rfl (by kernel_rfl) (fun _ _ _ h => h) (Or.inl ⟨by rfl, ?_⟩) ?_ ?_; rotate_left; (intro w'; go_simp; with_reducible rfl); rotate_left; (simp only [Act.put, List.setIfInBounds_toArray, List.set_cons_zero, List.set_cons_succ, i64_w, i32_w]; rfl)
              refine pure_ (i := 8) (N := some 130) (v := ?_) (a' := ?_) #[true, true, true, true, true, false, true, true, true, false, false, false, false, false, false, false, false, false, false, false] rfl rfl (by kernel_rfl) (fun _ _ _ h => h) (Or.inl ⟨by rfl, ?_⟩) ?_ ?_; rotate_left; (intro w'; go_simp; with_reducible rfl); rotate_left; (simp only [Act.put, List.setIfInBounds_toArray, List.set_cons_zero, List.set_cons_succ, i64_w, i32_w]; rfl)
              refine pure_ (i := 10) (N := some 132) (v := ?_) (a' := ?_) #[true, true, true, true, true, false, true, true, true, false, true, false, false, false, false, false, false, false, false, false] rfl rfl (by kernel_rfl) (fun _ _ _ h => h) (Or.inl ⟨by rfl, ?_⟩) ?_ ?_; rotate_left; (intro w'; go_simp; with_reducible rfl); rotate_left; (simp only [Act.put, List.setIfInBounds_toArray, List.set_cons_zero, List.set_cons_succ, i64_w, i32_w]; rfl)
              refine pure_ (i := 13) (N := some 135) (v := ?_) (a' := ?_) #[true, true, true, true, true, false, true, true, true, false, true, false, false, true, false, false, false, false, false, false] rfl rfl (by kernel_rfl) (fun _ _ _ h => h) (Or.inl ⟨by rfl, ?_⟩) ?_ ?_; rotate_left; (intro w'; go_simp; with_reducible rfl); rotate_left; (simp only [Act.put, List.setIfInBounds_toArray, List.set_cons_zero, List.set_cons_succ, i64_w, i32_w]; rfl)
              refine take_ (i := 5) (N := some 127) (v := ?_) (a' := ?_) #[true, true, true, true, true, true, true, true, true, false, true, false, false, true, false, false, false, false, false, false] rfl rfl (by kernel_rfl) (fun _ _ _ h => h) (Or.inl ⟨by rfl, ?_⟩) hHeld ?_ ?_; rotate_left; (rintro w' ⟨s0, s1, s2, s3⟩; go_simp; with_reducible rfl); rotate_left; (simp only [Act.put, List.setIfInBounds_toArray, List.set_cons_zero, List.set_cons_succ, i64_w, i32_w]; rfl)
              refine take_ (i := 9) (N := some 131) (v := ?_) (a' := ?_) #[true, true, true, true, true, true, true, true, true, true, true, false, false, true, false, false, false, false, false, false] rfl rfl (by kernel_rfl) (fun _ _ _ h => h) (Or.inl ⟨by rfl, ?_⟩) hHeld ?_ ?_; rotate_left; (rintro w' ⟨s0, s1, s2, s3⟩; go_simp; with_reducible rfl); rotate_left; (simp only [Act.put, List.setIfInBounds_toArray, List.set_cons_zero, List.set_cons_succ, i64_w, i32_w]; rfl)
              refine pure_ (i := 11) (N := some 133) (v := ?_) (a' := ?_) #[true, true, true, true, true, true, true, true, true, true, true, true, false, true, false, false, false, false, false, false] rfl rfl (by kernel_rfl) (fun _ _ _ h => h) (Or.inl ⟨by rfl, ?_⟩) ?_ ?_; rotate_left; (intro w'; go_simp; with_reducible rfl); rotate_left; (simp only [Act.put, List.setIfInBounds_toArray, List.set_cons_zero, List.set_cons_succ, i64_w, i32_w]; rfl)
              refine take_ (i := 12) (N := some 134) (v := ?_) (a' := ?_) #[true, true, true, true, true, true, true, true, true, true, true, true, true, true, false, false, false, false, false, false] rfl rfl (by kernel_rfl) (fun _ _ _ h => h) (Or.inl ⟨by rfl, ?_⟩) hHeld ?_ ?_; rotate_left; (rintro w' ⟨s0, s1, s2, s3⟩; go_simp; with_reducible rfl); rotate_left; (simp only [Act.put, List.setIfInBounds_toArray, List.set_cons_zero, List.set_cons_succ, i64_w, i32_w]; rfl)
              refine pure_ (i := 14) (N := some 136) (v := ?_) (a' := ?_) #[true, true, true, true, true, true, true, true, true, true, true, true, true, true, true, false, false, false, false, false] rfl rfl (by kernel_rfl) (fun _ _ _ h => h) (Or.inl ⟨by rfl, ?_⟩) ?_ ?_; rotate_left; (intro w'; go_simp; with_reducible rfl); rotate_left; (simp only [Act.put, List.setIfInBounds_toArray, List.set_cons_zero, List.set_cons_succ, i64_w, i32_w]; rfl)
              refine take_ (i := 15) (N := some 137) (v := ?_) (a' := ?_) #[true, true, true, true, true, true, true, true, true, true, true, true, true, true, true, true, false, false, false, false] rfl rfl (by kernel_rfl) (fun _ _ _ h => h) (Or.inl ⟨by rfl, ?_⟩) hHeld ?_ ?_; rotate_left; (rintro w' ⟨s0, s1, s2, s3⟩; go_simp; with_reducible rfl); rotate_left; (simp only [Act.put, List.setIfInBounds_toArray, List.set_cons_zero, List.set_cons_succ, i64_w, i32_w]; rfl)
              refine one_ (i := 16) (N := some 138) #[true, true, true, true, true, true, true, true, true, true, true, true, true, true, true, true, true, false, false, false] rfl rfl (by kernel_rfl) (by decide) (fun K hK => ?_)
              refine goes_ Try.func60 (by kernel_rfl) rfl #[.int .u64 p, .int .u64 d1, .int .u64 x] (by rfl) rfl rfl (by (try simp only [List.map_toArray, List.map_cons, List.map_nil]); first | done | rfl) ?_
              refine (field_Mul.calls p d1 x _ _ (mul_f HP.out HDF.out HXF.out)).mono ?_
              rintro e w' ⟨rfl, ⟨nd16, rfl⟩⟩
              refine ⟨_, rfl, ?_⟩
              refine hK.out _ _ hHeld (fun hHeld => ?_)
              clear hK K
              refine norm_ (a' := ?_) ?_ ?_
              rotate_left
              · show Act.put _ (some 138) _ = _
                simp only [Act.put, List.setIfInBounds_toArray, List.set_cons_zero, List.set_cons_succ]
                rfl
              refine pure_ (i := 17) (N := some 139) (v := ?_) (a' := ?_) #[true, true, true, true, true, true, true, true, true, true, true, true, true, true, true, true, true, true, false, false] rfl rfl (by kernel_rfl) (fun _ _ _ h => h) (Or.inl ⟨by rfl, ?_⟩) ?_ ?_; rotate_left; (intro w'; go_simp; with_reducible rfl); rotate_left; (simp only [Act.put, List.setIfInBounds_toArray, List.set_cons_zero, List.set_cons_succ, i64_w, i32_w]; rfl)
              refine pure_ (i := 18) (N := some 140) (v := ?_) (a' := ?_) #[true, true, true, true, true, true, true, true, true, true, true, true, true, true, true, true, true, true, true, false] rfl rfl (by kernel_rfl) (fun _ _ _ h => h) (Or.inl ⟨by rfl, ?_⟩) ?_ ?_; rotate_left; (intro w'; go_simp; with_reducible rfl); rotate_left; (simp only [Act.put, List.setIfInBounds_toArray, List.set_cons_zero, List.set_cons_succ, i64_w, i32_w]; rfl)
              refine last_ (i := 19) (N := none) #[true, true, true, true, true, true, true, true, true, true, true, true, true, true, true, true, true, true, true, true] rfl rfl (by kernel_rfl) (by decide) (fun K hK => ?_)
              refine skip_ (w1 := (wc.drew.drewN nd16).setCell ⟨g, 3, none⟩ (.int .u64 (d1 * x % p))) (by rfl) rfl ?_ ?_
              · go_simp
              refine hK.out _ _ ?_
              clear hK K
              refine done_ (by kernel_rfl) ?_
              have HW2 := Aside0.mk (show WInv ((wc.drew.drewN nd16).setCell ⟨g, 3, none⟩ (.int .u64 (d1 * x % p))) w.heap.size g p (.slice (some ⟨gt, 0, none⟩) m.length cv) T1 (.slice Ap piv.length cp) piv (d1 * x % p) from (HW1.out.drew.drewN _).setDet _)
              have HB2 := Aside0.mk ((pw_below_drewN (below_drew1 HB1.out) nd16).setCell (p := ⟨g, 3, none⟩) HW1.out.hb (.int .u64 (d1 * x % p)))
              clear hx1 hx3 hx3' hf3 hxrd hxjd hxr hxj HW1 HB1 hHeld
              obtain ⟨d2, hd2⟩ : ∃ d2, d2 = d1 * x % p := ⟨_, rfl⟩
              rw [← hd2] at HW2 HB2 ⊢
              have HD2 := Aside0.mk hd2
              clear hd2
              generalize (wc.drew.drewN nd16).setCell ⟨g, 3, none⟩ (.int .u64 d2) = w2 at HW2 HB2 ⊢
              obtain ⟨gr, cr, _, hxr, hxc, _⟩ := HW2.out.rowL piv.length (by rw [HL1.out]; exact hrm) (HWI1.out.row _ hrm) (by omega)
              obtain ⟨hxj, _⟩ := hxc j hjw
              rw [← HXV.out] at hxj
              clear hxc
              have hx1 : w2.cell? ⟨g, 1, none⟩ = some (.slice (some ⟨gt, 0, none⟩) m.length cv) := (blk_cell HW2.out.hg 1).trans rfl
              have HIV := Aside0.mk (show field_Inverse.f p x = some ((invF p x).1, (invF p x).2) from inv_f HP.out HXF.out)
              have HIF := Aside0.mk (show inF p (invF p x).1 = true from invF_inF HP.out)
              obtain ⟨iv, hiv⟩ : ∃ iv, iv = (invF p x).1 := ⟨_, rfl⟩
              obtain ⟨ie, hie⟩ : ∃ ie, ie = (invF p x).2 := ⟨_, rfl⟩
              rw [← hiv, ← hie] at HIV
              rw [← hiv] at HIF
              have HIE := Aside0.mk hiv
              clear hiv hie
              go_upto_block 6 with (go_at_call 78; refine (field_Inverse.calls p x iv ie _ HIV.out).mono ?_; rintro e w' ⟨rfl, ⟨nd, rfl⟩⟩)
              go_cut [] (fun wc => Aside0 (WInv wc w.heap.size g p (.slice (some ⟨gt, 0, none⟩) m.length cv) (T1.set piv.length (scaleR p iv (T1.getD piv.length []))) (.slice Ap piv.length cp) piv d2) ∧ Aside0 (Below w.heap.size w wc))
              case first => as_aux_lemma =>
                go_wp2
                go_loopw [164] (fun v wr => ∃ k : Nat, k ≤ wd ∧ v = .int .i64 (k : Int) ∧ Aside0 (wr.cell? ⟨gt, piv.length, none⟩ = some (.slice (some ⟨gr, 0, none⟩) wd cr)) ∧ Aside0 (WInv wr w.heap.size g p (.slice (some ⟨gt, 0, none⟩) m.length cv) (T1.set piv.length (scaleK p iv k (T1.getD piv.length []))) (.slice Ap piv.length cp) piv d2) ∧ Aside0 (Below w.heap.size w wr)) (fun v _ => wd - (intOf v).toNat)
                case atStart => exact ⟨0, Nat.zero_le _, rfl, ⟨hxr⟩, by rw [scaleT_zero _ _ _ _ (by rw [HL1.out]; exact hrm)]; first | exact ⟨HW2.out.drewN _⟩ | exact HW2, by first | exact ⟨pw_below_drewN HB2.out _⟩ | exact HB2⟩
                case round =>
                  obtain ⟨k, hk, rfl, HXR, HWk, HBk⟩ := hrel
                  clear HW2 HB2 hx1 hxr hxj HIV
                  by_cases hlt : k < wd
                  · have hrl := HWI1.out.row _ hrm
                    obtain ⟨gr', cr', hgrb, hxr, hxc, hset⟩ := HWk.out.rowL piv.length (by rw [List.length_set, HL1.out]; exact hrm) (L := wd) (by rw [getD_set_self _ _ _ _ (by rw [HL1.out]; exact hrm), scaleK_length]; exact hrl) (by omega)
                    clear hrl
                    have eg := HXR.out.symm.trans hxr
                    cases eg
                    obtain ⟨hxk, hfk⟩ := hxc k hlt
                    rw [scaleT_at _ _ _ _ _ (by rw [HL1.out]; exact hrm)] at hxk
                    have hs1 := hset k (iv * cellAt T1 piv.length k % p)
                    rw [scaleT_step _ _ _ _ _ (by rw [HL1.out]; exact hrm)] at hs1
                    obtain ⟨y, hy⟩ : ∃ y, y = cellAt T1 piv.length k := ⟨_, rfl⟩
                    rw [← hy] at hxk hs1
                    have HS1 := Aside0.mk hs1
                    have HYF := Aside0.mk (show inF p y = true from by rw [hy]; exact HWI1.out.at HP.out _ _)
                    have hnk := cell_ne hxr hxk (by intro e; cases e)
                    have HNK := Aside0.mk hnk
                    clear hy hs1 hset hxc hnk HXR
                    have hx1 : wr.cell? ⟨g, 1, none⟩ = some (.slice (some ⟨gt, 0, none⟩) m.length cv) := (blk_cell HWk.out.hg 1).trans rfl
                    have hx1d : wr.drew.cell? ⟨g, 1, none⟩ = some (.slice (some ⟨gt, 0, none⟩) m.length cv) := hx1
                    have hxrd : wr.drew.cell? ⟨gt, piv.length, none⟩ = some (.slice (some ⟨gr, 0, none⟩) wd cr) := hxr
                    go_wp2
                    refine start_ (n := 14) (S := fun w' => w'.cell? ⟨g, 1, none⟩ = some (.slice (some ⟨gt, 0, none⟩) m.length cv) ∧ w'.cell? ⟨gt, piv.length, none⟩ = some (.slice (some ⟨gr, 0, none⟩) wd cr)) (ds := [13]) #[false, false, false, false, false, false, false, false, false, false, false, false, false, false] (by kernel_rfl) rfl rfl ⟨hx1d, hxrd⟩ (fun hHeld => ?_)
                    refine pure_ (i := 0) (N := some 169) (v := ?_) (a' := ?_) #[true, false, false, false, false, false, false, false, false, false, false, false, false, false] rfl rfl (by kernel_rfl) (fun _ _ _ h => h) (Or.inl ⟨by rfl, ?_⟩) ?_ ?_; rotate_left; (intro w'; go_simp; with_reducible rfl); rotate_left; (simp only [Act.put, List.setIfInBounds_toArray, List.set_cons_zero, List.set_cons_succ, i64_w, i32_w]; rfl)
                    refine pure_ (i := 1) (N := some 170) (v := ?_) (a' := ?_) #[true, true, false, false, false, false, false, false, false, false, false, false, false, false] rfl rfl (by kernel_rfl) (fun _ _ _ h => h) (Or.inl ⟨by rfl, ?_⟩) ?_ ?_; rotate_left; (intro w'; go_simp; with_reducible rfl); rotate_left; (simp only [Act.put, List.setIfInBounds_toArray, List.set_cons_zero, List.set_cons_succ, i64_w, i32_w]; rfl)
                    refine pure_ (i := 2) (N := some 171) (v := ?_) (a' := ?_) #[true, true, true, false, false, false, false, false, false, false, false, false, false, false] rfl rfl (by kernel_rfl) (fun _ _ _ h => h) (Or.inl ⟨by rfl, ?_⟩) ?_ ?_; rotate_left; (intro w'; go_simp; with_reducible rfl); rotate_left; (simp only [Act.put, List.setIfInBounds_toArray, List.set_cons_zero, List.set_cons_succ, i64_w, i32_w]; rfl)
                    refine pure_ (i := 4) (N := some 173) (v := ?_) (a' := ?_) #[true, true, true, false, true, false, false, false, false, false, false, false, false, false] rfl rfl (by kernel_rfl) (fun _ _ _ h => h) (Or.inl ⟨by rfl, ?_⟩) ?_ ?_; rotate_left; (intro w'; go_simp; with_reducible rfl); rotate_left; (simp only [Act.put, List.setIfInBounds_toArray, List.set_cons_zero, List.set_cons_succ, i64_w, i32_w]; rfl)
                    refine pure_ (i := 7) (N := some 176) (v := ?_) (a' := ?_) #[true, true, true, false, true, false, false, true, false, false, false, false, false, false] rfl rfl (by kernel_rfl) (fun _ _ _ h => h) (Or.inl ⟨by rfl, ?_⟩) ?_ ?_; rotate_left; (intro w'; go_simp; with_reducible rfl); rotate_left; (simp only [Act.put, List.setIfInBounds_toArray, List.set_cons_zero, List.set_cons_succ, i64_w, i32_w]; rfl)
                    refine pure_ (i := 8) (N := some 177) (v := ?_) (a' := ?_) #[true, true, true, false, true, false, false, true, true, false, false, false, false, false] rfl rfl (by kernel_rfl) (fun _ _ _ h => h) (Or.inl ⟨by rfl, ?_⟩) ?_ ?_; rotate_left; (intro w'; go_simp; with_reducible rfl); rotate_left; (simp only [Act.put, List.setIfInBounds_toArray, List.set_cons_zero, List.set_cons_succ, i64_w, i32_w]; rfl)
                    refine pure_ (i := 9) (N := some 178) (v := ?_) (a' := ?_) #[true, true, true, false, true, false, false, true, true, true, false, false, false, false] rfl rfl (by kernel_rfl) (fun _ _ _ h => h) (Or.inl ⟨by rfl, ?_⟩) ?_ ?_; rotate_left; (intro w'; go_simp; with_reducible rfl); rotate_left; (simp only [Act.put, List.setIfInBounds_toArray, List.set_cons_zero, List.set_cons_succ, i64_w, i32_w]; rfl)
                    refine pure_ (i := 10) (N := some 179) (v := ?_) (a' := ?_) #[true, true, true, false, true, false, false, true, true, true, true, false, false, false] rfl rfl (by kernel_rfl) (fun _ _ _ h => h) (Or.inl ⟨by rfl, ?_⟩) ?_ ?_; rotate_left; (intro w'; go_simp; with_reducible rfl); rotate_left; (simp only [Act.put, List.setIfInBounds_toArray, List.set_cons_zero, List.set_cons_succ, i64_w, i32_w]; rfl)
                    refine take_ (i := 3) (N := some 172) (v := ?_) (a' := ?_) #[true, true, true, true, true, false, false, true, true, true, true, false, false, false] rfl rfl (by kernel_rfl) (fun _ _ _ h => h) (Or.inl ⟨by rfl, ?_⟩) hHeld ?_ ?_; rotate_left; (rintro w' ⟨s0, s1⟩; go_simp; with_reducible rfl); rotate_left; (simp only [Act.put, List.setIfInBounds_toArray, List.set_cons_zero, List.set_cons_succ, i64_w, i32_w]; rfl)
                    refine pure_ (i := 5) (N := some 174) (v := ?_) (a' := ?_) #[true, true, true, true, true, true, false, true, true, true, true, false, false, false] rfl rfl (by kernel_rfl) (fun _ _ _ h => h) (Or.inl ⟨by rfl, ?_⟩) ?_ ?_; rotate_left; (intro w'; go_simp; with_reducible rfl); rotate_left; (simp only [Act.put, List.setIfInBounds_toArray, List.set_cons_zero, List.set_cons_succ, i64_w, i32_w]; rfl)
                    refine take_ (i := 6) (N := some 175) (v := ?_) (a' := ?_) #[true, true, true, true, true, true, true, true, true, true, true, false, false, false] rfl rfl (by kernel_rfl) (fun _ _ _ h => h) (Or.inl ⟨by rfl, ?_⟩) hHeld ?_ ?_; rotate_left; (rintro w' ⟨s0, s1⟩; go_simp; with_reducible rfl); rotate_left; (simp only [Act.put, List.setIfInBounds_toArray, List.set_cons_zero, List.set_cons_succ, i64_w, i32_w]; rfl)
                    refine one_ (i := 11) (N := some 180) #[true, true, true, true, true, true, true, true, true, true, true, true, false, false] rfl rfl (by kernel_rfl) (by decide) (fun K hK => ?_)
                    refine goes_ Try.func60 (by kernel_rfl) rfl #[.int .u64 p, .int .u64 iv, .int .u64 y] (by rfl) rfl rfl (by (try simp only [List.map_toArray, List.map_cons, List.map_nil]); first | done | rfl) ?_
                    refine (field_Mul.calls p iv y _ _ (mul_f HP.out HIF.out HYF.out)).mono ?_
                    rintro e w' ⟨rfl, ⟨nd11, rfl⟩⟩
                    refine ⟨_, rfl, ?_⟩
                    refine hK.out _ _ hHeld (fun hHeld => ?_)
                    clear hK K
                    refine norm_ (a' := ?_) ?_ ?_
                    rotate_left
                    · show Act.put _ (some 180) _ = _
                      simp only [Act.put, List.setIfInBounds_toArray, List.set_cons_zero, List.set_cons_succ]
                      rfl
                    refine pure_ (i := 12) (N := some 181) (v := ?_) (a' := ?_) #[true, true, true, true, true, true, true, true, true, true, true, true, true, false] rfl rfl (by kernel_rfl) (fun _ _ _ h => h) (Or.inl ⟨by rfl, ?_⟩) ?_ ?_; rotate_left; (intro w'; go_simp; with_reducible rfl); rotate_left; (simp only [Act.put, List.setIfInBounds_toArray, List.set_cons_zero, List.set_cons_succ, i64_w, i32_w]; rfl)
                    refine last_ (i := 13) (N := none) #[true, true, true, true, true, true, true, true, true, true, true, true, true, true] rfl rfl (by kernel_rfl) (by decide) (fun K hK => ?_)
                    refine skip_ (w1 := (wr.drew.drewN nd11).setCell ⟨gr, k, none⟩ (.int .u64 (iv * y % p))) (by rfl) rfl ?_ ?_
                    · go_simp
                    refine hK.out _ _ ?_
                    clear hK K
                    refine done_ (by kernel_rfl) ?_
                    go_wp2
                    go_roundw
                    case rel => exact ⟨k + 1, hlt, by go_num, ⟨(World.cell?_setCell_other _ _ _ _ (by first | exact HNK.out | exact HNK.out.symm)).trans hxr⟩, ⟨by first | exact HS1.out.drewN _ | exact HS1.out.drew.drewN _⟩, ⟨by first | exact (pw_below_drewN HBk.out _).setCell (p := ⟨gr, k, none⟩) hgrb _ | exact (pw_below_drewN (below_drew1 HBk.out) _).setCell (p := ⟨gr, k, none⟩) hgrb _⟩⟩
                    case measure => simp [intOf]; omega
                  · obtain rfl : k = wd := by omega
                    have HWe := Aside0.mk (show WInv wr w.heap.size g p (.slice (some ⟨gt, 0, none⟩) m.length cv) (T1.set piv.length (scaleR p iv (T1.getD piv.length []))) (.slice Ap piv.length cp) piv d2 from by
                      have h := HWk.out
                      rw [← HWI1.out.row _ hrm, scaleK_done] at h
                      exact h)
                    clear HWk
                    go_wp2
                    go_meet
                    case rel => exact ⟨HWe, HBk⟩
              case rest => as_aux_lemma =>
                obtain ⟨HW3, HB3⟩ := hcut
                clear hx1 hxr hxj HW2 HB2 HIV
                obtain ⟨T2, hT2⟩ : ∃ T2, T2 = T1.set piv.length (scaleR p iv (T1.getD piv.length [])) := ⟨_, rfl⟩
                obtain ⟨pr, hpr⟩ : ∃ pr, pr = scaleR p iv (T1.getD piv.length []) := ⟨_, rfl⟩
                rw [← hT2] at HW3
                rw [← hpr] at hT2
                have HT2 := Aside0.mk hT2
                have HPR := Aside0.mk hpr
                have HPL := Aside0.mk (show pr.length = wd from by rw [hpr]; unfold scaleR; rw [List.length_map]; exact HWI1.out.row _ hrm)
                have HWI2 := Aside0.mk (show Wide p m.length wd T2 from by rw [hT2]; exact HWI1.out.set HPL.out (by rw [hpr]; exact scaleR_allF HP.out _ _))
                have HL2 := Aside0.mk HWI2.out.len
                have HPA := Aside0.mk (show T2.getD piv.length [] = pr from by rw [hT2]; exact getD_set_self _ _ _ _ (by rw [HL1.out]; exact hrm))
                clear hT2 hpr
                have hx1 : wc.cell? ⟨g, 1, none⟩ = some (.slice (some ⟨gt, 0, none⟩) m.length cv) := (blk_cell HW3.out.hg 1).trans rfl
                go_upto_block 8 with (fail)
                go_cut [] (fun wc => Aside0 (WInv wc w.heap.size g p (.slice (some ⟨gt, 0, none⟩) m.length cv) (elimAll p j piv.length pr T2) (.slice Ap piv.length cp) piv d2) ∧ Aside0 (Below w.heap.size w wc))
                case first => as_aux_lemma =>
                  go_wp2
                  go_loopw [188] (fun v wr => ∃ i : Nat, i ≤ m.length ∧ v = .int .i64 (i : Int) ∧ Aside0 (WInv wr w.heap.size g p (.slice (some ⟨gt, 0, none⟩) m.length cv) (elimI p j piv.length pr i T2) (.slice Ap piv.length cp) piv d2) ∧ Aside0 (Below w.heap.size w wr)) (fun v _ => m.length - (intOf v).toNat)
                  case atStart => exact ⟨0, Nat.zero_le _, rfl, by rw [elimI_zero]; exact HW3, HB3⟩
                  case round =>
                    obtain ⟨i, hi, rfl, HWi, HBi⟩ := hrel
                    clear HW3 HB3 hx1
                    by_cases hlt : i < m.length
                    · have HWII := Aside0.mk (elimI_wide HP.out HWI2.out j piv.length pr HPL.out i)
                      obtain ⟨U, hU⟩ : ∃ U, U = elimI p j piv.length pr i T2 := ⟨_, rfl⟩
                      rw [← hU] at HWi HWII
                      have HU := Aside0.mk hU
                      have HUL := Aside0.mk HWII.out.len
                      have HUI := Aside0.mk (show U.getD i [] = T2.getD i [] from by rw [hU]; exact elimI_at _ _ _ _ _ _ _ (.inl (Nat.le_refl _)))
                      have HUR := Aside0.mk (show U.getD piv.length [] = pr from by rw [hU, elimI_at _ _ _ _ _ _ _ (.inr rfl)]; exact HPA.out)
                      clear hU
                      obtain ⟨gi, ci, hgib, hxi, hxci, _⟩ := HWi.out.rowL i (by rw [HUL.out]; exact hlt) (HWII.out.row _ hlt) (by omega)
                      by_cases e : i = piv.length
                      · have b0 : ((i : Int) == (piv.length : Int)) = true := beq_iff_eq.mpr (by omega)
                        have b1 : (decide ((i : Int) = (piv.length : Int))) = true := decide_eq_true (by omega)
                        have HE := Aside0.mk e
                        clear e hxci
                        go_wp2
                        go_roundw
                        case rel => exact ⟨i + 1, hlt, by go_num, by rw [elimI_skip _ _ _ _ _ _ (.inl HE.out), ← HU.out]; exact HWi, HBi⟩
                        case measure => simp [intOf]; omega
                      · have b0 : ((i : Int) == (piv.length : Int)) = false := beq_eq_false_iff_ne.mpr (by omega)
                        have HE := Aside0.mk e
                        clear e
                        obtain ⟨hxj, _⟩ := hxci j hjw
                        obtain ⟨y, hy⟩ : ∃ y, y = cellAt T2 i j := ⟨_, rfl⟩
                        rw [show cellAt U i j = y from by rw [hy]; unfold cellAt; rw [HUI.out]] at hxj
                        have HY := Aside0.mk hy
                        have HYF := Aside0.mk (show inF p y = true from by rw [hy]; exact HWI2.out.at HP.out _ _)
                        clear hy hxci
                        by_cases hy0 : y = 0
                        · subst hy0
                          go_wp2
                          go_roundw
                          case rel => exact ⟨i + 1, hlt, by go_num, by rw [elimI_skip _ _ _ _ _ _ (.inr HY.out.symm), ← HU.out]; exact HWi, HBi⟩
                          case measure => simp [intOf]; omega
                        · have b2 : (y == 0) = false := beq_eq_false_iff_ne.mpr hy0
                          have HY0 := Aside0.mk hy0
                          clear hy0
                          obtain ⟨gr, cr, _, hxr, _, _⟩ := HWi.out.rowL piv.length (by rw [HUL.out]; exact hrm) (HWII.out.row _ hrm) (by omega)
                          have hx1 : wr.cell? ⟨g, 1, none⟩ = some (.slice (some ⟨gt, 0, none⟩) m.length cv) := (blk_cell HWi.out.hg 1).trans rfl
                          go_wp2
                          go_loopw [215] (fun v wr => ∃ k : Nat, k ≤ wd ∧ v = .int .i64 (k : Int) ∧ Aside0 (wr.cell? ⟨gt, i, none⟩ = some (.slice (some ⟨gi, 0, none⟩) wd ci)) ∧ Aside0 (wr.cell? ⟨gt, piv.length, none⟩ = some (.slice (some ⟨gr, 0, none⟩) wd cr)) ∧ Aside0 (WInv wr w.heap.size g p (.slice (some ⟨gt, 0, none⟩) m.length cv) (U.set i (elimK p y pr k (T2.getD i []))) (.slice Ap piv.length cp) piv d2) ∧ Aside0 (Below w.heap.size w wr)) (fun v _ => wd - (intOf v).toNat)
                          case atStart => exact ⟨0, Nat.zero_le _, rfl, ⟨hxi⟩, ⟨hxr⟩, by rw [elimT_zero _ _ _ _ _ _ (by rw [HUL.out]; exact hlt) HUI.out]; exact HWi, HBi⟩
                          case round =>
                            obtain ⟨k, hk, rfl, HXI, HXR, HWk, HBk⟩ := hrel
                            clear HWi HBi hx1 hxr hxi hxj
                            by_cases hkt : k < wd
                            · have HTI := Aside0.mk (HWI2.out.row i hlt)
                              obtain ⟨gi', ci', hgib', hxi, hxc, hset⟩ := HWk.out.rowL i (by rw [List.length_set, HUL.out]; exact hlt) (L := wd) (by rw [getD_set_self _ _ _ _ (by rw [HUL.out]; exact hlt), elimK_length]; exact HTI.out) (by omega)
                              have eg := HXI.out.symm.trans hxi
                              cases eg
                              obtain ⟨gr', cr', _, hxr, hxd, _⟩ := HWk.out.rowL piv.length (by rw [List.length_set, HUL.out]; exact hrm) (L := wd) (by rw [getD_set_ne _ _ _ _ _ HE.out, HUR.out]; exact HPL.out) (by omega)
                              have eg := HXR.out.symm.trans hxr
                              cases eg
                              obtain ⟨hxk, hfk⟩ := hxc k hkt
                              obtain ⟨hxp, _⟩ := hxd k hkt
                              rw [elimT_at _ _ _ _ _ _ _ (by rw [HUL.out]; exact hlt)] at hxk
                              obtain ⟨b, hb⟩ : ∃ b, b = pr.getD k 0 := ⟨_, rfl⟩
                              obtain ⟨a, ha⟩ : ∃ a, a = cellAt T2 i k := ⟨_, rfl⟩
                              rw [show cellAt (U.set i (elimK p y pr k (T2.getD i []))) piv.length k = b from by unfold cellAt; rw [getD_set_ne _ _ _ _ _ HE.out, HUR.out, hb]] at hxp
                              have hs1 := hset k ((a - y * b % p) % p)
                              rw [ha, hb, elimT_step _ _ _ _ _ _ _ (by rw [HUL.out]; exact hlt), ← ha, ← hb] at hs1
                              rw [← ha] at hxk
                              obtain ⟨z, hz⟩ : ∃ z, z = y * b % p := ⟨_, rfl⟩
                              rw [← hz] at hs1
                              have HMZ := Aside0.mk (show field_Mul.f p y b = some z from by rw [hz]; exact mul_f HP.out HYF.out (show inF p b = true from by rw [hb, ← HPA.out]; exact HWI2.out.at HP.out _ _))
                              have HZF := Aside0.mk (show inF p z = true from by rw [hz]; exact inF_mod HP.out _)
                              have HS1 := Aside0.mk hs1
                              clear hz
                              have HAF := Aside0.mk (show inF p a = true from by rw [ha]; exact HWI2.out.at HP.out _ _)
                              have HNI := Aside0.mk (cell_ne hxi hxk (by intro e; cases e))
                              have HNR := Aside0.mk (cell_ne hxr hxk (by intro e; cases e))
                              have HXI' := Aside0.mk hxi
                              have HXR' := Aside0.mk hxr
                              clear ha hb hs1 hset hxc hxd HXI HXR hxi hxr
                              have hxkd : wr.drew.cell? ⟨gi, k, none⟩ = some (.int .u64 a) := hxk
                              go_wp2
                              refine start_ (n := 14) (S := fun w' => w'.cell? ⟨gi, k, none⟩ = some (.int .u64 a)) (ds := [13]) #[false, false, false, false, false, false, false, false, false, false, false, false, false, false] (by kernel_rfl) rfl rfl hxkd (fun hHeld => ?_)
                              refine pure_ (i := 0) (N := some 220) (v := ?_) (a' := ?_) #[true, false, false, false, false, false, false, false, false, false, false, false, false, false] rfl rfl (by kernel_rfl) (fun _ _ _ h => h) (Or.inl ⟨by rfl, ?_⟩) ?_ ?_; rotate_left; (intro w'; go_simp; with_reducible rfl); rotate_left; (simp only [Act.put, List.setIfInBounds_toArray, List.set_cons_zero, List.set_cons_succ, i64_w, i32_w]; rfl)
                              refine pure_ (i := 1) (N := some 221) (v := ?_) (a' := ?_) #[true, true, false, false, false, false, false, false, false, false, false, false, false, false] rfl rfl (by kernel_rfl) (fun _ _ _ h => h) (Or.inl ⟨by rfl, ?_⟩) ?_ ?_; rotate_left; (intro w'; go_simp; with_reducible rfl); rotate_left; (simp only [Act.put, List.setIfInBounds_toArray, List.set_cons_zero, List.set_cons_succ, i64_w, i32_w]; rfl)
                              refine pure_ (i := 2) (N := some 222) (v := ?_) (a' := ?_) #[true, true, true, false, false, false, false, false, false, false, false, false, false, false] rfl rfl (by kernel_rfl) (fun _ _ _ h => h) (Or.inl ⟨by rfl, ?_⟩) ?_ ?_; rotate_left; (intro w'; go_simp; with_reducible rfl); rotate_left; (simp only [Act.put, List.setIfInBounds_toArray, List.set_cons_zero, List.set_cons_succ, i64_w, i32_w]; rfl)
                              refine pure_ (i := 3) (N := some 223) (v := ?_) (a' := ?_) #[true, true, true, true, false, false, false, false, false, false, false, false, false, false] rfl rfl (by kernel_rfl) (fun _ _ _ h => h) (Or.inl ⟨by rfl, ?_⟩) ?_ ?_; rotate_left; (intro w'; go_simp; with_reducible rfl); rotate_left; (simp only [Act.put, List.setIfInBounds_toArray, List.set_cons_zero, List.set_cons_succ, i64_w, i32_w]; rfl)
                              refine pure_ (i := 4) (N := some 224) (v := ?_) (a' := ?_) #[true, true, true, true, true, false, false, false, false, false, false, false, false, false] rfl rfl (by kernel_rfl) (fun _ _ _ h => h) (Or.inl ⟨by rfl, ?_⟩) ?_ ?_; rotate_left; (intro w'; go_simp; with_reducible rfl); rotate_left; (simp only [Act.put, List.setIfInBounds_toArray, List.set_cons_zero, List.set_cons_succ, i64_w, i32_w]; rfl)
                              refine pure_ (i := 5) (N := some 225) (v := ?_) (a' := ?_) #[true, true, true, true, true, true, false, false, false, false, false, false, false, false] rfl rfl (by kernel_rfl) (fun _ _ _ h => h) (Or.inl ⟨by rfl, ?_⟩) ?_ ?_; rotate_left; (intro w'; go_simp; with_reducible rfl); rotate_left; (simp only [Act.put, List.setIfInBounds_toArray, List.set_cons_zero, List.set_cons_succ, i64_w, i32_w]; rfl)
                              refine pure_ (i := 7) (N := some 227) (v := ?_) (a' := ?_) #[true, true, true, true, true, true, false, true, false, false, false, false, false, false] rfl rfl (by kernel_rfl) (fun _ _ _ h => h) (Or.inl ⟨by rfl, ?_⟩) ?_ ?_; rotate_left; (intro w'; go_simp; with_reducible rfl); rotate_left; (simp only [Act.put, List.setIfInBounds_toArray, List.set_cons_zero, List.set_cons_succ, i64_w, i32_w]; rfl)
                              refine pure_ (i := 8) (N := some 228) (v := ?_) (a' := ?_) #[true, true, true, true, true, true, false, true, true, false, false, false, false, false] rfl rfl (by kernel_rfl) (fun _ _ _ h => h) (Or.inl ⟨by rfl, ?_⟩) ?_ ?_; rotate_left; (intro w'; go_simp; with_reducible rfl); rotate_left; (simp only [Act.put, List.setIfInBounds_toArray, List.set_cons_zero, List.set_cons_succ, i64_w, i32_w]; rfl)
                              refine pure_ (i := 9) (N := some 229) (v := ?_) (a' := ?_) #[true, true, true, true, true, true, false, true, true, true, false, false, false, false] rfl rfl (by kernel_rfl) (fun _ _ _ h => h) (Or.inl ⟨by rfl, ?_⟩) ?_ ?_; rotate_left; (intro w'; go_simp; with_reducible rfl); rotate_left; (simp only [Act.put, List.setIfInBounds_toArray, List.set_cons_zero, List.set_cons_succ, i64_w, i32_w]; rfl)
                              refine take_ (i := 6) (N := some 226) (v := ?_) (a' := ?_) #[true, true, true, true, true, true, true, true, true, true, false, false, false, false] rfl rfl (by kernel_rfl) (fun _ _ _ h => h) (Or.inl ⟨by rfl, ?_⟩) hHeld ?_ ?_; rotate_left; (intro w' s0; go_simp; with_reducible rfl); rotate_left; (simp only [Act.put, List.setIfInBounds_toArray, List.set_cons_zero, List.set_cons_succ, i64_w, i32_w]; rfl)
                              refine one_ (i := 10) (N := some 230) #[true, true, true, true, true, true, true, true, true, true, true, false, false, false] rfl rfl (by kernel_rfl) (by decide) (fun K hK => ?_)
                              refine goes_ Try.func60 (by kernel_rfl) rfl #[.int .u64 p, .int .u64 y, .int .u64 b] (by rfl) rfl rfl (by (try simp only [List.map_toArray, List.map_cons, List.map_nil]); first | done | rfl) ?_
                              refine (field_Mul.calls p y b z _ HMZ.out).mono ?_
                              rintro e w' ⟨rfl, ⟨nd10, rfl⟩⟩
                              refine ⟨_, rfl, ?_⟩
                              refine hK.out _ _ hHeld (fun hHeld => ?_)
                              clear hK K
                              refine norm_ (a' := ?_) ?_ ?_
                              rotate_left
                              · show Act.put _ (some 230) _ = _
                                simp only [Act.put, List.setIfInBounds_toArray, List.set_cons_zero, List.set_cons_succ]
                                rfl
                              refine one_ (i := 11) (N := some 231) #[true, true, true, true, true, true, true, true, true, true, true, true, false, false] rfl rfl (by kernel_rfl) (by decide) (fun K hK => ?_)
                              refine goes_ Try.func79 (by kernel_rfl) rfl #[.int .u64 p, .int .u64 a, .int .u64 z] (by rfl) rfl rfl (by (try simp only [List.map_toArray, List.map_cons, List.map_nil]); first | done | rfl) ?_
                              refine (field_Sub.calls p a z _ _ (sub_f HP.out HAF.out HZF.out)).mono ?_
                              rintro e w' ⟨rfl, ⟨nd11, rfl⟩⟩
                              refine ⟨_, rfl, ?_⟩
                              refine hK.out _ _ hHeld (fun hHeld => ?_)
                              clear hK K
                              refine norm_ (a' := ?_) ?_ ?_
                              rotate_left
                              · show Act.put _ (some 231) _ = _
                                simp only [Act.put, List.setIfInBounds_toArray, List.set_cons_zero, List.set_cons_succ]
                                rfl
                              refine pure_ (i := 12) (N := some 232) (v := ?_) (a' := ?_) #[true, true, true, true, true, true, true, true, true, true, true, true, true, false] rfl rfl (by kernel_rfl) (fun _ _ _ h => h) (Or.inl ⟨by rfl, ?_⟩) ?_ ?_; rotate_left; (intro w'; go_simp; with_reducible rfl); rotate_left; (simp only [Act.put, List.setIfInBounds_toArray, List.set_cons_zero, List.set_cons_succ, i64_w, i32_w]; rfl)
                              refine last_ (i := 13) (N := none) #[true, true, true, true, true, true, true, true, true, true, true, true, true, true] rfl rfl (by kernel_rfl) (by decide) (fun K hK => ?_)
                              refine skip_ (w1 := ((wr.drew.drewN nd10).drewN nd11).setCell ⟨gi, k, none⟩ (.int .u64 ((a - z) % p))) (by rfl) rfl ?_ ?_
                              · go_simp
                              refine hK.out _ _ ?_
                              clear hK K
                              refine done_ (by kernel_rfl) ?_
                              go_wp2
                              go_roundw
                              case rel => exact ⟨k + 1, hkt, by go_num, ⟨(World.cell?_setCell_other _ _ _ _ (by first | exact HNI.out | exact HNI.out.symm)).trans HXI'.out⟩, ⟨(World.cell?_setCell_other _ _ _ _ (by first | exact HNR.out | exact HNR.out.symm)).trans HXR'.out⟩, ⟨by first | exact HS1.out.drewN _ | exact (HS1.out.drewN _).drewN _ | exact (HS1.out.drew.drewN _).drewN _⟩, ⟨by first | exact (pw_below_drewN HBk.out _).setCell (p := ⟨gi, k, none⟩) hgib _ | exact (pw_below_drewN (pw_below_drewN HBk.out _) _).setCell (p := ⟨gi, k, none⟩) hgib _ | exact (pw_below_drewN (pw_below_drewN (below_drew1 HBk.out) _) _).setCell (p := ⟨gi, k, none⟩) hgib _⟩⟩
                              case measure => simp [intOf]; omega
                            · obtain rfl : k = wd := by omega
                              have HWe := Aside0.mk (show WInv wr w.heap.size g p (.slice (some ⟨gt, 0, none⟩) m.length cv) (elimI p j piv.length pr (i + 1) T2) (.slice Ap piv.length cp) piv d2 from by
                                have h := HWk.out
                                have e1 := HWI2.out.row i hlt
                                rw [← e1, elimK_done _ _ _ _ (HPL.out.trans e1.symm), HY.out, HU.out, elimI_step _ _ _ _ _ _ HE.out (by rw [← HY.out]; exact HY0.out)] at h
                                exact h)
                              clear HWk
                              go_wp2
                              go_roundw
                              case rel => exact ⟨i + 1, hlt, by go_num, HWe, HBk⟩
                              case measure => simp [intOf]; omega
                    · obtain rfl : i = m.length := by omega
                      have HWe := Aside0.mk (show WInv wr w.heap.size g p (.slice (some ⟨gt, 0, none⟩) m.length cv) (elimAll p j piv.length pr T2) (.slice Ap piv.length cp) piv d2 from by
                        have h := HWi.out
                        rw [← HL2.out, elimI_done] at h
                        rw [HL2.out] at h
                        exact h)
                      clear HWi
                      go_wp2
                      go_meet
                      case rel => exact ⟨HWe, HBi⟩
                case rest => as_aux_lemma =>
                  obtain ⟨HW4, HB4⟩ := hcut
                  clear HW3 HB3 hx1
                  have hx2 : wc.cell? ⟨g, 2, none⟩ = some (.slice Ap piv.length cp) := (blk_cell HW4.out.hg 2).trans rfl
                  go_wp2_with (first | ((with_reducible refine gate_builtin (b := .append) (xs := #[.tmp 239, .tmp 241]) rfl ?_); at_builtin; refine Kd.R_append (Kd.int .i64) (w0 := w) w.heap.size rfl (.tmp 239) (.tmp 241) 51 3 (.int .i64 0) 8 rfl Try.underlying51 rinfo3 rfl (by decide) (by omega) (.slice Ap piv.length cp) piv (j : Int) [.int .i64 (j : Int)] (fun _ => True) (fun _ => False) rfl rfl ?aP (fun _ hk => hk.elim) ?aF ?aO ?aB ?aS ?aL ?_; (case aP => exact rfl); (case aB => exact HB4.out); (case aF => exact (fun _ _ => trivial)); (case aO => exact HW4.out.hp); (case aS => exact below_size HB4.out); (case aL => omega); intro v251 w73 ho hb hg hat; obtain ⟨A251, c251, rfl⟩ := Kd.R_slice ho; obtain ⟨HWp, hfp, hxp⟩ := HW4.out.pushP hg ho; have HW5 := Aside0.mk HWp; have HB5 := Aside0.mk (hb.setCell (p := ⟨g, 2, none⟩) HW4.out.hb (.slice A251 (piv ++ [(j : Int)]).length c251)); rw [List.length_append, List.length_singleton] at HW5 HB5; clear ho hb hg hat HWp hx2))
                  go_roundg k1
                  case measure => omega
                  case rel =>
                    have e : redAll p m (j + 1) = (elimAll p j piv.length pr T2, piv ++ [(j : Int)], d2) := by
                      rw [redAll_succ, ← HS.out, redCol_some p T piv det j q (by rw [HTM.out]; exact HF.out) HT1.out HD1.out, ← HXV.out, ← HIE.out, ← HPR.out, ← HT2.out, ← HD2.out]
                    exact ⟨j + 1, _, hjn, by omega, by go_num, by rw [e]; exact HW5, HB5⟩
      · obtain rfl : j = n := by omega
        go_wp2
        go_ret
        exact ⟨g, _, pv, rfl, HWj.out, HBj.out⟩
end Go.Proofs.Ytkjknpibcbpdfaa
