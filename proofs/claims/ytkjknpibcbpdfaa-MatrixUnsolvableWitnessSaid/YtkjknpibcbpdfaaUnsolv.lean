/- The law MatrixUnsolvableWitness: the walk. -/
import Derived.Test.YtkjknpibcbpdfaaLaw6U
namespace Go.Proofs.Ytkjknpibcbpdfaa
open Go.RowKit Go.Proofs.YtkjknpibcbpdfaaW.PrintWords Go.Proofs.YtkjknpibcbpdfaaW.PrintLast Go.Proofs.YtkjknpibcbpdfaaW.PrintMore
set_option linter.unusedVariables false
set_option linter.unusedSimpArgs false

/-- A table of one's own, its rows as cells: what each row reads stays while the table grows. -/
theorem S_raw {W : World} {base : Nat} {ok : Nat → Prop} {v : Value} {t : List (List Int)} (h : Kd.S (Kd.slice 22 (Kd.int .u64)) 32 W base ok v t) :
    ∃ rows : List (List Value), rows.length = t.length ∧ Kd.R (Kd.raw 1) 32 W base ok v rows ∧ ∀ j, j < t.length → ∃ A' c', rows[j]? = some [.slice A' (t.getD j []).length c'] ∧ (t.getD j []).length ≤ c' ∧ ∀ w1, W.grownBy w1 v.ownBlock → Kd.C (Kd.int .u64) w1 A' (t.getD j []).length (t.getD j []) := by
  obtain ⟨h0, inner, ho, hr⟩ := Kd.S_R h
  have hlen : inner.length = t.length := by have := hr.1; rw [show (Kd.slice 22 (Kd.int .u64)).sz = 1 from rfl, Nat.mul_one] at this; exact this
  have cell1 : ∀ (l : List Value) (q : Nat) (hq : q < l.length), (l.drop (q * 1)).take 1 = [l[q]] := fun l q hq => by
    rw [Nat.mul_one, List.drop_eq_getElem_cons hq]; rfl
  have key : ∀ j (hj : j < t.length), ∃ A' c', inner[j]'(by omega) = .slice A' (t.getD j []).length c' ∧ (t.getD j []).length ≤ c' ∧ ∀ w1, W.grownBy w1 v.ownBlock → Kd.C (Kd.int .u64) w1 A' (t.getD j []).length (t.getD j []) := by
    intro j hj
    have h1 := hr.2 j _ (List.getElem?_eq_getElem hj)
    rw [show (Kd.slice 22 (Kd.int .u64)).sz = 1 from rfl, cell1 _ j (by omega)] at h1
    obtain ⟨u, hu, hR⟩ := h1
    rw [← getD_row hj] at hR
    obtain ⟨A', c', rfl⟩ := Kd.R_slice hR
    refine ⟨A', c', (List.cons.inj hu).1, (Kd.R_reads' hR).2.1, fun w1 hg => ?_⟩
    have hB := Kd.R_move (w1 := w1) (Kd.R_bound hR) (fun k hk => hg.block k hk.2.2.1 hk.1.2)
    exact (Kd.R_reads' hB).2.2
  refine ⟨inner.map fun u => [u], by rw [List.length_map]; exact hlen, ⟨h0, inner, ?_, ?_, fun j x hx => ?_⟩, fun j hj => ?_⟩
  · rw [List.length_map, hlen]; exact ho
  · rw [List.length_map]; show inner.length = inner.length * 1; omega
  · rw [List.getElem?_map] at hx
    obtain ⟨u, hu, rfl⟩ := Option.map_eq_some_iff.1 hx
    obtain ⟨hj, rfl⟩ := List.getElem?_eq_some_iff.1 hu
    show _ = [inner[j]] ∧ _
    rw [show (Kd.raw 1).sz = 1 from rfl, cell1 _ j hj]
    refine ⟨rfl, rfl, fun u hu => ?_⟩
    obtain ⟨A', c', e, _, _⟩ := key j (by omega)
    rw [List.mem_singleton.1 hu, e]
    rfl
  · obtain ⟨A', c', e, h1, h2⟩ := key j hj
    refine ⟨A', c', ?_, h1, h2⟩
    rw [List.getElem?_map, List.getElem?_eq_getElem (by omega), e]
    rfl
/-- The table with a row behind it that came in, read. -/
theorem C_came {W1 : World} {base : Nat} {ok : Nat → Prop} {A : Option Addr} {n c : Nat} {t : List (List Int)} {b : List Int} {rows : List (List Value)} {A2 : Option Addr} {c2 : Nat}
    (hR : Kd.R (Kd.raw 1) 32 W1 base ok (.slice A n c) (rows ++ [[.slice A2 b.length c2]])) (hl : rows.length = t.length) (hrows : ∀ j, j < t.length → ∃ A' c', rows[j]? = some [.slice A' (t.getD j []).length c'] ∧ (t.getD j []).length ≤ c' ∧ Kd.C (Kd.int .u64) W1 A' (t.getD j []).length (t.getD j []))
    (hb : Kd.C (Kd.int .u64) W1 A2 b.length b) (hc2 : b.length ≤ c2) : n = (t ++ [b]).length ∧ (t ++ [b]).length ≤ c ∧ Kd.C (Kd.slice 22 (Kd.int .u64)) W1 A (t ++ [b]).length (t ++ [b]) := by
  obtain ⟨h1, h2, h3⟩ := Kd.R_reads' hR
  have e : (rows ++ [[Value.slice A2 b.length c2]]).length = (t ++ [b]).length := by simp [hl]
  rw [e] at h1 h3
  refine ⟨h1, by omega, ⟨rfl, h3.2.1, fun hp => ?_⟩⟩
  obtain ⟨ad, ea, h4⟩ := h3.2.2 hp
  refine ⟨ad, ea, fun j x hx => ?_⟩
  have hj : j < (t ++ [b]).length := (List.getElem?_eq_some_iff.1 hx).1
  by_cases hjt : j < t.length
  · obtain ⟨A', c', r1, r2, r3⟩ := hrows j hjt
    have ex : x = t.getD j [] := by
      rw [List.getElem?_append_left hjt, List.getElem?_eq_getElem hjt] at hx
      rw [getD_row hjt]
      exact (Option.some.inj hx).symm
    obtain ⟨cs, _, hK, hcell⟩ := h4 j _ (by rw [List.getElem?_append_left (by omega)]; exact r1)
    obtain rfl := hK.1
    rw [ex]
    exact ⟨_, rfl, ⟨A', c', rfl, r2, r3⟩, hcell⟩
  · have hjl : j = t.length := by simp at hj; omega
    have ex : x = b := by
      rw [List.getElem?_append_right (by omega), hjl, Nat.sub_self] at hx
      exact (Option.some.inj hx).symm
    obtain ⟨cs, _, hK, hcell⟩ := h4 j [.slice A2 b.length c2] (by rw [List.getElem?_append_right (by omega), show j - rows.length = 0 by omega]; rfl)
    obtain rfl := hK.1
    rw [ex]
    exact ⟨_, rfl, ⟨A2, c2, rfl, hc2, hb⟩, hcell⟩

section
variable (p : Int) (A1 : Option Addr) (c1 : Nat) (m : List (List Int)) (A2 : Option Addr) (c2 : Nat) (b : List Int) (w : World) (hr1 : Kd.C (Kd.slice 22 (Kd.int .u64)) w A1 m.length m) (hc1 : m.length ≤ c1) (hr2 : Kd.C (Kd.int .u64) w A2 b.length b) (hc2 : b.length ≤ c2)
include hr1 hc1 hr2 hc2
set_option maxHeartbeats 4000000 in
set_option maxRecDepth 100000 in
theorem uns_fair (k1 : Nat) (h1 : M.privityref06_Fair.f k1 p m 8 = some false) (k3 : Nat) (h3 : M.privitylaw06_awake.f k3 = some true) :
    Calls Try.prog 6 #[.int .u64 p, .slice A1 m.length c1, .slice A2 b.length c2] w fun e w' => e = .returned (.bool true) ∧ Below w.heap.size w w' := by
  have HR1 := Aside0.mk hr1
  have HC1 := Aside0.mk hc1
  have HR2 := Aside0.mk hr2
  have HC2 := Aside0.mk hc2
  clear hr1 hc1 hr2 hc2
  have HB := Aside0.mk (Below.refl w.heap.size w)
  have K1 := Aside0.mk h1
  clear h1
  have K3 := Aside0.mk h3
  clear h3
  go_enter Try.func6, Try.ntmps6
  go_wp2_with (first | (go_at_call 13; (with_reducible refine (M.privityref06_Fair.calls k1 p _ _ m 8 false _ ?side1 ?side2 K1.out).mono ?_); (case side1 => repeat (first | exact (Kd.C_below HR1.out HB.out) | (with_reducible refine Kd.C_alloc ?_ _) | (with_reducible refine Kd.C_drewN ?_ _) | (with_reducible refine Kd.C_drew ?_))); (case side2 => exact HC1.out); rintro e w' ⟨rfl, hb⟩; have n0_ := Aside0.mk (below_step (by repeat (first | (with_reducible first | exact HB.out | apply below_alloc | apply pw_below_drewN | apply below_drew1) | exact HB.out)) hb); clear HB; have HB := n0_; clear n0_; clear hb) | (go_at_call 14; (with_reducible refine (M.privitylaw06_awake.calls k3 true _ K3.out).mono ?_); rintro e w' ⟨rfl, hb⟩; have n0_ := Aside0.mk (below_step (by repeat (first | (with_reducible first | exact HB.out | apply below_alloc | apply pw_below_drewN | apply below_drew1) | exact HB.out)) hb); clear HB; have HB := n0_; clear n0_; clear hb))
  go_ret
  exact ⟨rfl, (by repeat (first | (with_reducible first | exact HB.out | apply below_alloc | apply pw_below_drewN | apply below_drew1) | exact HB.out))⟩
set_option maxHeartbeats 4000000 in
set_option maxRecDepth 100000 in
theorem uns_below (k1 : Nat) (h1 : M.privityref06_Fair.f k1 p m 8 = some true) (k2 : Nat) (h2 : M.privityref06_Below.f k2 p b 8 = some false) (k3 : Nat) (h3 : M.privitylaw06_awake.f k3 = some true) :
    Calls Try.prog 6 #[.int .u64 p, .slice A1 m.length c1, .slice A2 b.length c2] w fun e w' => e = .returned (.bool true) ∧ Below w.heap.size w w' := by
  have HR1 := Aside0.mk hr1
  have HC1 := Aside0.mk hc1
  have HR2 := Aside0.mk hr2
  have HC2 := Aside0.mk hc2
  clear hr1 hc1 hr2 hc2
  have HB := Aside0.mk (Below.refl w.heap.size w)
  have K1 := Aside0.mk h1
  clear h1
  have K2 := Aside0.mk h2
  clear h2
  have K3 := Aside0.mk h3
  clear h3
  go_enter Try.func6, Try.ntmps6
  go_wp2_with (first | (go_at_call 13; (with_reducible refine (M.privityref06_Fair.calls k1 p _ _ m 8 true _ ?side1 ?side2 K1.out).mono ?_); (case side1 => repeat (first | exact (Kd.C_below HR1.out HB.out) | (with_reducible refine Kd.C_alloc ?_ _) | (with_reducible refine Kd.C_drewN ?_ _) | (with_reducible refine Kd.C_drew ?_))); (case side2 => exact HC1.out); rintro e w' ⟨rfl, hb⟩; have n0_ := Aside0.mk (below_step (by repeat (first | (with_reducible first | exact HB.out | apply below_alloc | apply pw_below_drewN | apply below_drew1) | exact HB.out)) hb); clear HB; have HB := n0_; clear n0_; clear hb) | (go_at_call 19; (with_reducible refine (M.privityref06_Below.calls k2 p _ _ b 8 false _ ?side3 ?side4 K2.out).mono ?_); (case side3 => repeat (first | exact (Kd.C_below HR2.out HB.out) | (with_reducible refine Kd.C_alloc ?_ _) | (with_reducible refine Kd.C_drewN ?_ _) | (with_reducible refine Kd.C_drew ?_))); (case side4 => exact HC2.out); rintro e w' ⟨rfl, ⟨nd, rfl⟩⟩; skip) | (go_at_call 14; (with_reducible refine (M.privitylaw06_awake.calls k3 true _ K3.out).mono ?_); rintro e w' ⟨rfl, hb⟩; have n0_ := Aside0.mk (below_step (by repeat (first | (with_reducible first | exact HB.out | apply below_alloc | apply pw_below_drewN | apply below_drew1) | exact HB.out)) hb); clear HB; have HB := n0_; clear n0_; clear hb))
  go_ret
  exact ⟨rfl, (by repeat (first | (with_reducible first | exact HB.out | apply below_alloc | apply pw_below_drewN | apply below_drew1) | exact HB.out))⟩
set_option maxHeartbeats 4000000 in
set_option maxRecDepth 100000 in
theorem uns_arg (k1 : Nat) (h1 : M.privityref06_Fair.f k1 p m 8 = some true) (k2 : Nat) (h2 : M.privityref06_Below.f k2 p b 8 = some true) (k3 : Nat) (h3 : M.privitylaw06_awake.f k3 = some true) (x : List Int) (code : Int) (hcode : code = 1) (h4 : matrix_Solve.f p m b = some (x, code)) :
    Calls Try.prog 6 #[.int .u64 p, .slice A1 m.length c1, .slice A2 b.length c2] w fun e w' => e = .returned (.bool true) ∧ Below w.heap.size w w' := by
  have HR1 := Aside0.mk hr1
  have HC1 := Aside0.mk hc1
  have HR2 := Aside0.mk hr2
  have HC2 := Aside0.mk hc2
  clear hr1 hc1 hr2 hc2
  have HB := Aside0.mk (Below.refl w.heap.size w)
  have K1 := Aside0.mk h1
  clear h1
  have K2 := Aside0.mk h2
  clear h2
  have K3 := Aside0.mk h3
  clear h3
  have K4 := Aside0.mk h4
  clear h4
  subst hcode
  go_enter Try.func6, Try.ntmps6
  go_wp2_with (first | (go_at_call 13; (with_reducible refine (M.privityref06_Fair.calls k1 p _ _ m 8 true _ ?side1 ?side2 K1.out).mono ?_); (case side1 => repeat (first | exact (Kd.C_below HR1.out HB.out) | (with_reducible refine Kd.C_alloc ?_ _) | (with_reducible refine Kd.C_drewN ?_ _) | (with_reducible refine Kd.C_drew ?_))); (case side2 => exact HC1.out); rintro e w' ⟨rfl, hb⟩; have n0_ := Aside0.mk (below_step (by repeat (first | (with_reducible first | exact HB.out | apply below_alloc | apply pw_below_drewN | apply below_drew1) | exact HB.out)) hb); clear HB; have HB := n0_; clear n0_; clear hb) | (go_at_call 19; (with_reducible refine (M.privityref06_Below.calls k2 p _ _ b 8 true _ ?side3 ?side4 K2.out).mono ?_); (case side3 => repeat (first | exact (Kd.C_below HR2.out HB.out) | (with_reducible refine Kd.C_alloc ?_ _) | (with_reducible refine Kd.C_drewN ?_ _) | (with_reducible refine Kd.C_drew ?_))); (case side4 => exact HC2.out); rintro e w' ⟨rfl, ⟨nd, rfl⟩⟩; skip) | (go_at_call 14; (with_reducible refine (M.privitylaw06_awake.calls k3 true _ K3.out).mono ?_); rintro e w' ⟨rfl, hb⟩; have n0_ := Aside0.mk (below_step (by repeat (first | (with_reducible first | exact HB.out | apply below_alloc | apply pw_below_drewN | apply below_drew1) | exact HB.out)) hb); clear HB; have HB := n0_; clear n0_; clear hb) | (go_at_call 20; (with_reducible refine (matrix_Solve.calls p _ _ m _ _ b x 1 _ ?side5 ?side6 ?side7 ?side8 K4.out).mono ?_); (case side5 => repeat (first | exact (Kd.C_below HR1.out HB.out) | (with_reducible refine Kd.C_alloc ?_ _) | (with_reducible refine Kd.C_drewN ?_ _) | (with_reducible refine Kd.C_drew ?_))); (case side6 => exact HC1.out); (case side7 => repeat (first | exact (Kd.C_below HR2.out HB.out) | (with_reducible refine Kd.C_alloc ?_ _) | (with_reducible refine Kd.C_drewN ?_ _) | (with_reducible refine Kd.C_drew ?_))); (case side8 => exact HC2.out); rintro e w' ⟨vx, rfl, ho, hb⟩; obtain ⟨Ax, cx, rfl⟩ := Kd.R_slice ho; have HX := Aside0.mk (Kd.R_reads' ho).2.2; have HXc := Aside0.mk (Kd.R_reads' ho).2.1; have n0_ := Aside0.mk (below_step (by repeat (first | (with_reducible first | exact HB.out | apply below_alloc | apply pw_below_drewN | apply below_drew1) | exact HB.out)) hb); clear HB; have HB := n0_; clear n0_; clear ho hb))
  go_ret
  exact ⟨rfl, (by repeat (first | (with_reducible first | exact HB.out | apply below_alloc | apply pw_below_drewN | apply below_drew1) | exact HB.out))⟩
set_option maxHeartbeats 4000000 in
set_option maxRecDepth 100000 in
theorem uns_ok (k1 : Nat) (h1 : M.privityref06_Fair.f k1 p m 8 = some true) (k2 : Nat) (h2 : M.privityref06_Below.f k2 p b 8 = some true) (k3 : Nat) (h3 : M.privitylaw06_awake.f k3 = some true) (x : List Int) (code : Int) (hcode : code = 0) (h4 : matrix_Solve.f p m b = some (x, code)) (k5 : Nat) (h5 : M.matrix_Apply.f k5 p m x = some (b, 0)) (k6 : Nat) (h6 : M.privityref06_SameList.f k6 b b = some true) :
    Calls Try.prog 6 #[.int .u64 p, .slice A1 m.length c1, .slice A2 b.length c2] w fun e w' => e = .returned (.bool true) ∧ Below w.heap.size w w' := by
  have HR1 := Aside0.mk hr1
  have HC1 := Aside0.mk hc1
  have HR2 := Aside0.mk hr2
  have HC2 := Aside0.mk hc2
  clear hr1 hc1 hr2 hc2
  have HB := Aside0.mk (Below.refl w.heap.size w)
  have K1 := Aside0.mk h1
  clear h1
  have K2 := Aside0.mk h2
  clear h2
  have K3 := Aside0.mk h3
  clear h3
  have K4 := Aside0.mk h4
  clear h4
  have K5 := Aside0.mk h5
  clear h5
  have K6 := Aside0.mk h6
  clear h6
  subst hcode
  go_enter Try.func6, Try.ntmps6
  go_wp2_with (first | (go_at_call 13; (with_reducible refine (M.privityref06_Fair.calls k1 p _ _ m 8 true _ ?side1 ?side2 K1.out).mono ?_); (case side1 => repeat (first | exact (Kd.C_below HR1.out HB.out) | (with_reducible refine Kd.C_alloc ?_ _) | (with_reducible refine Kd.C_drewN ?_ _) | (with_reducible refine Kd.C_drew ?_))); (case side2 => exact HC1.out); rintro e w' ⟨rfl, hb⟩; have n0_ := Aside0.mk (below_step (by repeat (first | (with_reducible first | exact HB.out | apply below_alloc | apply pw_below_drewN | apply below_drew1) | exact HB.out)) hb); clear HB; have HB := n0_; clear n0_; clear hb) | (go_at_call 19; (with_reducible refine (M.privityref06_Below.calls k2 p _ _ b 8 true _ ?side3 ?side4 K2.out).mono ?_); (case side3 => repeat (first | exact (Kd.C_below HR2.out HB.out) | (with_reducible refine Kd.C_alloc ?_ _) | (with_reducible refine Kd.C_drewN ?_ _) | (with_reducible refine Kd.C_drew ?_))); (case side4 => exact HC2.out); rintro e w' ⟨rfl, ⟨nd, rfl⟩⟩; skip) | (go_at_call 20; (with_reducible refine (matrix_Solve.calls p _ _ m _ _ b x 0 _ ?side5 ?side6 ?side7 ?side8 K4.out).mono ?_); (case side5 => repeat (first | exact (Kd.C_below HR1.out HB.out) | (with_reducible refine Kd.C_alloc ?_ _) | (with_reducible refine Kd.C_drewN ?_ _) | (with_reducible refine Kd.C_drew ?_))); (case side6 => exact HC1.out); (case side7 => repeat (first | exact (Kd.C_below HR2.out HB.out) | (with_reducible refine Kd.C_alloc ?_ _) | (with_reducible refine Kd.C_drewN ?_ _) | (with_reducible refine Kd.C_drew ?_))); (case side8 => exact HC2.out); rintro e w' ⟨vx, rfl, ho, hb⟩; obtain ⟨Ax, cx, rfl⟩ := Kd.R_slice ho; have HX := Aside0.mk (Kd.R_reads' ho).2.2; have HXc := Aside0.mk (Kd.R_reads' ho).2.1; have n0_ := Aside0.mk (below_step (by repeat (first | (with_reducible first | exact HB.out | apply below_alloc | apply pw_below_drewN | apply below_drew1) | exact HB.out)) hb); clear HB; have HB := n0_; clear n0_; clear ho hb) | (go_at_call 26; (with_reducible refine (M.matrix_Apply.calls k5 p _ _ m _ _ x b 0 _ ?side9 ?side10 ?side11 ?side12 K5.out).mono ?_); (case side9 => repeat (first | exact (Kd.C_below HR1.out HB.out) | (with_reducible refine Kd.C_alloc ?_ _) | (with_reducible refine Kd.C_drewN ?_ _) | (with_reducible refine Kd.C_drew ?_))); (case side10 => exact HC1.out); (case side11 => exact HX.out); (case side12 => exact HXc.out); rintro e w' ⟨vy, rfl, ho, hb⟩; obtain ⟨Ay, cy, rfl⟩ := Kd.R_slice ho; have HY := Aside0.mk (Kd.R_reads' ho).2.2; have HYc := Aside0.mk (Kd.R_reads' ho).2.1; have n0_ := Aside0.mk (below_step (by repeat (first | (with_reducible first | exact HB.out | apply below_alloc | apply pw_below_drewN | apply below_drew1) | exact HB.out)) hb); clear HB; have HB := n0_; clear n0_; clear ho hb) | (go_at_call 14; (with_reducible refine (M.privitylaw06_awake.calls k3 true _ K3.out).mono ?_); rintro e w' ⟨rfl, hb⟩; have HY' := Aside0.mk (Kd.C_below HY.out hb); clear HY; have HY := HY'; clear HY'; have n0_ := Aside0.mk (below_step (by repeat (first | (with_reducible first | exact HB.out | apply below_alloc | apply pw_below_drewN | apply below_drew1) | exact HB.out)) hb); clear HB; have HB := n0_; clear n0_; clear hb) | (go_at_call 22; (with_reducible refine (M.privityref06_SameList.calls k6 _ _ b _ _ b true _ ?side13 ?side14 ?side15 ?side16 K6.out).mono ?_); (case side13 => exact HY.out); (case side14 => exact HYc.out); (case side15 => repeat (first | exact (Kd.C_below HR2.out HB.out) | (with_reducible refine Kd.C_alloc ?_ _) | (with_reducible refine Kd.C_drewN ?_ _) | (with_reducible refine Kd.C_drew ?_))); (case side16 => exact HC2.out); rintro e w' ⟨rfl, ⟨nd2, rfl⟩⟩; skip))
  go_ret
  exact ⟨rfl, (by repeat (first | (with_reducible first | exact HB.out | apply below_alloc | apply pw_below_drewN | apply below_drew1) | exact HB.out))⟩
set_option maxHeartbeats 4000000 in
set_option maxRecDepth 100000 in
theorem uns_not (k1 : Nat) (h1 : M.privityref06_Fair.f k1 p m 8 = some true) (k2 : Nat) (h2 : M.privityref06_Below.f k2 p b 8 = some true) (k3 : Nat) (h3 : M.privitylaw06_awake.f k3 = some true) (x : List Int) (code : Int) (hcode : code = 6) (h4 : matrix_Solve.f p m b = some (x, code)) (k5 : Nat) (h5 : M.privityref06_Turn.f k5 m = some (turnS m)) (hm0 : 0 < m.length) (hml : m.length ≤ 1000) (hwl : (m.headD []).length ≤ 1000) (hrect : rectB m = true) (y : List Int) (h7 : matrix_Solve.f p (sysU m b) (wantU (sysU m b).length) = some (y, 0)) (k8 : Nat) (h8 : M.privityref06_Dot.f k8 p y b = some 1) (hwd : 0 < (m.headD []).length) :
    Calls Try.prog 6 #[.int .u64 p, .slice A1 m.length c1, .slice A2 b.length c2] w fun e w' => e = .returned (.bool true) ∧ Below w.heap.size w w' := by
  have HR1 := Aside0.mk hr1
  have HC1 := Aside0.mk hc1
  have HR2 := Aside0.mk hr2
  have HC2 := Aside0.mk hc2
  clear hr1 hc1 hr2 hc2
  have HB := Aside0.mk (Below.refl w.heap.size w)
  have K1 := Aside0.mk h1
  clear h1
  have K2 := Aside0.mk h2
  clear h2
  have K3 := Aside0.mk h3
  clear h3
  have K4 := Aside0.mk h4
  clear h4
  have K5 := Aside0.mk h5
  clear h5
  have K7 := Aside0.mk h7
  have K8 := Aside0.mk h8
  clear h7 h8
  subst hcode
  obtain ⟨L, hL⟩ : ∃ L, L = (sysU m b).length := ⟨_, rfl⟩
  have hL1 : L = (m.headD []).length + 1 := by rw [hL]; exact sysU_length m b
  have hL2 : 0 < L := by omega
  have hL3 : L ≤ 1001 := by omega
  have HLL := Aside0.mk hL.symm
  obtain ⟨wd, hwdE⟩ : ∃ wd, wd = (m.headD []).length := ⟨_, rfl⟩
  have HRC := Aside0.mk ((rect_row hrect (i := 0) hm0).trans hwdE.symm)
  have HTL := Aside0.mk ((turnS_length m).trans hwdE.symm)
  rw [← hwdE] at hwl hwd
  clear hL hL1 hrect hwdE
  go_enter Try.func6, Try.ntmps6
  go_upto_region 10 with (first | (go_at_call 13; (with_reducible refine (M.privityref06_Fair.calls k1 p _ _ m 8 true _ ?side1 ?side2 K1.out).mono ?_); (case side1 => repeat (first | exact (Kd.C_below HR1.out HB.out) | (with_reducible refine Kd.C_alloc ?_ _) | (with_reducible refine Kd.C_drewN ?_ _) | (with_reducible refine Kd.C_drew ?_))); (case side2 => exact HC1.out); rintro e w' ⟨rfl, hb⟩; have n0_ := Aside0.mk (below_step (by repeat (first | (with_reducible first | exact HB.out | apply below_alloc | apply pw_below_drewN | apply below_drew1) | exact HB.out)) hb); clear HB; have HB := n0_; clear n0_; clear hb) | (go_at_call 19; (with_reducible refine (M.privityref06_Below.calls k2 p _ _ b 8 true _ ?side3 ?side4 K2.out).mono ?_); (case side3 => repeat (first | exact (Kd.C_below HR2.out HB.out) | (with_reducible refine Kd.C_alloc ?_ _) | (with_reducible refine Kd.C_drewN ?_ _) | (with_reducible refine Kd.C_drew ?_))); (case side4 => exact HC2.out); rintro e w' ⟨rfl, ⟨nd, rfl⟩⟩; skip) | (go_at_call 20; (with_reducible refine (matrix_Solve.calls p _ _ m _ _ b x 6 _ ?side5 ?side6 ?side7 ?side8 K4.out).mono ?_); (case side5 => repeat (first | exact (Kd.C_below HR1.out HB.out) | (with_reducible refine Kd.C_alloc ?_ _) | (with_reducible refine Kd.C_drewN ?_ _) | (with_reducible refine Kd.C_drew ?_))); (case side6 => exact HC1.out); (case side7 => repeat (first | exact (Kd.C_below HR2.out HB.out) | (with_reducible refine Kd.C_alloc ?_ _) | (with_reducible refine Kd.C_drewN ?_ _) | (with_reducible refine Kd.C_drew ?_))); (case side8 => exact HC2.out); rintro e w' ⟨vx, rfl, ho, hb⟩; obtain ⟨Ax, cx, rfl⟩ := Kd.R_slice ho; have HX := Aside0.mk (Kd.R_reads' ho).2.2; have HXc := Aside0.mk (Kd.R_reads' ho).2.1; have n0_ := Aside0.mk (below_step (by repeat (first | (with_reducible first | exact HB.out | apply below_alloc | apply pw_below_drewN | apply below_drew1) | exact HB.out)) hb); clear HB; have HB := n0_; clear n0_; clear ho hb) | (go_at_call 29; (with_reducible refine (M.privityref06_Turn.calls k5 _ _ m (turnS m) _ ?side9 ?side10 K5.out).mono ?_); (case side9 => repeat (first | exact (Kd.C_below HR1.out HB.out) | (with_reducible refine Kd.C_alloc ?_ _) | (with_reducible refine Kd.C_drewN ?_ _) | (with_reducible refine Kd.C_drew ?_))); (case side10 => exact HC1.out); rintro e w' ⟨vt, rfl, ho, hb⟩; have HT := Aside0.mk ho; have HBT := Aside0.mk hb; have HB0 := HB; have n0_ := Aside0.mk (below_step (by repeat (first | (with_reducible first | exact HB.out | apply below_alloc | apply pw_below_drewN | apply below_drew1) | exact HB.out)) hb); clear HB; have HB := n0_; clear n0_; clear ho hb))
  have hC := Kd.C_below HR1.out HB.out
  obtain ⟨ad, A0, c0, eA, hx0, _, _⟩ := row_at2 hC 0 (by omega) (by omega)
  cases eA
  rw [show (0 : Int).toNat = 0 from rfl, Addr.add_zero', HRC.out] at hx0
  clear hC
  have hd0 : decide ((m.length : Int) > 0) = true := decide_eq_true (by omega)
  have hd1 : decide (0 < m.length) = true := decide_eq_true hm0
  have hwb : ((wd : Int) == 0) = false := beq_eq_false_iff_ne.mpr (by omega)
  obtain ⟨rows, hrl, hraw, hrows⟩ := S_raw HT.out
  obtain ⟨At, ct, rfl⟩ := Kd.S_slice HT.out
  have HRL := Aside0.mk hrl
  have HROWS := Aside0.mk (show ∀ j, j < (turnS m).length → ∀ w1, _ → ∃ A' c', rows[j]? = some [.slice A' ((turnS m).getD j []).length c'] ∧ ((turnS m).getD j []).length ≤ c' ∧ Kd.C (Kd.int .u64) w1 A' ((turnS m).getD j []).length ((turnS m).getD j []) from fun j hj w1 hg => by obtain ⟨A', c', h1, h2, h3⟩ := hrows j hj; exact ⟨A', c', h1, h2, h3 w1 hg⟩)
  have HRAW := Aside0.mk hraw
  have hrl2 : rows.length ≤ 1000 := by rw [hrl, HTL.out]; exact hwl
  clear hrl hraw hrows
  go_upto_region 15 with (first | ((with_reducible refine gate_builtin (b := .append) (xs := #[.tmp 67, .tmp 69]) rfl ?_); at_builtin; refine Kd.R_append (Kd.raw 1) _ rfl (.tmp 67) (.tmp 69) 23 32 (.slice none 0 0) 24 rfl Try.underlying23 rinfo32 rfl (by decide) (by omega) (.slice At (turnS m).length ct) rows [.slice A2 b.length c2] [.slice A2 b.length c2] (fun _ => True) (fun _ => False) rfl rfl ?aP (fun _ hk => hk.elim) ?aF ?aO HBT.out ?aS ?aL ?_; (case aP => exact ⟨rfl, rfl, fun u hu => by rw [List.mem_singleton.1 hu]; rfl⟩); (case aF => exact fun _ _ => trivial); (case aO => exact HRAW.out); (case aS => exact HBT.out.size); (case aL => omega); intro v1 w1 ho hb1 hg hat; obtain ⟨Av, cv, rfl⟩ := Kd.R_slice ho; have HCC := Aside0.mk (C_came ho HRL.out (fun j hj => HROWS.out j hj _ hg) (Kd.C_below HR2.out (below_step HB0.out hb1)) HC2.out); have HB1 := Aside0.mk (below_step HB0.out hb1); rw [show (rows ++ [[Value.slice A2 b.length c2]]).length = L from HCC.out.1.trans HLL.out]; clear ho hb1 hg hat) | ((with_reducible refine gate_dst (N := 73) rfl ?_); refine Kd.R_make (Kd.int .u64) _ 22 rfl (N := 73) rfl 32 _ _ rfl (L : Int) rfl rfl Try.underlying32 (.int .u64 0) 8 rinfo22 rfl (by decide) (by omega) 0 (ok := fun _ => True) (okp := fun _ => True) rfl (fun _ hk => hk) trivial (by omega) (by omega) (Below.refl _ _) (Nat.le_refl _) ?_; intro v2 w2 ho2 hb2 hg2 hn2; rw [Int.toNat_natCast] at ho2; obtain ⟨gW, cW, rfl, hgb, _, _⟩ := Kd.R_form ho2 (by rw [List.length_replicate]; omega); have hx2 := Kd.R_celln 0 ho2 ((L : Int) - 1) (by omega) (by rw [List.length_replicate]; omega); have HP := Aside0.mk (Kd.R_putg ho2 ((L : Int) - 1) (1 : Int)).1; have HGB := Aside0.mk hgb; have HB2 := Aside0.mk hb2; obtain ⟨z, hz⟩ : ∃ z, z = rdOf (0 : Int) (List.replicate L (0 : Int)) ((L : Int) - 1) := ⟨_, rfl⟩; rw [← hz] at hx2; obtain ⟨hx3, hf3⟩ := hx2; rw [List.length_replicate] at HP ⊢; rw [show ((L : Int) - 1).toNat = L - 1 from by omega] at hx3 hf3 HP; clear ho2 hb2 hg2 hn2 hgb hz))
  have HBN := Aside0.mk ((HB2.out).setCell (p := ⟨gW, L - 1, none⟩) HGB.out (.int .u64 1))
  clear HB
  have HB := Aside0.mk (below_step HB1.out HBN.out)
  generalize w2.setCell ⟨gW, L - 1, none⟩ (.int .u64 1) = w3 at HBN HB HP ⊢
  have eW : (List.replicate L (0 : Int)).set (L - 1) 1 = wantU (sysU m b).length := by rw [HLL.out]; rfl
  rw [eW] at HP
  have hW := Kd.R_reads' HP.out
  have hcall := matrix_Solve.calls p Av cv (sysU m b) (some ⟨gW, 0, none⟩) cW (wantU (sysU m b).length) y 0 w3 (Kd.C_below HCC.out.2.2 HBN.out) HCC.out.2.1 hW.2.2 (by rw [← hW.1]; exact hW.2.1) K7.out
  rw [wantU_length, HLL.out] at hcall
  have HCALL := Aside0.mk hcall
  clear eW hW hx0 hcall
  go_wp2_with (first | (go_at_call 20; refine HCALL.out.mono ?_; rintro e w' ⟨vy, rfl, ho, hb⟩; obtain ⟨Ay, cy, rfl⟩ := Kd.R_slice ho; have HY := Aside0.mk (Kd.R_reads' ho).2.2; have HYc := Aside0.mk (Kd.R_reads' ho).2.1; have n0_ := Aside0.mk (below_step (by repeat (first | (with_reducible first | exact HB.out | apply below_alloc | apply pw_below_drewN | apply below_drew1) | exact HB.out)) hb); clear HB; have HB := n0_; clear n0_; clear ho hb) | (go_at_call 14; (with_reducible refine (M.privitylaw06_awake.calls k3 true _ K3.out).mono ?_); rintro e w' ⟨rfl, hb⟩; have HY' := Aside0.mk (Kd.C_below HY.out hb); clear HY; have HY := HY'; clear HY'; have n0_ := Aside0.mk (below_step (by repeat (first | (with_reducible first | exact HB.out | apply below_alloc | apply pw_below_drewN | apply below_drew1) | exact HB.out)) hb); clear HB; have HB := n0_; clear n0_; clear hb) | (go_at_call 30; (with_reducible refine (M.privityref06_Dot.calls k8 p _ _ y _ _ b 1 _ ?side13 ?side14 ?side15 ?side16 K8.out).mono ?_); (case side13 => exact HY.out); (case side14 => exact HYc.out); (case side15 => repeat (first | exact (Kd.C_below HR2.out HB.out) | (with_reducible refine Kd.C_alloc ?_ _) | (with_reducible refine Kd.C_drewN ?_ _) | (with_reducible refine Kd.C_drew ?_))); (case side16 => exact HC2.out); rintro e w' ⟨rfl, ⟨nd2, rfl⟩⟩; skip))
  go_ret
  exact ⟨rfl, (by repeat (first | (with_reducible first | exact HB.out | apply below_alloc | apply pw_below_drewN | apply below_drew1) | exact HB.out))⟩
set_option maxHeartbeats 4000000 in
set_option maxRecDepth 100000 in
theorem uns_nil (k1 : Nat) (h1 : M.privityref06_Fair.f k1 p m 8 = some true) (k2 : Nat) (h2 : M.privityref06_Below.f k2 p b 8 = some true) (k3 : Nat) (h3 : M.privitylaw06_awake.f k3 = some true) (x : List Int) (code : Int) (hcode : code = 6) (h4 : matrix_Solve.f p m b = some (x, code)) (k5 : Nat) (h5 : M.privityref06_Turn.f k5 m = some (turnS m)) (hm0 : 0 < m.length) (hml : m.length ≤ 1000) (hwl : (m.headD []).length ≤ 1000) (hrect : rectB m = true) (y : List Int) (h7 : matrix_Solve.f p (sysU m b) (wantU (sysU m b).length) = some (y, 0)) (k8 : Nat) (h8 : M.privityref06_Dot.f k8 p y b = some 1) (hwd : (m.headD []).length = 0) :
    Calls Try.prog 6 #[.int .u64 p, .slice A1 m.length c1, .slice A2 b.length c2] w fun e w' => e = .returned (.bool true) ∧ Below w.heap.size w w' := by
  have HR1 := Aside0.mk hr1
  have HC1 := Aside0.mk hc1
  have HR2 := Aside0.mk hr2
  have HC2 := Aside0.mk hc2
  clear hr1 hc1 hr2 hc2
  have HB := Aside0.mk (Below.refl w.heap.size w)
  have K1 := Aside0.mk h1
  clear h1
  have K2 := Aside0.mk h2
  clear h2
  have K3 := Aside0.mk h3
  clear h3
  have K4 := Aside0.mk h4
  clear h4
  have K5 := Aside0.mk h5
  clear h5
  have K7 := Aside0.mk h7
  have K8 := Aside0.mk h8
  clear h7 h8
  subst hcode
  obtain ⟨L, hL⟩ : ∃ L, L = (sysU m b).length := ⟨_, rfl⟩
  have hL1 : L = (m.headD []).length + 1 := by rw [hL]; exact sysU_length m b
  have hL2 : 0 < L := by omega
  have hL3 : L ≤ 1001 := by omega
  have HLL := Aside0.mk hL.symm
  obtain ⟨wd, hwdE⟩ : ∃ wd, wd = (m.headD []).length := ⟨_, rfl⟩
  have HRC := Aside0.mk ((rect_row hrect (i := 0) hm0).trans hwdE.symm)
  have HTL := Aside0.mk ((turnS_length m).trans hwdE.symm)
  rw [← hwdE] at hwl hwd
  clear hL hL1 hrect hwdE
  go_enter Try.func6, Try.ntmps6
  go_upto_region 10 with (first | (go_at_call 13; (with_reducible refine (M.privityref06_Fair.calls k1 p _ _ m 8 true _ ?side1 ?side2 K1.out).mono ?_); (case side1 => repeat (first | exact (Kd.C_below HR1.out HB.out) | (with_reducible refine Kd.C_alloc ?_ _) | (with_reducible refine Kd.C_drewN ?_ _) | (with_reducible refine Kd.C_drew ?_))); (case side2 => exact HC1.out); rintro e w' ⟨rfl, hb⟩; have n0_ := Aside0.mk (below_step (by repeat (first | (with_reducible first | exact HB.out | apply below_alloc | apply pw_below_drewN | apply below_drew1) | exact HB.out)) hb); clear HB; have HB := n0_; clear n0_; clear hb) | (go_at_call 19; (with_reducible refine (M.privityref06_Below.calls k2 p _ _ b 8 true _ ?side3 ?side4 K2.out).mono ?_); (case side3 => repeat (first | exact (Kd.C_below HR2.out HB.out) | (with_reducible refine Kd.C_alloc ?_ _) | (with_reducible refine Kd.C_drewN ?_ _) | (with_reducible refine Kd.C_drew ?_))); (case side4 => exact HC2.out); rintro e w' ⟨rfl, ⟨nd, rfl⟩⟩; skip) | (go_at_call 20; (with_reducible refine (matrix_Solve.calls p _ _ m _ _ b x 6 _ ?side5 ?side6 ?side7 ?side8 K4.out).mono ?_); (case side5 => repeat (first | exact (Kd.C_below HR1.out HB.out) | (with_reducible refine Kd.C_alloc ?_ _) | (with_reducible refine Kd.C_drewN ?_ _) | (with_reducible refine Kd.C_drew ?_))); (case side6 => exact HC1.out); (case side7 => repeat (first | exact (Kd.C_below HR2.out HB.out) | (with_reducible refine Kd.C_alloc ?_ _) | (with_reducible refine Kd.C_drewN ?_ _) | (with_reducible refine Kd.C_drew ?_))); (case side8 => exact HC2.out); rintro e w' ⟨vx, rfl, ho, hb⟩; obtain ⟨Ax, cx, rfl⟩ := Kd.R_slice ho; have HX := Aside0.mk (Kd.R_reads' ho).2.2; have HXc := Aside0.mk (Kd.R_reads' ho).2.1; have n0_ := Aside0.mk (below_step (by repeat (first | (with_reducible first | exact HB.out | apply below_alloc | apply pw_below_drewN | apply below_drew1) | exact HB.out)) hb); clear HB; have HB := n0_; clear n0_; clear ho hb) | (go_at_call 29; (with_reducible refine (M.privityref06_Turn.calls k5 _ _ m (turnS m) _ ?side9 ?side10 K5.out).mono ?_); (case side9 => repeat (first | exact (Kd.C_below HR1.out HB.out) | (with_reducible refine Kd.C_alloc ?_ _) | (with_reducible refine Kd.C_drewN ?_ _) | (with_reducible refine Kd.C_drew ?_))); (case side10 => exact HC1.out); rintro e w' ⟨vt, rfl, ho, hb⟩; have HT := Aside0.mk ho; have HBT := Aside0.mk hb; have HB0 := HB; have n0_ := Aside0.mk (below_step (by repeat (first | (with_reducible first | exact HB.out | apply below_alloc | apply pw_below_drewN | apply below_drew1) | exact HB.out)) hb); clear HB; have HB := n0_; clear n0_; clear ho hb))
  have hC := Kd.C_below HR1.out HB.out
  obtain ⟨ad, A0, c0, eA, hx0, _, _⟩ := row_at2 hC 0 (by omega) (by omega)
  cases eA
  rw [show (0 : Int).toNat = 0 from rfl, Addr.add_zero', HRC.out] at hx0
  clear hC
  have hd0 : decide ((m.length : Int) > 0) = true := decide_eq_true (by omega)
  have hd1 : decide (0 < m.length) = true := decide_eq_true hm0
  have hwb : ((wd : Int) == 0) = true := beq_iff_eq.mpr (by omega)
  have HRL := Aside0.mk (show ([] : List (List Value)).length = (turnS m).length from by rw [HTL.out, hwd]; rfl)
  have HROWS := Aside0.mk (show ∀ j, j < (turnS m).length → ∀ w1, w'.grownBy w1 (Value.slice none 0 0).ownBlock → ∃ A' c', ([] : List (List Value))[j]? = some [.slice A' ((turnS m).getD j []).length c'] ∧ ((turnS m).getD j []).length ≤ c' ∧ Kd.C (Kd.int .u64) w1 A' ((turnS m).getD j []).length ((turnS m).getD j []) from fun j hj => by rw [HTL.out] at hj; omega)
  have HWD := Aside0.mk hwd
  clear hwd
  go_upto_region 15 with (first | ((with_reducible refine gate_builtin (b := .append) (xs := #[.tmp 67, .tmp 69]) rfl ?_); at_builtin; refine Kd.R_append (Kd.raw 1) _ rfl (.tmp 67) (.tmp 69) 23 32 (.slice none 0 0) 24 rfl Try.underlying23 rinfo32 rfl (by decide) (by omega) (.slice none 0 0) ([] : List (List Value)) [.slice A2 b.length c2] [.slice A2 b.length c2] (fun _ => True) (fun _ => False) rfl rfl ?aP (fun _ hk => hk.elim) ?aF ?aO HBT.out ?aS ?aL ?_; (case aP => exact ⟨rfl, rfl, fun u hu => by rw [List.mem_singleton.1 hu]; rfl⟩); (case aF => exact fun _ _ => trivial); (case aO => exact Kd.R_nil _ _ _ _ _); (case aS => exact HBT.out.size); (case aL => decide); intro v1 w1 ho hb1 hg hat; obtain ⟨Av, cv, rfl⟩ := Kd.R_slice ho; have HCC := Aside0.mk (C_came ho HRL.out (fun j hj => HROWS.out j hj _ hg) (Kd.C_below HR2.out (below_step HB0.out hb1)) HC2.out); have HB1 := Aside0.mk (below_step HB0.out hb1); rw [show (([] : List (List Value)) ++ [[Value.slice A2 b.length c2]]).length = L from HCC.out.1.trans HLL.out]; clear ho hb1 hg hat) | ((with_reducible refine gate_dst (N := 73) rfl ?_); refine Kd.R_make (Kd.int .u64) _ 22 rfl (N := 73) rfl 32 _ _ rfl (L : Int) rfl rfl Try.underlying32 (.int .u64 0) 8 rinfo22 rfl (by decide) (by omega) 0 (ok := fun _ => True) (okp := fun _ => True) rfl (fun _ hk => hk) trivial (by omega) (by omega) (Below.refl _ _) (Nat.le_refl _) ?_; intro v2 w2 ho2 hb2 hg2 hn2; rw [Int.toNat_natCast] at ho2; obtain ⟨gW, cW, rfl, hgb, _, _⟩ := Kd.R_form ho2 (by rw [List.length_replicate]; omega); have hx2 := Kd.R_celln 0 ho2 ((L : Int) - 1) (by omega) (by rw [List.length_replicate]; omega); have HP := Aside0.mk (Kd.R_putg ho2 ((L : Int) - 1) (1 : Int)).1; have HGB := Aside0.mk hgb; have HB2 := Aside0.mk hb2; obtain ⟨z, hz⟩ : ∃ z, z = rdOf (0 : Int) (List.replicate L (0 : Int)) ((L : Int) - 1) := ⟨_, rfl⟩; rw [← hz] at hx2; obtain ⟨hx3, hf3⟩ := hx2; rw [List.length_replicate] at HP ⊢; rw [show ((L : Int) - 1).toNat = L - 1 from by omega] at hx3 hf3 HP; clear ho2 hb2 hg2 hn2 hgb hz))
  have HBN := Aside0.mk ((HB2.out).setCell (p := ⟨gW, L - 1, none⟩) HGB.out (.int .u64 1))
  clear HB
  have HB := Aside0.mk (below_step HB1.out HBN.out)
  generalize w2.setCell ⟨gW, L - 1, none⟩ (.int .u64 1) = w3 at HBN HB HP ⊢
  have eW : (List.replicate L (0 : Int)).set (L - 1) 1 = wantU (sysU m b).length := by rw [HLL.out]; rfl
  rw [eW] at HP
  have hW := Kd.R_reads' HP.out
  have hcall := matrix_Solve.calls p Av cv (sysU m b) (some ⟨gW, 0, none⟩) cW (wantU (sysU m b).length) y 0 w3 (Kd.C_below HCC.out.2.2 HBN.out) HCC.out.2.1 hW.2.2 (by rw [← hW.1]; exact hW.2.1) K7.out
  rw [wantU_length, HLL.out] at hcall
  have HCALL := Aside0.mk hcall
  clear eW hW hx0 hcall
  go_wp2_with (first | (go_at_call 20; refine HCALL.out.mono ?_; rintro e w' ⟨vy, rfl, ho, hb⟩; obtain ⟨Ay, cy, rfl⟩ := Kd.R_slice ho; have HY := Aside0.mk (Kd.R_reads' ho).2.2; have HYc := Aside0.mk (Kd.R_reads' ho).2.1; have n0_ := Aside0.mk (below_step (by repeat (first | (with_reducible first | exact HB.out | apply below_alloc | apply pw_below_drewN | apply below_drew1) | exact HB.out)) hb); clear HB; have HB := n0_; clear n0_; clear ho hb) | (go_at_call 14; (with_reducible refine (M.privitylaw06_awake.calls k3 true _ K3.out).mono ?_); rintro e w' ⟨rfl, hb⟩; have HY' := Aside0.mk (Kd.C_below HY.out hb); clear HY; have HY := HY'; clear HY'; have n0_ := Aside0.mk (below_step (by repeat (first | (with_reducible first | exact HB.out | apply below_alloc | apply pw_below_drewN | apply below_drew1) | exact HB.out)) hb); clear HB; have HB := n0_; clear n0_; clear hb) | (go_at_call 30; (with_reducible refine (M.privityref06_Dot.calls k8 p _ _ y _ _ b 1 _ ?side13 ?side14 ?side15 ?side16 K8.out).mono ?_); (case side13 => exact HY.out); (case side14 => exact HYc.out); (case side15 => repeat (first | exact (Kd.C_below HR2.out HB.out) | (with_reducible refine Kd.C_alloc ?_ _) | (with_reducible refine Kd.C_drewN ?_ _) | (with_reducible refine Kd.C_drew ?_))); (case side16 => exact HC2.out); rintro e w' ⟨rfl, ⟨nd2, rfl⟩⟩; skip))
  go_ret
  exact ⟨rfl, (by repeat (first | (with_reducible first | exact HB.out | apply below_alloc | apply pw_below_drewN | apply below_drew1) | exact HB.out))⟩
end
theorem sys_of {p : Int} {m : List (List Int)} {b : List Int} (h : okSys p m b = true) (hne : (solveS p m b).2 ≠ 1) : Sys p m b := solve_parts hne h
theorem uns_calls (p : Int) (A1 : Option Addr) (c1 : Nat) (m : List (List Int)) (A2 : Option Addr) (c2 : Nat) (b : List Int) (w : World) (hm : ∀ r ∈ m, ∀ x ∈ r, 0 ≤ x) (hb : ∀ x ∈ b, 0 ≤ x) (hr1 : Kd.C (Kd.slice 22 (Kd.int .u64)) w A1 m.length m) (hc1 : m.length ≤ c1) (hr2 : Kd.C (Kd.int .u64) w A2 b.length b) (hc2 : b.length ≤ c2) :
    Calls Try.prog 6 #[.int .u64 p, .slice A1 m.length c1, .slice A2 b.length c2] w fun e w' => e = .returned (.bool true) ∧ Below w.heap.size w w' := by
  obtain ⟨k1, h1⟩ := (fair_ev p m 8 (by omega) hm).ex
  obtain ⟨k2, h2⟩ := (below_ev p b 8 (by omega) hb).ex
  obtain ⟨k3, h3⟩ := awake6.ex
  by_cases hf : fairB p m 8 = true
  · rw [hf] at h1
    by_cases hbb : (decide (b.length ≤ 8) && allF p b) = true
    · rw [hbb] at h2
      have fp := fairB_iff hf
      simp only [Bool.and_eq_true, decide_eq_true_eq] at hbb
      have hsys := fp.sys (by omega) hbb.2
      have h4 := solve_f hsys
      obtain ⟨code, hcode⟩ : ∃ code, code = (solveS p m b).2 := ⟨_, rfl⟩
      have h4' : matrix_Solve.f p m b = some ((solveS p m b).1, code) := by rw [h4, hcode]
      by_cases e1 : code = 1
      · exact uns_arg p A1 c1 m A2 c2 b w hr1 hc1 hr2 hc2 k1 h1 k2 h2 k3 h3 _ code e1 h4'
      · have hS := sys_of hsys (by rw [← hcode]; exact e1)
        rcases hS.zero_or with e | e
        · obtain ⟨s1, s2, s3⟩ := hS.sound e
          obtain ⟨k5, h5⟩ := (apply_ev fp s2 (by omega)).ex
          rw [hS.applied e] at h5
          obtain ⟨k6, h6⟩ := (sameList_ev b (by omega)).ex
          exact uns_ok p A1 c1 m A2 c2 b w hr1 hc1 hr2 hc2 k1 h1 k2 h2 k3 h3 _ code (by rw [hcode]; exact e) h4' k5 h5 k6 h6
        · have hm0 : 0 < m.length := by
            refine Nat.pos_of_ne_zero fun h0 => ?_
            have hb0 : b.length = 0 := by rw [← hS.len]; exact h0
            obtain rfl : m = [] := List.length_eq_zero_iff.1 h0
            obtain rfl : b = [] := List.length_eq_zero_iff.1 hb0
            rw [hS.complete (fun _ => 0) (fun i hi => by simp at hi)] at e
            cases e
          obtain ⟨hok, t0, t1, t2, t3⟩ := hS.witnessed fp (by omega) e
          have h7 := solve_f hok
          have h7' : matrix_Solve.f p (sysU m b) (wantU (sysU m b).length) = some ((solveS p (sysU m b) (wantU (sysU m b).length)).1, 0) := by rw [h7, ← t0]
          obtain ⟨k5, h5⟩ := (turn_ev (fp.small (by omega)) hS.rect).ex
          obtain ⟨k8, h8⟩ := (rdot_ev fp.hp t2 hbb.2 t1 (by omega)).ex
          rw [t1, t3] at h8
          have hl := fp.len
          have hwl := fp.wd
          by_cases hwd : (m.headD []).length = 0
          · exact uns_nil p A1 c1 m A2 c2 b w hr1 hc1 hr2 hc2 k1 h1 k2 h2 k3 h3 _ code (by rw [hcode]; exact e) h4' k5 h5 hm0 (by omega) (by omega) hS.rect _ h7' k8 h8 hwd
          · exact uns_not p A1 c1 m A2 c2 b w hr1 hc1 hr2 hc2 k1 h1 k2 h2 k3 h3 _ code (by rw [hcode]; exact e) h4' k5 h5 hm0 (by omega) (by omega) hS.rect _ h7' k8 h8 (by omega)
    · have hbb' : (decide (b.length ≤ 8) && allF p b) = false := by simpa using hbb
      rw [hbb'] at h2
      exact uns_below p A1 c1 m A2 c2 b w hr1 hc1 hr2 hc2 k1 h1 k2 h2 k3 h3
  · have hf' : fairB p m 8 = false := by simpa using hf
    rw [hf'] at h1
    exact uns_fair p A1 c1 m A2 c2 b w hr1 hc1 hr2 hc2 k1 h1 k3 h3
end Go.Proofs.Ytkjknpibcbpdfaa
