/- The law MatrixProduct over plain numbers. -/
import Derived.Test.YtkjknpibcbpdfaaLaw6B
import Derived.Test.YtkjknpibcbpdfaaM9
namespace Go.Proofs.Ytkjknpibcbpdfaa
open Go.RowKit Go.Proofs.YtkjknpibcbpdfaaW.PrintWords
set_option linter.unusedVariables false
set_option linter.unusedSimpArgs false

/-- A sum of products in the field, term by term. -/
def dotN (p : Int) (f : Nat → Int) : Nat → Int
  | 0 => 0
  | j + 1 => (dotN p f j + f j % p) % p
theorem dotN_inF {p : Int} (hp : okp p = true) (f : Nat → Int) : ∀ j, inF p (dotN p f j) = true
  | 0 => inF_zero hp
  | j + 1 => inF_mod hp _
theorem dotN_congr {p : Int} {f g : Nat → Int} : ∀ n, (∀ j, j < n → f j = g j) → dotN p f n = dotN p g n
  | 0, _ => rfl
  | n + 1, h => by
    unfold dotN
    rw [dotN_congr n (fun j hj => h j (by omega)), h n (by omega)]
def colS (b : List (List Int)) (i : Nat) : List Int := b.map fun r => r.getD i 0
theorem colS_length (b : List (List Int)) (i : Nat) : (colS b i).length = b.length := by unfold colS; simp
theorem colS_at (b : List (List Int)) (i j : Nat) : (colS b i).getD j 0 = cellAt b j i := by
  unfold colS cellAt
  rw [List.getD_eq_getElem?_getD, List.getElem?_map, List.getD_eq_getElem?_getD (l := b)]
  cases b[j]? <;> simp
def mulRow (p : Int) (row : List Int) (b : List (List Int)) (n : Nat) : List Int := (List.range n).map fun i => dotN p (fun j => row.getD j 0 * cellAt b j i) row.length
def mulS (p : Int) (a b : List (List Int)) : List (List Int) × Int :=
  if (rectB a && rectB b && decide ((a.headD []).length = b.length)) = true then (a.map fun row => mulRow p row b (b.headD []).length, 0) else ([], 1)
def applyS (p : Int) (a : List (List Int)) (v : List Int) : List Int × Int :=
  if (rectB a && decide ((a.headD []).length = v.length)) = true then (a.map fun row => dotN p (fun j => row.getD j 0 * v.getD j 0) row.length, 0) else ([], 1)
theorem range_map_getD {f : Nat → Int} {n i : Nat} (h : i < n) : ((List.range n).map f).getD i 0 = f i := by
  rw [List.getD_eq_getElem?_getD, List.getElem?_map, List.getElem?_range h]; rfl
/-! ### Mul of the program -/
def lineM (p : Int) (row : List Int) (b : List (List Int)) (n j x : Nat) : List Int := (List.range n).map fun i => dotN p (fun j => row.getD j 0 * cellAt b j i) (if i < x then j + 1 else j)
theorem lineM_length (p : Int) (row : List Int) (b : List (List Int)) (n j x : Nat) : (lineM p row b n j x).length = n := by unfold lineM; simp
theorem lineM_next (p : Int) (row : List Int) (b : List (List Int)) (n j : Nat) : lineM p row b n j n = lineM p row b n (j + 1) 0 := by
  unfold lineM
  refine List.map_congr_left fun i hi => ?_
  rw [if_pos (List.mem_range.1 hi), if_neg (by omega)]
theorem lineM_zero (p : Int) (row : List Int) (b : List (List Int)) (n : Nat) : lineM p row b n 0 0 = List.replicate n 0 := by
  unfold lineM
  refine List.ext_getElem (by simp) fun i h1 h2 => ?_
  rw [List.getElem_map, List.getElem_replicate, if_neg (by omega)]
  rfl
theorem lineM_last (p : Int) (row : List Int) (b : List (List Int)) (n : Nat) : lineM p row b n row.length 0 = mulRow p row b n := by
  unfold lineM mulRow
  refine List.map_congr_left fun i hi => ?_
  rw [if_neg (by omega)]
theorem lineM_step (p : Int) (row : List Int) (b : List (List Int)) (n j x : Nat) (hx : x < n) : (lineM p row b n j x).set x (((lineM p row b n j x).getD x 0 + row.getD j 0 * cellAt b j x % p) % p) = lineM p row b n j (x + 1) := by
  unfold lineM
  rw [range_map_getD hx, if_neg (show ¬ x < x by omega)]
  refine List.ext_getElem (by simp) fun i h1 h2 => ?_
  have hi : i < n := by simpa using h2
  rw [List.getElem_set]
  simp only [List.getElem_map, List.getElem_range]
  by_cases e : x = i
  · subst e
    rw [if_pos rfl, if_pos (by omega)]
    rfl
  · rw [if_neg e]
    by_cases h : i < x
    · rw [if_pos h, if_pos (by omega)]
    · rw [if_neg h, if_neg (by omega)]
theorem lineM_inF {p : Int} (hp : okp p = true) (row : List Int) (b : List (List Int)) (n j x i : Nat) : inF p ((lineM p row b n j x).getD i 0) = true := by
  unfold lineM
  by_cases h : i < n
  · rw [range_map_getD h]
    exact dotN_inF hp _ _
  · rw [List.getD_eq_getElem?_getD, List.getElem?_eq_none (by simp; omega)]
    exact inF_zero hp
theorem fld_row {p : Int} {m : List (List Int)} (h : m.all (allF p) = true) (i : Nat) : allF p (m.getD i []) = true := by
  by_cases hi : i < m.length
  · rw [getD_row hi]
    exact List.all_eq_true.1 h _ (List.getElem_mem _)
  · rw [List.getD_eq_getElem?_getD, List.getElem?_eq_none (by omega)]
    rfl
theorem mul_ev {p : Int} {a b : List (List Int)} {kk : Nat} (ha : FairP p a kk) (hb : FairP p b kk) (hk : kk ≤ 1000) : Ev (fun k => M.matrix_Mul.f k p a b) (mulS p a b) := by
  have hp := ha.hp
  have hla := ha.len
  have hlb := hb.len
  have hj : ∀ {r : List (List Int) × Int}, r = ([], 1) → Ev (fun k => M.matrix_Mul.j0 k p a b true) r := fun e => by
    subst e
    exact Ev.of_succ (g := fun _ => some ([], 1)) (fun k => by simp only [M.matrix_Mul.j0]; rfl) (Ev.of_eq fun _ => rfl)
  unfold M.matrix_Mul.f matrix_rect.f
  rw [if_pos (smallR_few (ha.small hk)), if_pos (smallR_few (hb.small hk))]
  simp only [Option.bind_some]
  by_cases hra : rectB a = true
  · rw [hra]
    simp only [if_true]
    by_cases hrb : rectB b = true
    · rw [hrb]
      simp only [if_true]
      rw [cols_at]
      simp only [Option.bind_some]
      by_cases hd : (a.headD []).length = b.length
      · have hne : (((a.headD []).length : Int) != (b.length : Int)) = false := bne_eq_false_iff_eq.mpr (by omega)
        rw [hne]
        have hres : mulS p a b = (a.map fun row => mulRow p row b (b.headD []).length, 0) := by
          unfold mulS
          rw [hra, hrb, decide_eq_true hd]
          rfl
        rw [hres]
        obtain ⟨n, hn⟩ : ∃ n, n = (b.headD []).length := ⟨_, rfl⟩
        have hn1 : n ≤ kk := by rw [hn]; exact hb.wd
        rw [← hn]
        have hbrow : ∀ j, j < b.length → (b.getD j []).length = n := fun j hj => by rw [hn]; exact rect_row hrb hj
        have harow : ∀ j, j < a.length → (a.getD j []).length = b.length := fun j hj => by rw [rect_row hra hj]; exact hd
        -- the rows
        have key : ∀ (d i : Nat), i + d = a.length → Ev (fun k => M.matrix_Mul.l0 k p b ((a.take i).map fun row => mulRow p row b n) a (a.length : Int) (i : Int)) (a.map fun row => mulRow p row b n, 0) := by
          intro d
          induction d with
          | zero =>
            intro i hi
            refine Ev.of_succ (g := fun _ => some (a.map fun row => mulRow p row b n, 0)) (fun k => ?_) (Ev.of_eq fun _ => rfl)
            simp only [M.matrix_Mul.l0]
            rw [if_neg (by omega), List.take_of_length_le (by omega)]
          | succ d ih =>
            intro i hi
            have hlt : i < a.length := by omega
            have hrow := harow i hlt
            have hnext := ih (i + 1) (by omega)
            have e : ((a.take (i + 1)).map fun row => mulRow p row b n) = ((a.take i).map fun row => mulRow p row b n) ++ [mulRow p (a.getD i []) b n] := by
              rw [List.take_succ_eq_append_getElem hlt, List.map_append, getD_row hlt]
              rfl
            rw [e] at hnext
            generalize hout : ((a.take i).map fun row => mulRow p row b n) = out at hnext ⊢
            have hol : out.length ≤ 1000 := by rw [← hout, List.length_map, List.length_take]; omega
            -- the terms
            have hl1 : ∀ (d j : Nat), j + d = b.length → Ev (fun k => M.matrix_Mul.l1 k p b out (lineM p (a.getD i []) b n j 0) a (a.length : Int) (i : Int) (a.getD i []) ((a.getD i []).length : Int) (j : Int)) (a.map fun row => mulRow p row b n, 0) := by
              intro d
              induction d with
              | zero =>
                intro j hj
                refine Ev.of_succ (fun k => ?_) hnext
                simp only [M.matrix_Mul.l1]
                rw [if_neg (by omega), if_pos (by omega), show j = (a.getD i []).length by omega, lineM_last, wrap_in (by omega) (by omega)]
                rfl
              | succ d ih1 =>
                intro j hj
                have hjl : j < b.length := by omega
                have hbr := hbrow j hjl
                have h1 := ih1 (j + 1) (by omega)
                rw [← lineM_next] at h1
                have hl2 : ∀ (d x : Nat), x + d = n → Ev (fun k => M.matrix_Mul.l2 k p b out (lineM p (a.getD i []) b n j x) ((a.getD i []).getD j 0) a (a.length : Int) (i : Int) (a.getD i []) ((a.getD i []).length : Int) (j : Int) (b.getD j []) ((b.getD j []).length : Int) (x : Int)) (a.map fun row => mulRow p row b n, 0) := by
                  intro d
                  induction d with
                  | zero =>
                    intro x hx
                    obtain rfl : x = n := by omega
                    refine Ev.of_succ (fun k => ?_) h1
                    simp only [M.matrix_Mul.l2]
                    rw [if_neg (by omega), wrap_in (by omega) (by omega)]
                    rfl
                  | succ d ih2 =>
                    intro x hx
                    have hk1 : inF p ((a.getD i []).getD j 0) = true := allF_at hp (fld_row ha.fld i) j
                    have hk2 : inF p ((b.getD j []).getD x 0) = true := allF_at hp (fld_row hb.fld j) x
                    have hk3 := lineM_inF hp (a.getD i []) b n j x x
                    refine Ev.of_succ (fun k => ?_) (ih2 (x + 1) (by omega))
                    simp only [M.matrix_Mul.l2]
                    rw [if_pos (by omega), if_pos (by omega), if_pos (by omega), if_pos (by rw [lineM_length]; omega), rd_nat, rd_nat, mul_f hp hk1 hk2]
                    simp only [Option.bind_some]
                    rw [add_f hp hk3 (inF_mod hp _)]
                    simp only [Option.bind_some, Int.toNat_natCast]
                    rw [wrap_in (by omega) (by omega), show (b.getD j []).getD x 0 = cellAt b j x from rfl, lineM_step _ _ _ _ _ _ (by omega)]
                    rfl
                refine Ev.of_succ (fun k => ?_) (hl2 n 0 (by omega))
                simp only [M.matrix_Mul.l1]
                rw [if_pos (by omega), if_pos (by omega), if_pos (by omega), if_pos (by omega), rd_nat, rdL]
                rfl
            have h0 := hl1 b.length 0 (by omega)
            rw [lineM_zero] at h0
            refine Ev.of_succ (fun k => ?_) h0
            simp only [M.matrix_Mul.l0]
            rw [if_pos (by omega), if_pos (by omega), if_pos (by omega), cols_at]
            simp only [Option.bind_some]
            rw [← hn, if_pos (by omega), if_pos (by omega), rdL, Int.toNat_natCast]
            rfl
        refine Ev.of_succ (fun k => ?_) (key a.length 0 (by omega))
        simp only [M.matrix_Mul.j0, Bool.false_eq_true, if_false]
        rfl
      · have hne : (((a.headD []).length : Int) != (b.length : Int)) = true := bne_iff_ne.mpr (by omega)
        rw [hne]
        exact hj (by unfold mulS; rw [decide_eq_false hd, Bool.and_false, if_neg (by decide)])
    · have hrb' : rectB b = false := by simpa using hrb
      rw [hrb']
      simp only [Bool.false_eq_true, if_false]
      exact hj (by unfold mulS; rw [hrb', Bool.and_false, Bool.false_and, if_neg (by decide)])
  · have hra' : rectB a = false := by simpa using hra
    rw [hra']
    simp only [Bool.false_eq_true, if_false]
    exact hj (by unfold mulS; rw [hra', Bool.false_and, Bool.false_and, if_neg (by decide)])
/-! ### the reference -/
theorem rdot_ev {p : Int} (hp : okp p = true) {a c : List Int} (ha : allF p a = true) (hc : allF p c = true) (hl : a.length = c.length) (hs : a.length ≤ 1000) : Ev (fun k => M.privityref06_Dot.f k p a c) (dotN p (fun j => a.getD j 0 * c.getD j 0) a.length) := by
  have key : ∀ (d i : Nat), i + d = a.length → Ev (fun k => M.privityref06_Dot.l0 k p a c (dotN p (fun j => a.getD j 0 * c.getD j 0) i) (i : Int)) (dotN p (fun j => a.getD j 0 * c.getD j 0) a.length) := by
    intro d
    induction d with
    | zero =>
      intro i hi
      obtain rfl : i = a.length := by omega
      refine Ev.of_succ (g := fun k => M.privityref06_Dot.j1 k p a c (dotN p (fun j => a.getD j 0 * c.getD j 0) a.length) (a.length : Int) false) (fun k => ?_) (Ev.of_succ (g := fun _ => some (dotN p (fun j => a.getD j 0 * c.getD j 0) a.length)) (fun k => ?_) (Ev.of_eq fun _ => rfl))
      · conv => lhs; simp only [M.privityref06_Dot.l0]
        rw [if_neg (by omega)]
      · simp only [M.privityref06_Dot.j1, Bool.false_eq_true, if_false]
    | succ d ih =>
      intro i hi
      have h1 : inF p (a.getD i 0) = true := allF_at hp ha i
      have h2 : inF p (c.getD i 0) = true := allF_at hp hc i
      have h3 := dotN_inF hp (fun j => a.getD j 0 * c.getD j 0) i
      have hi2 : Ev (fun k => M.privityref06_Dot.j1 k p a c (dotN p (fun j => a.getD j 0 * c.getD j 0) i) (i : Int) true) (dotN p (fun j => a.getD j 0 * c.getD j 0) a.length) := by
        refine Ev.of_succ (fun k => ?_) (ih (i + 1) (by omega))
        simp only [M.privityref06_Dot.j1, if_true]
        rw [if_pos (by omega), if_pos (by omega), if_pos (by omega), rd_nat, rd_nat, rmul_f hp h1 h2]
        simp only [Option.bind_some]
        rw [radd_f hp h3 (inF_mod hp _)]
        simp only [Option.bind_some]
        rw [wrap_in (by omega) (by omega)]
        rfl
      refine Ev.of_succ (fun k => ?_) hi2
      conv => lhs; simp only [M.privityref06_Dot.l0]
      rw [if_pos (by omega), decide_eq_true (by omega)]
  exact key a.length 0 (by omega)
def turnK (m : List (List Int)) (n q i : Nat) : List (List Int) := (List.range n).map fun c => if c < q then colS m c else if c = q then (colS m c).take i else []
theorem turnK_length (m : List (List Int)) (n q i : Nat) : (turnK m n q i).length = n := by unfold turnK; simp
theorem turnK_at {m : List (List Int)} {n q i : Nat} (hq : q < n) : (turnK m n q i).getD q [] = (colS m q).take i := by
  unfold turnK
  rw [List.getD_eq_getElem?_getD, List.getElem?_map, List.getElem?_range hq]
  show (if q < q then colS m q else if q = q then (colS m q).take i else []) = _
  rw [if_neg (by omega), if_pos rfl]
theorem turnK_step {m : List (List Int)} {n q i : Nat} (hq : q < n) (hi : i < m.length) : (turnK m n q i).set q ((colS m q).take i ++ [cellAt m i q]) = turnK m n q (i + 1) := by
  unfold turnK
  refine List.ext_getElem (by simp) fun c h1 h2 => ?_
  rw [List.getElem_set]
  simp only [List.getElem_map, List.getElem_range]
  by_cases e : q = c
  · subst e
    rw [if_pos rfl, if_neg (by omega), if_pos rfl, take_succ_snoc _ _ (by rw [colS_length]; exact hi), colS_at]
  · rw [if_neg e]
    by_cases h : c < q
    · rw [if_pos h, if_pos h]
    · rw [if_neg h, if_neg h, if_neg (by omega), if_neg (by omega)]
theorem turnK_next {m : List (List Int)} {n q : Nat} : turnK m n q m.length = turnK m n (q + 1) 0 := by
  unfold turnK
  refine List.map_congr_left fun c hc => ?_
  by_cases h : c < q
  · rw [if_pos h, if_pos (by omega)]
  · by_cases e : c = q
    · rw [if_neg h, if_pos e, if_pos (by omega), List.take_of_length_le (by rw [colS_length]; exact Nat.le_refl _)]
    · rw [if_neg h, if_neg e, if_neg (by omega)]
      split
      · rw [List.take_zero]
      · rfl
theorem turnK_zero (m : List (List Int)) (n : Nat) : turnK m n 0 0 = List.replicate n [] := by
  unfold turnK
  refine List.ext_getElem (by simp) fun c h1 h2 => ?_
  simp only [List.getElem_map, List.getElem_range, List.getElem_replicate]
  rw [if_neg (by omega)]
  split
  · rw [List.take_zero]
  · rfl
theorem turnK_last (m : List (List Int)) (n : Nat) : turnK m n n 0 = (List.range n).map (colS m) := by
  unfold turnK
  refine List.map_congr_left fun c hc => ?_
  rw [if_pos (List.mem_range.1 hc)]
def turnS (m : List (List Int)) : List (List Int) := (List.range (m.headD []).length).map (colS m)
theorem turn_ev {m : List (List Int)} (hs : smallR m = true) (hr : rectB m = true) : Ev (fun k => M.privityref06_Turn.f k m) (turnS m) := by
  have hml := smallR_len hs
  obtain ⟨n, hn⟩ : ∃ n, n = (m.headD []).length := ⟨_, rfl⟩
  have hn1 : n ≤ 1000 := by
    have := smallR_row hs 0
    rw [hn]
    cases m with
    | nil => simp
    | cons r t => exact this
  have hrow : ∀ j, j < m.length → (m.getD j []).length = n := fun j hj => by rw [hn]; exact rect_row hr hj
  unfold M.privityref06_Turn.f turnS
  refine Ev.bind (rect_ev m (by omega)) ?_
  rw [if_pos hr]
  dsimp only
  rw [← hn]
  have hl0 : ∀ (d q : Nat), q + d = n → Ev (fun k => M.privityref06_Turn.l0 k m (n : Int) (turnK m n q 0) (q : Int)) ((List.range n).map (colS m)) := by
    intro d
    induction d with
    | zero =>
      intro q hq
      obtain rfl : q = n := by omega
      refine Ev.of_succ (g := fun _ => some ((List.range q).map (colS m))) (fun k => ?_) (Ev.of_eq fun _ => rfl)
      simp only [M.privityref06_Turn.l0]
      rw [if_neg (by omega), turnK_last]
    | succ d ih =>
      intro q hq
      have hl1 : ∀ (e i : Nat), i + e = m.length → Ev (fun k => M.privityref06_Turn.l1 k m (n : Int) (turnK m n q i) (q : Int) (i : Int)) ((List.range n).map (colS m)) := by
        intro e
        induction e with
        | zero =>
          intro i hi
          obtain rfl : i = m.length := by omega
          rw [turnK_next]
          refine Ev.of_succ (fun k => ?_) (ih (q + 1) (by omega))
          simp only [M.privityref06_Turn.l1]
          rw [if_neg (by omega), wrap_in (by omega) (by omega)]
          rfl
        | succ e ih1 =>
          intro i hi
          refine Ev.of_succ (fun k => ?_) (ih1 (i + 1) (by omega))
          simp only [M.privityref06_Turn.l1]
          rw [if_pos (by omega), if_pos (by omega), if_pos (by rw [turnK_length]; omega), if_pos (by omega), rdL, hrow i (by omega), if_pos (by omega), rdL, turnK_at (by omega), if_pos (by rw [List.length_take, colS_length]; omega), wrap_in (by omega) (by omega), rd_nat, Int.toNat_natCast, show (m.getD i []).getD q 0 = cellAt m i q from rfl, turnK_step (by omega) (by omega)]
          rfl
      refine Ev.of_succ (fun k => ?_) (hl1 m.length 0 (by omega))
      simp only [M.privityref06_Turn.l0]
      rw [if_pos (by omega)]
      rfl
  have h := hl0 n 0 (by omega)
  rw [turnK_zero] at h
  refine Ev.congr (fun k => ?_) h
  rw [if_pos (by omega), Int.toNat_natCast, if_pos (by omega)]
  rfl
theorem colS_allF {p : Int} (hp : okp p = true) {b : List (List Int)} (h : b.all (allF p) = true) (i : Nat) : allF p (colS b i) = true := allF_of fun x hx => by
  obtain ⟨r, hr, rfl⟩ := List.mem_map.1 hx
  exact allF_at hp (List.all_eq_true.1 h r hr) i
theorem rmul_ev {p : Int} {a b : List (List Int)} {kk : Nat} (ha : FairP p a kk) (hb : FairP p b kk) (hk : kk ≤ 1000) : Ev (fun k => M.privityref06_Mul.f k p a b) (mulS p a b) := by
  have hp := ha.hp
  have hla := ha.len
  have hlb := hb.len
  have hj : ∀ {r : List (List Int) × Int}, r = ([], 1) → Ev (fun k => M.privityref06_Mul.j0 k p a b true) r := fun e => by
    subst e
    exact Ev.of_succ (g := fun _ => some ([], 1)) (fun k => by simp only [M.privityref06_Mul.j0]; rfl) (Ev.of_eq fun _ => rfl)
  unfold M.privityref06_Mul.f
  refine Ev.bind (rect_ev a (by omega)) (Ev.bind (rect_ev b (by omega)) ?_)
  by_cases hra : rectB a = true
  · rw [if_pos hra]
    simp only [if_true]
    by_cases hrb : rectB b = true
    · rw [if_pos hrb]
      simp only [if_true]
      by_cases hd : (a.headD []).length = b.length
      · have hne : (((a.headD []).length : Int) != (b.length : Int)) = false := bne_eq_false_iff_eq.mpr (by omega)
        rw [hne]
        have hres : mulS p a b = (a.map fun row => mulRow p row b (b.headD []).length, 0) := by
          unfold mulS
          rw [hra, hrb, decide_eq_true hd]
          rfl
        rw [hres]
        have htb := turn_ev (hb.small hk) hrb
        obtain ⟨n, hn⟩ : ∃ n, n = (b.headD []).length := ⟨_, rfl⟩
        have hn1 : n ≤ kk := by rw [hn]; exact hb.wd
        unfold turnS at htb
        rw [← hn] at htb ⊢
        have harow : ∀ j, j < a.length → (a.getD j []).length = b.length := fun j hj => by rw [rect_row hra hj]; exact hd
        have htl : ((List.range n).map (colS b)).length = n := by simp
        have hl0 : ∀ (d i : Nat), i + d = a.length → Ev (fun k => M.privityref06_Mul.l0 k p a ((List.range n).map (colS b)) ((a.take i).map fun row => mulRow p row b n) (i : Int)) (a.map fun row => mulRow p row b n, 0) := by
          intro d
          induction d with
          | zero =>
            intro i hi
            refine Ev.of_succ (g := fun _ => some (a.map fun row => mulRow p row b n, 0)) (fun k => ?_) (Ev.of_eq fun _ => rfl)
            simp only [M.privityref06_Mul.l0]
            rw [if_neg (by omega), List.take_of_length_le (by omega)]
          | succ d ih =>
            intro i hi
            have hlt : i < a.length := by omega
            have hrow := harow i hlt
            have hnext := ih (i + 1) (by omega)
            have e : ((a.take (i + 1)).map fun row => mulRow p row b n) = ((a.take i).map fun row => mulRow p row b n) ++ [mulRow p (a.getD i []) b n] := by
              rw [List.take_succ_eq_append_getElem hlt, List.map_append, getD_row hlt]
              rfl
            rw [e] at hnext
            generalize hout : ((a.take i).map fun row => mulRow p row b n) = out at hnext ⊢
            have hol : out.length ≤ 1000 := by rw [← hout, List.length_map, List.length_take]; omega
            have hml : (mulRow p (a.getD i []) b n).length = n := by unfold mulRow; simp
            have hl1 : ∀ (e q : Nat), q + e = n → Ev (fun k => M.privityref06_Mul.l1 k p a ((List.range n).map (colS b)) out (i : Int) ((mulRow p (a.getD i []) b n).take q) (q : Int)) (a.map fun row => mulRow p row b n, 0) := by
              intro e
              induction e with
              | zero =>
                intro q hq
                refine Ev.of_succ (fun k => ?_) hnext
                simp only [M.privityref06_Mul.l1]
                rw [if_neg (by omega), if_pos (by omega), List.take_of_length_le (by omega), wrap_in (by omega) (by omega)]
                rfl
              | succ e ih1 =>
                intro q hq
                have hcol : ((List.range n).map (colS b)).getD q [] = colS b q := by
                  rw [List.getD_eq_getElem?_getD, List.getElem?_map, List.getElem?_range (by omega)]; rfl
                have hdot := rdot_ev hp (fld_row ha.fld i) (colS_allF hp hb.fld q) (by rw [colS_length]; exact hrow) (by omega)
                have hval : dotN p (fun j => (a.getD i []).getD j 0 * (colS b q).getD j 0) (a.getD i []).length = (mulRow p (a.getD i []) b n).getD q 0 := by
                  unfold mulRow
                  rw [range_map_getD (by omega)]
                  exact dotN_congr _ fun j _ => by rw [colS_at]
                have h1 := ih1 (q + 1) (by omega)
                rw [take_succ_snoc _ _ (by omega), ← hval] at h1
                refine Ev.of_succ (g := fun k => (M.privityref06_Dot.f k p (a.getD i []) (colS b q)).bind fun t => M.privityref06_Mul.l1 k p a ((List.range n).map (colS b)) out (i : Int) ((mulRow p (a.getD i []) b n).take q ++ [t]) ((q + 1 : Nat) : Int)) (fun k => ?_) (Ev.bind hdot h1)
                conv => lhs; simp only [M.privityref06_Mul.l1]
                rw [if_pos (by omega), if_pos (by omega), if_pos (by omega), if_pos (by omega), rdL, rdL, hcol]
                refine congrArg (Option.bind _) (funext fun t => ?_)
                rw [if_pos (by rw [List.length_take]; omega), wrap_in (by omega) (by omega)]
                rfl
            refine Ev.of_succ (fun k => ?_) (hl1 n 0 (by omega))
            simp only [M.privityref06_Mul.l0]
            rw [if_pos (by omega)]
            rfl
        refine Ev.of_succ (g := fun k => (M.privityref06_Turn.f k b).bind fun t => M.privityref06_Mul.l0 k p a t [] 0) (fun k => ?_) (Ev.bind htb (hl0 a.length 0 (by omega)))
        simp only [M.privityref06_Mul.j0, Bool.false_eq_true, if_false]
      · have hne : (((a.headD []).length : Int) != (b.length : Int)) = true := bne_iff_ne.mpr (by omega)
        rw [hne]
        exact hj (by unfold mulS; rw [decide_eq_false hd, Bool.and_false, if_neg (by decide)])
    · have hrb' : rectB b = false := by simpa using hrb
      rw [hrb']
      simp only [Bool.false_eq_true, if_false]
      exact hj (by unfold mulS; rw [hrb', Bool.and_false, Bool.false_and, if_neg (by decide)])
  · have hra' : rectB a = false := by simpa using hra
    rw [hra']
    simp only [Bool.false_eq_true, if_false]
    exact hj (by unfold mulS; rw [hra', Bool.false_and, Bool.false_and, if_neg (by decide)])
/-! ### Apply -/
theorem dot_ev {p : Int} (hp : okp p = true) {a c : List Int} (ha : allF p a = true) (hc : allF p c = true) (hl : a.length = c.length) (hs : a.length ≤ 1000) : Ev (fun k => M.matrix_dot.f k p a c) (dotN p (fun j => a.getD j 0 * c.getD j 0) a.length) := by
  have key : ∀ (d i : Nat), i + d = a.length → Ev (fun k => M.matrix_dot.l0 k p c (dotN p (fun j => a.getD j 0 * c.getD j 0) i) a (a.length : Int) (i : Int)) (dotN p (fun j => a.getD j 0 * c.getD j 0) a.length) := by
    intro d
    induction d with
    | zero =>
      intro i hi
      obtain rfl : i = a.length := by omega
      refine Ev.of_succ (g := fun _ => some (dotN p (fun j => a.getD j 0 * c.getD j 0) a.length)) (fun k => ?_) (Ev.of_eq fun _ => rfl)
      simp only [M.matrix_dot.l0]
      rw [if_neg (by omega)]
    | succ d ih =>
      intro i hi
      have h1 : inF p (a.getD i 0) = true := allF_at hp ha i
      have h2 : inF p (c.getD i 0) = true := allF_at hp hc i
      have h3 := dotN_inF hp (fun j => a.getD j 0 * c.getD j 0) i
      refine Ev.of_succ (fun k => ?_) (ih (i + 1) (by omega))
      simp only [M.matrix_dot.l0]
      rw [if_pos (by omega), if_pos (by omega), if_pos (by omega), if_pos (by omega), rd_nat, rd_nat, mul_f hp h1 h2]
      simp only [Option.bind_some]
      rw [add_f hp h3 (inF_mod hp _)]
      simp only [Option.bind_some]
      rw [wrap_in (by omega) (by omega)]
      rfl
  exact key a.length 0 (by omega)
theorem apply_ev {p : Int} {a : List (List Int)} {v : List Int} {kk : Nat} (ha : FairP p a kk) (hv : allF p v = true) (hk : kk ≤ 1000) : Ev (fun k => M.matrix_Apply.f k p a v) (applyS p a v) := by
  have hp := ha.hp
  have hla := ha.len
  have hj : ∀ {r : List Int × Int}, r = ([], 1) → Ev (fun k => M.matrix_Apply.j0 k p a v true) r := fun e => by
    subst e
    exact Ev.of_succ (g := fun _ => some ([], 1)) (fun k => by simp only [M.matrix_Apply.j0]; rfl) (Ev.of_eq fun _ => rfl)
  unfold M.matrix_Apply.f matrix_rect.f
  rw [if_pos (smallR_few (ha.small hk))]
  simp only [Option.bind_some]
  by_cases hra : rectB a = true
  · rw [hra]
    simp only [if_true]
    rw [cols_at]
    simp only [Option.bind_some]
    by_cases hd : (a.headD []).length = v.length
    · have hne : (((a.headD []).length : Int) != (v.length : Int)) = false := bne_eq_false_iff_eq.mpr (by omega)
      rw [hne]
      have hres : applyS p a v = (a.map fun row => dotN p (fun j => row.getD j 0 * v.getD j 0) row.length, 0) := by
        unfold applyS
        rw [hra, decide_eq_true hd]
        rfl
      rw [hres]
      have harow : ∀ j, j < a.length → (a.getD j []).length = v.length := fun j hj => by rw [rect_row hra hj]; exact hd
      have hvl : v.length ≤ kk := by rw [← hd]; exact ha.wd
      have hl0 : ∀ (d i : Nat), i + d = a.length → Ev (fun k => M.matrix_Apply.l0 k p v ((a.map fun row => dotN p (fun j => row.getD j 0 * v.getD j 0) row.length).take i) a (a.length : Int) (i : Int)) (a.map fun row => dotN p (fun j => row.getD j 0 * v.getD j 0) row.length, 0) := by
        intro d
        induction d with
        | zero =>
          intro i hi
          refine Ev.of_succ (g := fun _ => some (a.map fun row => dotN p (fun j => row.getD j 0 * v.getD j 0) row.length, 0)) (fun k => ?_) (Ev.of_eq fun _ => rfl)
          simp only [M.matrix_Apply.l0]
          rw [if_neg (by omega), List.take_of_length_le (by rw [List.length_map]; omega)]
        | succ d ih =>
          intro i hi
          have hlt : i < a.length := by omega
          have hdot := dot_ev hp (fld_row ha.fld i) hv (harow i hlt) (by have := harow i hlt; omega)
          have h1 := ih (i + 1) (by omega)
          rw [List.take_succ_eq_append_getElem (by rw [List.length_map]; exact hlt), List.getElem_map, ← getD_row hlt] at h1
          refine Ev.of_succ (g := fun k => (M.matrix_dot.f k p (a.getD i []) v).bind fun t => M.matrix_Apply.l0 k p v ((a.map fun row => dotN p (fun j => row.getD j 0 * v.getD j 0) row.length).take i ++ [t]) a (a.length : Int) ((i + 1 : Nat) : Int)) (fun k => ?_) (Ev.bind hdot h1)
          conv => lhs; simp only [M.matrix_Apply.l0]
          rw [if_pos (by omega), if_pos (by omega), if_pos (by omega), rdL]
          refine congrArg (Option.bind _) (funext fun t => ?_)
          rw [if_pos (by rw [List.length_take]; omega), wrap_in (by omega) (by omega)]
          rfl
      refine Ev.of_succ (fun k => ?_) (hl0 a.length 0 (by omega))
      simp only [M.matrix_Apply.j0, Bool.false_eq_true, if_false]
      rfl
    · have hne : (((a.headD []).length : Int) != (v.length : Int)) = true := bne_iff_ne.mpr (by omega)
      rw [hne]
      exact hj (by unfold applyS; rw [decide_eq_false hd, Bool.and_false, if_neg (by decide)])
  · have hra' : rectB a = false := by simpa using hra
    rw [hra']
    simp only [Bool.false_eq_true, if_false]
    exact hj (by unfold applyS; rw [hra', Bool.false_and, if_neg (by decide)])
theorem rapply_ev {p : Int} {a : List (List Int)} {v : List Int} {kk : Nat} (ha : FairP p a kk) (hv : allF p v = true) (hk : kk ≤ 1000) : Ev (fun k => M.privityref06_Apply.f k p a v) (applyS p a v) := by
  have hp := ha.hp
  have hla := ha.len
  have hj : ∀ {r : List Int × Int}, r = ([], 1) → Ev (fun k => M.privityref06_Apply.j0 k p a v true) r := fun e => by
    subst e
    exact Ev.of_succ (g := fun _ => some ([], 1)) (fun k => by simp only [M.privityref06_Apply.j0]; rfl) (Ev.of_eq fun _ => rfl)
  unfold M.privityref06_Apply.f
  refine Ev.bind (rect_ev a (by omega)) ?_
  by_cases hra : rectB a = true
  · rw [if_pos hra]
    simp only [if_true]
    by_cases hd : (a.headD []).length = v.length
    · have hne : (((a.headD []).length : Int) != (v.length : Int)) = false := bne_eq_false_iff_eq.mpr (by omega)
      rw [hne]
      have hres : applyS p a v = (a.map fun row => dotN p (fun j => row.getD j 0 * v.getD j 0) row.length, 0) := by
        unfold applyS
        rw [hra, decide_eq_true hd]
        rfl
      rw [hres]
      have harow : ∀ j, j < a.length → (a.getD j []).length = v.length := fun j hj => by rw [rect_row hra hj]; exact hd
      have hvl : v.length ≤ kk := by rw [← hd]; exact ha.wd
      have hl0 : ∀ (d i : Nat), i + d = a.length → Ev (fun k => M.privityref06_Apply.l0 k p a v ((a.map fun row => dotN p (fun j => row.getD j 0 * v.getD j 0) row.length).take i) (i : Int)) (a.map fun row => dotN p (fun j => row.getD j 0 * v.getD j 0) row.length, 0) := by
        intro d
        induction d with
        | zero =>
          intro i hi
          refine Ev.of_succ (g := fun _ => some (a.map fun row => dotN p (fun j => row.getD j 0 * v.getD j 0) row.length, 0)) (fun k => ?_) (Ev.of_eq fun _ => rfl)
          simp only [M.privityref06_Apply.l0]
          rw [if_neg (by omega), List.take_of_length_le (by rw [List.length_map]; omega)]
        | succ d ih =>
          intro i hi
          have hlt : i < a.length := by omega
          have hdot := rdot_ev hp (fld_row ha.fld i) hv (harow i hlt) (by have := harow i hlt; omega)
          have h1 := ih (i + 1) (by omega)
          rw [List.take_succ_eq_append_getElem (by rw [List.length_map]; exact hlt), List.getElem_map, ← getD_row hlt] at h1
          refine Ev.of_succ (g := fun k => (M.privityref06_Dot.f k p (a.getD i []) v).bind fun t => M.privityref06_Apply.l0 k p a v ((a.map fun row => dotN p (fun j => row.getD j 0 * v.getD j 0) row.length).take i ++ [t]) ((i + 1 : Nat) : Int)) (fun k => ?_) (Ev.bind hdot h1)
          conv => lhs; simp only [M.privityref06_Apply.l0]
          rw [if_pos (by omega), if_pos (by omega), rdL]
          refine congrArg (Option.bind _) (funext fun t => ?_)
          rw [if_pos (by rw [List.length_take]; omega), wrap_in (by omega) (by omega)]
          rfl
      refine Ev.of_succ (fun k => ?_) (hl0 a.length 0 (by omega))
      simp only [M.privityref06_Apply.j0, Bool.false_eq_true, if_false]
      rfl
    · have hne : (((a.headD []).length : Int) != (v.length : Int)) = true := bne_iff_ne.mpr (by omega)
      rw [hne]
      exact hj (by unfold applyS; rw [decide_eq_false hd, Bool.and_false, if_neg (by decide)])
  · have hra' : rectB a = false := by simpa using hra
    rw [hra']
    simp only [Bool.false_eq_true, if_false]
    exact hj (by unfold applyS; rw [hra', Bool.false_and, if_neg (by decide)])
theorem same_ev (m : List (List Int)) (hm : m.length ≤ 1000) (hr : ∀ i, (m.getD i []).length ≤ 1000) : Ev (fun k => M.privityref06_Same.f k m m) true := by
  have key : ∀ (d i : Nat), i + d = m.length → Ev (fun k => M.privityref06_Same.l0 k m m (i : Int)) true := by
    intro d
    induction d with
    | zero =>
      intro i hi
      refine Ev.of_succ (g := fun _ => some true) (fun k => ?_) (Ev.of_eq fun _ => rfl)
      simp only [M.privityref06_Same.l0]
      rw [if_neg (by omega)]
    | succ d ih =>
      intro i hi
      refine Ev.of_succ (g := fun k => (M.privityref06_SameList.f k (m.getD i []) (m.getD i [])).bind fun t => if t = true then M.privityref06_Same.l0 k m m ((i + 1 : Nat) : Int) else some false) (fun k => ?_) (Ev.bind (sameList_ev _ (by have := hr i; omega)) (by simp only [if_true]; exact ih (i + 1) (by omega)))
      conv => lhs; simp only [M.privityref06_Same.l0]
      rw [if_pos (by omega), if_pos (by omega), if_pos (by omega), rdL, wrap_in (by omega) (by omega)]
      rfl
  refine Ev.congr (fun k => ?_) (key m.length 0 (by omega))
  unfold M.privityref06_Same.f
  rw [if_pos rfl]
  rfl
theorem mulS_small {p : Int} {a b : List (List Int)} {kk : Nat} (ha : FairP p a kk) (hb : FairP p b kk) (hk : kk ≤ 1000) : (mulS p a b).1.length ≤ 1000 ∧ ∀ i, ((mulS p a b).1.getD i []).length ≤ 1000 := by
  have hla := ha.len
  unfold mulS
  split
  · refine ⟨by rw [List.length_map]; omega, fun i => ?_⟩
    dsimp only
    rw [List.getD_eq_getElem?_getD, List.getElem?_map]
    cases a[i]? with
    | none => simp
    | some r =>
      show (mulRow p r b (b.headD []).length).length ≤ 1000
      unfold mulRow
      rw [List.length_map, List.length_range]
      have := hb.wd
      omega
  · simp
theorem applyS_small {p : Int} {a : List (List Int)} {v : List Int} {kk : Nat} (ha : FairP p a kk) (hk : kk ≤ 1000) : (applyS p a v).1.length ≤ 1000000 := by
  have hla := ha.len
  unfold applyS
  split
  · rw [List.length_map]; omega
  · simp
theorem pure_product (p : Int) (a b : List (List Int)) (v : List Int) (hna : ∀ r ∈ a, ∀ x ∈ r, 0 ≤ x) (hnb : ∀ r ∈ b, ∀ x ∈ r, 0 ≤ x) (hnv : ∀ x ∈ v, 0 ≤ x) : ∃ k, M.privitylaw06_MatrixProduct.f k p a b v = some true := by
  have hval : Ev (fun k => M.privitylaw06_validOperands.f k p a b v) (fairB p a 10 && (fairB p b 10 && (decide (v.length ≤ 10) && allF p v))) := by
    unfold M.privitylaw06_validOperands.f
    refine Ev.bind (fair_ev p a 10 (by omega) hna) ?_
    by_cases h1 : fairB p a 10 = true
    · rw [h1]
      simp only [if_true, Bool.true_and]
      refine Ev.bind (fair_ev p b 10 (by omega) hnb) ?_
      by_cases h2 : fairB p b 10 = true
      · rw [h2]
        simp only [if_true, Bool.true_and]
        exact Ev.bind (below_ev p v 10 (by omega) hnv) (Ev.of_eq fun _ => rfl)
      · have h2' : fairB p b 10 = false := by simpa using h2
        rw [h2']
        exact Ev.of_eq fun _ => rfl
    · have h1' : fairB p a 10 = false := by simpa using h1
      rw [h1']
      exact Ev.of_eq fun _ => rfl
  refine Ev.ex ?_
  unfold M.privitylaw06_MatrixProduct.f
  refine Ev.bind hval ?_
  by_cases h : (fairB p a 10 && (fairB p b 10 && (decide (v.length ≤ 10) && allF p v))) = true
  · rw [h]
    simp only [if_true]
    simp only [Bool.and_eq_true, decide_eq_true_eq] at h
    obtain ⟨ha, hb, _, hv⟩ := h
    have fa := fairB_iff ha
    have fb := fairB_iff hb
    refine Ev.bind (mul_ev fa fb (by omega)) (Ev.bind (rmul_ev fa fb (by omega)) (Ev.bind (apply_ev fa hv (by omega)) (Ev.bind (rapply_ev fa hv (by omega)) (Ev.bind awake6 ?_))))
    simp only [if_true]
    have hs := mulS_small fa fb (by omega)
    refine Ev.bind (same_ev _ hs.1 hs.2) ?_
    simp only [if_true]
    exact Ev.bind (sameList_ev _ (applyS_small fa (by omega))) (Ev.of_eq fun _ => rfl)
  · have h' : (fairB p a 10 && (fairB p b 10 && (decide (v.length ≤ 10) && allF p v))) = false := by simpa using h
    rw [h']
    simp only [Bool.false_eq_true, if_false]
    exact Ev.bind awake6 (Ev.of_eq fun _ => rfl)
end Go.Proofs.Ytkjknpibcbpdfaa
