/- What the walk of matrix.reduce needs beside it: a row's cells, rows that are half worked. -/
import Derived.Test.YtkjknpibcbpdfaaMat6
namespace Go.Proofs.Ytkjknpibcbpdfaa
open Go.RowKit Go.Proofs.YtkjknpibcbpdfaaW.PrintWords Go.Proofs.YtkjknpibcbpdfaaW.PrintLast Go.Proofs.YtkjknpibcbpdfaaW.PrintMore
set_option linter.unusedVariables false
set_option linter.unusedSimpArgs false

theorem mul_f {p a b : Int} (hp : okp p = true) (ha : inF p a = true) (hb : inF p b = true) : field_Mul.f p a b = some (a * b % p) := by unfold field_Mul.f; rw [hp, ha, hb]; rfl
theorem sub_f {p a b : Int} (hp : okp p = true) (ha : inF p a = true) (hb : inF p b = true) : field_Sub.f p a b = some ((a - b) % p) := by unfold field_Sub.f; rw [hp, ha, hb]; rfl
theorem neg_f {p a : Int} (hp : okp p = true) (ha : inF p a = true) : field_Neg.f p a = some ((-a) % p) := by unfold field_Neg.f; rw [hp, ha]; rfl
theorem inv_f {p a : Int} (hp : okp p = true) (ha : inF p a = true) : field_Inverse.f p a = some (invF p a) := by unfold field_Inverse.f; rw [hp, ha]; rfl
theorem allF_at {p : Int} (hp : okp p = true) {l : List Int} (h : allF p l = true) (i : Nat) : inF p (l.getD i 0) = true := by
  by_cases hi : i < l.length
  · rw [List.getD_eq_getElem?_getD, List.getElem?_eq_getElem hi]
    exact List.all_eq_true.1 h _ (List.getElem_mem _)
  · rw [List.getD_eq_getElem?_getD, List.getElem?_eq_none (by omega)]
    exact inF_iff.2 ⟨by show (0 : Int) ≤ 0; omega, by show (0 : Int) < p; have := okp_lo hp; omega⟩
theorem Wide.at {p : Int} {n w : Nat} {m : List (List Int)} (h : Wide p n w m) (hp : okp p = true) (i c : Nat) : inF p (cellAt m i c) = true := allF_at hp (h.fld i) c

theorem findP_skip (T : List (List Int)) (j i M : Nat) (hi : i < M) (h : cellAt T i j = 0) : findP T j (M - (i + 1)) (i + 1) = findP T j (M - i) i := by
  obtain ⟨d, hd⟩ : ∃ d, M - i = d + 1 := ⟨M - i - 1, by omega⟩
  rw [hd, show M - (i + 1) = d by omega]
  conv => rhs; unfold findP
  rw [if_neg (by simp [h])]
theorem findP_hit (T : List (List Int)) (j i M : Nat) (hi : i < M) (h : cellAt T i j ≠ 0) : findP T j (M - i) i = some i := by
  obtain ⟨d, hd⟩ : ∃ d, M - i = d + 1 := ⟨M - i - 1, by omega⟩
  rw [hd]
  unfold findP
  rw [if_pos h]
theorem redCol_none (p : Int) (T : List (List Int)) (piv : List Int) (det : Int) (j : Nat) (h : findP T j (T.length - piv.length) piv.length = none) : redCol p (T, piv, det) j = (T, piv, det) := by
  unfold redCol
  dsimp only
  rw [h]
theorem redCol_some (p : Int) (T : List (List Int)) (piv : List Int) (det : Int) (j q : Nat) (h : findP T j (T.length - piv.length) piv.length = some q) {T1 : List (List Int)} {d1 : Int} (hT : T1 = if q = piv.length then T else swapL [] T (q : Int) (piv.length : Int)) (hd : d1 = if q = piv.length then det else (-det) % p) :
    redCol p (T, piv, det) j = (elimAll p j piv.length (scaleR p (invF p (cellAt T1 piv.length j)).1 (T1.getD piv.length [])) (T1.set piv.length (scaleR p (invF p (cellAt T1 piv.length j)).1 (T1.getD piv.length []))), piv ++ [(j : Int)], d1 * cellAt T1 piv.length j % p) := by
  unfold redCol
  dsimp only
  rw [h]
  dsimp only
  rw [← hT, ← hd]
theorem invF_inF {p x : Int} (hp : okp p = true) : inF p (invF p x).1 = true := by
  unfold invF
  split
  · exact inF_iff.2 ⟨by show (0 : Int) ≤ 0; omega, by show (0 : Int) < p; have := okp_lo hp; omega⟩
  · exact inF_mod hp _
/-! ### a row that is half scaled -/
def scaleK (p inv : Int) (k : Nat) (row : List Int) : List Int := row.mapIdx fun j v => if j < k then inv * v % p else v
theorem scaleK_length (p inv : Int) (k : Nat) (row : List Int) : (scaleK p inv k row).length = row.length := by unfold scaleK; simp
theorem scaleK_zero (p inv : Int) (row : List Int) : scaleK p inv 0 row = row := by
  unfold scaleK
  refine List.ext_getElem (by simp) fun i h1 h2 => ?_
  simp
theorem scaleK_step (p inv : Int) (k : Nat) (row : List Int) : (scaleK p inv k row).set k (inv * row.getD k 0 % p) = scaleK p inv (k + 1) row := by
  unfold scaleK
  refine List.ext_getElem (by simp) fun i h1 h2 => ?_
  have hi : i < row.length := by simpa using h2
  rw [List.getElem_set]
  simp only [List.getElem_mapIdx]
  by_cases e : k = i
  · subst e
    rw [if_pos rfl, if_pos (by omega), List.getD_eq_getElem?_getD, List.getElem?_eq_getElem hi]
    rfl
  · rw [if_neg e]
    by_cases h : i < k
    · rw [if_pos h, if_pos (by omega)]
    · rw [if_neg h, if_neg (by omega)]
theorem scaleK_at (p inv : Int) (k : Nat) (row : List Int) : (scaleK p inv k row).getD k 0 = row.getD k 0 := by
  unfold scaleK
  rw [List.getD_eq_getElem?_getD, List.getElem?_mapIdx, List.getD_eq_getElem?_getD]
  cases row[k]? <;> simp
theorem scaleK_done (p inv : Int) (row : List Int) : scaleK p inv row.length row = scaleR p inv row := by
  unfold scaleK scaleR
  refine List.ext_getElem (by simp) fun i h1 h2 => ?_
  have hi : i < row.length := by simpa using h2
  simp [hi]
/-! ### a row that is half freed -/
def elimK (p k : Int) (prow : List Int) (j : Nat) (row : List Int) : List Int := row.mapIdx fun q a => if q < j then (a - k * prow.getD q 0 % p) % p else a
theorem elimK_length (p k : Int) (prow : List Int) (j : Nat) (row : List Int) : (elimK p k prow j row).length = row.length := by unfold elimK; simp
theorem elimK_zero (p k : Int) (prow : List Int) (row : List Int) : elimK p k prow 0 row = row := by
  unfold elimK
  refine List.ext_getElem (by simp) fun i h1 h2 => ?_
  simp
theorem elimK_step (p k : Int) (prow : List Int) (j : Nat) (row : List Int) : (elimK p k prow j row).set j ((row.getD j 0 - k * prow.getD j 0 % p) % p) = elimK p k prow (j + 1) row := by
  unfold elimK
  refine List.ext_getElem (by simp) fun i h1 h2 => ?_
  have hi : i < row.length := by simpa using h2
  rw [List.getElem_set]
  simp only [List.getElem_mapIdx]
  by_cases e : j = i
  · subst e
    rw [if_pos rfl, if_pos (by omega), List.getD_eq_getElem?_getD, List.getElem?_eq_getElem hi]
    rfl
  · rw [if_neg e]
    by_cases h : i < j
    · rw [if_pos h, if_pos (by omega)]
    · rw [if_neg h, if_neg (by omega)]
theorem elimK_at (p k : Int) (prow : List Int) (j : Nat) (row : List Int) : (elimK p k prow j row).getD j 0 = row.getD j 0 := by
  unfold elimK
  rw [List.getD_eq_getElem?_getD, List.getElem?_mapIdx, List.getD_eq_getElem?_getD (l := row)]
  generalize row[j]? = o
  cases o <;> simp
theorem elimK_done (p k : Int) (prow row : List Int) (h : prow.length = row.length) : elimK p k prow row.length row = elimR p k prow row := by
  unfold elimK elimR
  refine List.ext_getElem (by simp [h]) fun i h1 h2 => ?_
  have hi : i < row.length := by simpa using h1
  have hi2 : i < prow.length := by omega
  rw [List.getElem_mapIdx, List.getElem_zipWith, if_pos hi, List.getD_eq_getElem?_getD, List.getElem?_eq_getElem hi2]
  rfl
/-! ### a table whose first rows are freed -/
def elimI (p : Int) (c r : Nat) (prow : List Int) (i : Nat) (m : List (List Int)) : List (List Int) := m.mapIdx fun q row => if i ≤ q ∨ q = r ∨ row.getD c 0 = 0 then row else elimR p (row.getD c 0) prow row
theorem elimI_length (p : Int) (c r : Nat) (prow : List Int) (i : Nat) (m : List (List Int)) : (elimI p c r prow i m).length = m.length := by unfold elimI; simp
theorem elimI_zero (p : Int) (c r : Nat) (prow : List Int) (m : List (List Int)) : elimI p c r prow 0 m = m := by
  unfold elimI
  refine List.ext_getElem (by simp) fun i h1 h2 => ?_
  simp
theorem elimI_done (p : Int) (c r : Nat) (prow : List Int) (m : List (List Int)) : elimI p c r prow m.length m = elimAll p c r prow m := by
  unfold elimI elimAll
  refine List.ext_getElem (by simp) fun i h1 h2 => ?_
  have hi : i < m.length := by simpa using h2
  simp only [List.getElem_mapIdx]
  have : (m.length ≤ i ∨ i = r ∨ m[i].getD c 0 = 0) ↔ (i = r ∨ m[i].getD c 0 = 0) := ⟨fun h => h.elim (fun h => by omega) id, .inr⟩
  simp only [this]
theorem elimI_at (p : Int) (c r : Nat) (prow : List Int) (i q : Nat) (m : List (List Int)) (h : i ≤ q ∨ q = r) : (elimI p c r prow i m).getD q [] = m.getD q [] := by
  unfold elimI
  rw [List.getD_eq_getElem?_getD, List.getElem?_mapIdx, List.getD_eq_getElem?_getD]
  cases m[q]? with
  | none => rfl
  | some x =>
    show (if i ≤ q ∨ q = r ∨ x.getD c 0 = 0 then x else elimR p (x.getD c 0) prow x) = x
    rw [if_pos (h.elim .inl (fun h => .inr (.inl h)))]
theorem elimI_skip (p : Int) (c r : Nat) (prow : List Int) (i : Nat) (m : List (List Int)) (h : i = r ∨ cellAt m i c = 0) : elimI p c r prow (i + 1) m = elimI p c r prow i m := by
  unfold elimI
  refine List.ext_getElem (by simp) fun q h1 h2 => ?_
  have hq : q < m.length := by simpa using h2
  simp only [List.getElem_mapIdx]
  by_cases e : q = i
  · subst e
    have h' : q = r ∨ m[q].getD c 0 = 0 := by
      unfold cellAt at h
      rwa [List.getD_eq_getElem?_getD (l := m), List.getElem?_eq_getElem hq] at h
    rw [if_pos (.inr h'), if_pos (.inr h')]
  · have e1 : (i + 1 ≤ q) = (i ≤ q) := propext ⟨fun h => by omega, fun h => by omega⟩
    simp only [e1]
theorem elimI_step (p : Int) (c r : Nat) (prow : List Int) (i : Nat) (m : List (List Int)) (h : ¬ i = r) (h2 : ¬ cellAt m i c = 0) : (elimI p c r prow i m).set i (elimR p (cellAt m i c) prow (m.getD i [])) = elimI p c r prow (i + 1) m := by
  unfold elimI
  refine List.ext_getElem (by simp) fun q h1 h3 => ?_
  have hq : q < m.length := by simpa using h3
  rw [List.getElem_set]
  simp only [List.getElem_mapIdx]
  by_cases e : i = q
  · subst e
    have hm : m.getD i [] = m[i] := by rw [List.getD_eq_getElem?_getD, List.getElem?_eq_getElem hq]; rfl
    have hc : cellAt m i c = m[i].getD c 0 := by unfold cellAt; rw [hm]
    rw [hc] at h2
    rw [if_pos rfl, if_neg (by omega), hc, hm]
  · have e1 : (i + 1 ≤ q) = (i ≤ q) := propext ⟨fun h => by omega, fun h => by omega⟩
    rw [if_neg e]
    simp only [e1]
theorem getD_set_self {α : Type} (l : List α) (i : Nat) (x z : α) (h : i < l.length) : (l.set i x).getD i z = x := by
  rw [List.getD_eq_getElem?_getD, List.getElem?_set_self h]; rfl
theorem getD_set_ne {α : Type} (l : List α) (i j : Nat) (x z : α) (h : i ≠ j) : (l.set i x).getD j z = l.getD j z := by
  rw [List.getD_eq_getElem?_getD, List.getElem?_set_ne h, ← List.getD_eq_getElem?_getD]
theorem cell_ne {w : World} {a b : Addr} {u v : Value} (ha : w.cell? a = some u) (hb : w.cell? b = some v) (h : u ≠ v) : a ≠ b := by
  intro e
  subst e
  exact h (Option.some.inj (ha.symm.trans hb))
/-- A row of the table: read, and written. -/
theorem WInv.rowL {W : World} {base g gt n ct : Nat} {p det : Int} {pv : Value} {m : List (List Int)} {piv : List Int} (h : WInv W base g p (.slice (some ⟨gt, 0, none⟩) n ct) m pv piv det) (i : Nat) (hi : i < m.length) {L : Nat} (hL : (m.getD i []).length = L) (hne : 0 < L) :
    ∃ gr cr, base ≤ gr ∧ W.cell? ⟨gt, i, none⟩ = some (.slice (some ⟨gr, 0, none⟩) L cr) ∧
      (∀ j, j < L → W.cell? ⟨gr, j, none⟩ = some (.int .u64 (cellAt m i j)) ∧ W.frozen? ⟨gr, j, none⟩ = false) ∧
      ∀ (j : Nat) (x : Int), WInv (W.setCell ⟨gr, j, none⟩ (.int .u64 x)) base g p (.slice (some ⟨gt, 0, none⟩) n ct) (m.set i ((m.getD i []).set j x)) pv piv det := by
  subst hL
  obtain ⟨gt', ct', gr, cr, ev, hb, hx, hc, hs⟩ := h.row i hi hne
  cases ev
  exact ⟨gr, cr, hb, hx, hc, fun j x => (hs j x).1⟩
theorem WInv.vform {W : World} {base g : Nat} {p det : Int} {v pv : Value} {m : List (List Int)} {piv : List Int} (h : WInv W base g p v m pv piv det) (hi : 0 < m.length) : ∃ gt ct, v = .slice (some ⟨gt, 0, none⟩) m.length ct ∧ base ≤ gt := by
  obtain ⟨gt, ct, e, h1, _, _⟩ := Kd.S_form h.hs hi
  exact ⟨gt, ct, e, h1⟩
theorem okp_good {p : Int} {m : List (List Int)} (h : goodM p m = true) : okp p = true := by
  unfold goodM at h
  simp only [Bool.and_eq_true] at h
  exact h.1.1.1
theorem rinfo3 : (Try.prog.info? 3).map (fun i => (i.zero, i.size, i.bytes)) = some (some (.int .i64 0), 1, 8) := by kernel_rfl
theorem WInv.pushP {W W' : World} {base g : Nat} {p det : Int} {v pv pv' : Value} {m : List (List Int)} {piv piv' : List Int} (h : WInv W base g p v m pv piv det) (hg : W.grownBy W' pv.ownBlock) (hp : Kd.R (Kd.int .i64) 3 W' base (fun _ => True) pv' piv') :
    WInv (W'.setCell ⟨g, 2, none⟩ pv') base g p v m pv' piv' det ∧ W'.frozen? ⟨g, 2, none⟩ = false ∧ W'.cell? ⟨g, 2, none⟩ = some pv := by
  obtain ⟨h1, h2⟩ := h.grownP hg hp
  exact ⟨⟨blk_put h1 2 _ rfl, h.hb, Kd.S_set h2 h1 (by decide) 2 _, Kd.R_set hp h1 (by decide) 2 _⟩, blk_frozen h1 2, (blk_cell h1 2).trans rfl⟩
theorem scaleT_step (p iv : Int) (k r : Nat) (T : List (List Int)) (hr : r < T.length) : (T.set r (scaleK p iv k (T.getD r []))).set r (((T.set r (scaleK p iv k (T.getD r []))).getD r []).set k (iv * cellAt T r k % p)) = T.set r (scaleK p iv (k + 1) (T.getD r [])) := by
  rw [getD_set_self _ _ _ _ hr, List.set_set]
  unfold cellAt
  rw [scaleK_step]
theorem scaleT_at (p iv : Int) (k r : Nat) (T : List (List Int)) (hr : r < T.length) : cellAt (T.set r (scaleK p iv k (T.getD r []))) r k = cellAt T r k := by
  unfold cellAt
  rw [getD_set_self _ _ _ _ hr, scaleK_at]
theorem scaleT_zero (p iv : Int) (r : Nat) (T : List (List Int)) (hr : r < T.length) : T.set r (scaleK p iv 0 (T.getD r [])) = T := by
  rw [scaleK_zero, List.getD_eq_getElem?_getD, List.getElem?_eq_getElem hr]
  exact List.set_getElem_self hr
theorem elimT_step (p k : Int) (prow : List Int) (q i : Nat) (U T : List (List Int)) (hi : i < U.length) : (U.set i (elimK p k prow q (T.getD i []))).set i (((U.set i (elimK p k prow q (T.getD i []))).getD i []).set q ((cellAt T i q - k * prow.getD q 0 % p) % p)) = U.set i (elimK p k prow (q + 1) (T.getD i [])) := by
  rw [getD_set_self _ _ _ _ hi, List.set_set]
  unfold cellAt
  rw [elimK_step]
theorem elimT_at (p k : Int) (prow : List Int) (q i : Nat) (U T : List (List Int)) (hi : i < U.length) : cellAt (U.set i (elimK p k prow q (T.getD i []))) i q = cellAt T i q := by
  unfold cellAt
  rw [getD_set_self _ _ _ _ hi, elimK_at]
theorem elimT_zero (p k : Int) (prow : List Int) (i : Nat) (U T : List (List Int)) (hi : i < U.length) (h : U.getD i [] = T.getD i []) : U.set i (elimK p k prow 0 (T.getD i [])) = U := by
  rw [elimK_zero, ← h, List.getD_eq_getElem?_getD, List.getElem?_eq_getElem hi]
  exact List.set_getElem_self hi
theorem elimI_wide {p : Int} (hp : okp p = true) {n w : Nat} {m : List (List Int)} (h : Wide p n w m) (c r : Nat) (prow : List Int) (hl : prow.length = w) (i : Nat) : Wide p n w (elimI p c r prow i m) := by
  have key : ∀ j, (elimI p c r prow i m).getD j [] = if j < n then (if i ≤ j ∨ j = r ∨ (m.getD j []).getD c 0 = 0 then m.getD j [] else elimR p ((m.getD j []).getD c 0) prow (m.getD j [])) else [] := by
    intro j
    unfold elimI
    rw [List.getD_eq_getElem?_getD, List.getElem?_mapIdx]
    by_cases hj : j < n
    · have hj2 : j < m.length := by rw [h.len]; exact hj
      rw [if_pos hj, List.getElem?_eq_getElem hj2, List.getD_eq_getElem?_getD (l := m), List.getElem?_eq_getElem hj2]
      rfl
    · rw [if_neg hj, List.getElem?_eq_none (by rw [h.len]; omega)]
      rfl
  refine ⟨by rw [elimI_length]; exact h.len, fun j hj => ?_, fun j => ?_⟩
  · rw [key, if_pos hj]
    split
    · exact h.row j hj
    · unfold elimR
      rw [List.length_zipWith, h.row j hj, hl, Nat.min_self]
  · rw [key]
    split
    · split
      · exact h.fld j
      · exact elimR_allF hp _ _ _
    · rfl
theorem goodM_wd {p : Int} {m : List (List Int)} (h : goodM p m = true) : (m.headD []).length ≤ 1048576 := by
  unfold goodM fewR at h
  simp only [Bool.and_eq_true, List.all_eq_true, decide_eq_true_eq] at h
  cases m with
  | nil => simp
  | cons r t => exact h.2.2 r (List.mem_cons_self ..)
end Go.Proofs.Ytkjknpibcbpdfaa
