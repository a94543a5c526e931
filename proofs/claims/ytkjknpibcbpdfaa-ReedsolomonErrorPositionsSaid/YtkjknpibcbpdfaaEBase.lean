/- What the laws 08 share, over plain numbers and lists: the guards, the indices of the points that do not lie on a polynomial, the example. -/
import Derived.Test.YtkjknpibcbpdfaaEEv
import Derived.Test.YtkjknpibcbpdfaaD5
import Derived.Test.YtkjknpibcbpdfaaDB
import Derived.Test.YtkjknpibcbpdfaaDE
namespace Go.Proofs.Ytkjknpibcbpdfaa.D
open Go.RowKit Go.Proofs.YtkjknpibcbpdfaaW.PrintWords
set_option linter.unusedVariables false
set_option linter.unusedSimpArgs false

theorem fit_7 : ∀ i : Nat, i < 7 → ∃ p, okp p = true ∧ (∀ a : Int, 0 ≤ a → a % 7 = i → D.privityref01_Fit.f a = some p) := by
  intro i hi
  have key : ∀ (j : Int) (p : Int), D.privityref01_Fit.f j = some p → 0 ≤ j → j < 7 → ∀ a : Int, 0 ≤ a → a % 7 = j → D.privityref01_Fit.f a = some p := by
    intro j p h j0 j1 a a0 e
    unfold D.privityref01_Fit.f at h ⊢
    have e7 : IntKind.u64.wrap (([5, 7, 13, 17, 19, 31, 61] : List Int).length : Int) = 7 := by decide
    simp only [D.privityref01_exps.f, Option.bind_some, e7] at h ⊢
    rw [tmod_nn j 7 j0, show j % 7 = j by omega] at h
    rw [tmod_nn a 7 a0, e]
    exact h
  match i, hi with
  | 0, _ => exact ⟨31, by decide, key 0 31 (by decide +kernel) (by omega) (by omega)⟩
  | 1, _ => exact ⟨127, by decide, key 1 127 (by decide +kernel) (by omega) (by omega)⟩
  | 2, _ => exact ⟨8191, by decide, key 2 8191 (by decide +kernel) (by omega) (by omega)⟩
  | 3, _ => exact ⟨131071, by decide, key 3 131071 (by decide +kernel) (by omega) (by omega)⟩
  | 4, _ => exact ⟨524287, by decide, key 4 524287 (by decide +kernel) (by omega) (by omega)⟩
  | 5, _ => exact ⟨2147483647, by decide, key 5 2147483647 (by decide +kernel) (by omega) (by omega)⟩
  | 6, _ => exact ⟨2305843009213693951, by decide, key 6 2305843009213693951 (by decide +kernel) (by omega) (by omega)⟩
theorem fit_ok (a : Int) (h : 0 ≤ a) : ∃ p, okp p = true ∧ D.privityref01_Fit.f a = some p := by
  obtain ⟨p, hp, hf⟩ := fit_7 (a % 7).toNat (by omega)
  exact ⟨p, hp, hf a h (by omega)⟩
def wordsL (p : Int) (l : List Int) (n : Nat) : List Int := (l.take n).map (· % p)
theorem wordsL_allF {p : Int} (hp : okp p = true) (l : List Int) (n : Nat) : allF p (wordsL p l n) = true := allF_of fun y hy => by
  unfold wordsL at hy
  obtain ⟨z, _, rfl⟩ := List.mem_map.1 hy
  exact inF_mod hp _
theorem wordsL_length (p : Int) (l : List Int) (n : Nat) : (wordsL p l n).length = min n l.length := by unfold wordsL; simp
theorem words_l (p : Int) (hp : okp p = true) (l : List Int) (hl : ∀ x ∈ l, 0 ≤ x) (n : Nat) (hn : n ≤ 1000) : ∀ (d i k : Nat), min n l.length - i = d → i ≤ min n l.length → d < k → D.privityref04_Words.l0 k p l (n : Int) ((wordsL p l n).take i) (i : Int) = some (wordsL p l n) := by
  have hlo := okp_lo hp
  have hlen := wordsL_length p l n
  intro d
  induction d with
  | zero =>
    intro i k hd hi hk
    obtain ⟨k, rfl⟩ : ∃ m, k = m + 1 := ⟨k - 1, by omega⟩
    have e : (wordsL p l n).take i = wordsL p l n := List.take_of_length_le (by omega)
    simp only [D.privityref04_Words.l0, e]
    by_cases h1 : (i : Int) < (l.length : Int)
    · rw [if_pos h1, if_neg (by omega)]
    · rw [if_neg h1]
  | succ d ih =>
    intro i k hd hi hk
    obtain ⟨k, rfl⟩ : ∃ m, k = m + 1 := ⟨k - 1, by omega⟩
    simp only [D.privityref04_Words.l0]
    rw [if_pos (by omega), if_pos (by omega), if_pos (by omega), if_neg (by omega), if_pos (by rw [List.length_take]; omega), wrap_in (by omega) (by omega), rd_nat]
    have hil : i < l.length := by omega
    have e : (wordsL p l n).take i ++ [Int.tmod (l.getD i 0) p] = (wordsL p l n).take (i + 1) := by
      rw [take_succ_snoc _ i (by omega), getD_lt hil, getD_lt (l := wordsL p l n) (by omega)]
      unfold wordsL
      rw [List.getElem_map, List.getElem_take, tmod_nn _ _ (hl _ (List.getElem_mem _))]
    rw [e]
    exact ih (i + 1) k (by omega) (by omega) (by omega)
theorem words_eq (p : Int) (hp : okp p = true) (l : List Int) (hl : ∀ x ∈ l, 0 ≤ x) (n : Nat) (hn : n ≤ 1000) (k : Nat) (hk : n < k) : D.privityref04_Words.f k p l (n : Int) = some (wordsL p l n) := by
  unfold D.privityref04_Words.f
  exact words_l p hp l hl n hn (min n l.length) 0 k (by omega) (by omega) (by omega)
theorem r04_eval_l (p x : Int) (hp : okp p = true) (hx : inF p x = true) (f : List Int) (hf : allF p f = true) (hl : f.length ≤ 1000000) : ∀ (d i k : Nat), f.length - i = d → i ≤ f.length → d < k →
    D.privityref04_Eval.l0 k p f x (ev (f.take i) x % p) (x ^ i % p) (i : Int) = some (ev f x % p) := by
  intro d
  induction d with
  | zero =>
    intro i k hd hi hk
    obtain ⟨k, rfl⟩ : ∃ m, k = m + 1 := ⟨k - 1, by omega⟩
    simp only [D.privityref04_Eval.l0]
    rw [if_neg (by omega), show i = f.length by omega, List.take_length]
  | succ d ih =>
    intro i k hd hi hk
    obtain ⟨k, rfl⟩ : ∃ m, k = m + 1 := ⟨k - 1, by omega⟩
    simp only [D.privityref04_Eval.l0]
    rw [if_pos (by omega), if_pos (by omega), rd_nat, gmul hp (allF_getD hp hf i) (inF_mod hp _)]
    simp only [Option.bind_some]
    rw [gadd hp (inF_mod hp _) (inF_mod hp _)]
    simp only [Option.bind_some]
    rw [gmul hp (inF_mod hp _) hx]
    simp only [Option.bind_some]
    rw [wrap_in (by omega) (by omega)]
    have e1 : (ev (f.take i) x % p + f.getD i 0 * (x ^ i % p) % p) % p = ev (f.take (i + 1)) x % p := by
      rw [take_succ_snoc f i (by omega), ev_append, ← Int.add_emod, List.length_take, show min i f.length = i by omega, Int.add_emod, Int.mul_emod (f.getD i 0), Int.emod_emod_of_dvd _ (Int.dvd_refl p), ← Int.mul_emod, ← Int.add_emod, Int.mul_comm]
      simp only [ev, Int.mul_zero, Int.add_zero]
    have e2 : x ^ i % p * x % p = x ^ (i + 1) % p := by
      rw [Int.pow_succ, Int.mul_emod, Int.emod_emod_of_dvd _ (Int.dvd_refl p), ← Int.mul_emod]
    rw [e1, e2]
    exact ih (i + 1) k (by omega) (by omega) (by omega)
theorem r04_eval (p x : Int) (hp : okp p = true) (hx : inF p x = true) (f : List Int) (hf : allF p f = true) (hl : f.length ≤ 1000000) (k : Nat) (hk : f.length < k) : D.privityref04_Eval.f k p f x = some (ev f x % p) := by
  unfold D.privityref04_Eval.f
  have hlo := okp_lo hp
  have := r04_eval_l p x hp hx f hf hl f.length 0 k (by omega) (by omega) hk
  rwa [List.take_zero, show ev [] x % p = 0 from Int.zero_emod p, Int.pow_zero, Int.emod_eq_of_lt (by omega) (by omega)] at this

abbrev Pt := S71
theorem rdPt (l : List Pt) (i : Nat) : rd_T71 l (i : Int) = l.getD i z71 := by unfold rd_T71; rw [Int.toNat_natCast]
theorem getD_pt {l : List Pt} {i : Nat} (h : i < l.length) : l.getD i z71 = l[i] := by rw [List.getD_eq_getElem?_getD, List.getElem?_eq_getElem h]; rfl
/-- Both coordinates are reduced. -/
def okPts (p : Int) (l : List Pt) : Prop := ∀ q ∈ l, inF p q.f0 = true ∧ inF p q.f1 = true
/-- The points that 'Points' makes. -/
def ptsL (p : Int) (l : List Pt) (n : Nat) : List Pt := (l.take n).map fun q => ⟨q.f0 % p, q.f1 % p⟩
theorem ptsL_ok {p : Int} (hp : okp p = true) (l : List Pt) (n : Nat) : okPts p (ptsL p l n) := fun q hq => by
  unfold ptsL at hq
  obtain ⟨z, _, rfl⟩ := List.mem_map.1 hq
  exact ⟨inF_mod hp _, inF_mod hp _⟩
theorem ptsL_length (p : Int) (l : List Pt) (n : Nat) : (ptsL p l n).length = min n l.length := by unfold ptsL; simp
theorem take_succ_pt {α : Type} (a : List α) (k : Nat) (h : k < a.length) : a.take (k + 1) = a.take k ++ [a[k]] := List.take_succ_eq_append_getElem h
theorem points_l (p : Int) (hp : okp p = true) (l : List Pt) (hl : ∀ q ∈ l, 0 ≤ q.f0 ∧ 0 ≤ q.f1) (n : Nat) (hn : n ≤ 1000) : ∀ (d i k : Nat), min n l.length - i = d → i ≤ min n l.length → d < k → D.privityref08_Points.l0 k p l (n : Int) ((ptsL p l n).take i) (i : Int) = some (ptsL p l n) := by
  have hlo := okp_lo hp
  have hlen := ptsL_length p l n
  intro d
  induction d with
  | zero =>
    intro i k hd hi hk
    obtain ⟨k, rfl⟩ : ∃ m, k = m + 1 := ⟨k - 1, by omega⟩
    have e : (ptsL p l n).take i = ptsL p l n := List.take_of_length_le (by omega)
    simp only [D.privityref08_Points.l0, e]
    by_cases h1 : (i : Int) < (l.length : Int)
    · rw [if_pos h1, if_neg (by omega)]
    · rw [if_neg h1]
  | succ d ih =>
    intro i k hd hi hk
    obtain ⟨k, rfl⟩ : ∃ m, k = m + 1 := ⟨k - 1, by omega⟩
    simp only [D.privityref08_Points.l0]
    have hil : i < l.length := by omega
    rw [if_pos (by omega), if_pos (by omega), if_pos (by omega), if_neg (by omega), if_pos (by rw [List.length_take]; omega), wrap_in (by omega) (by omega), rdPt, getD_pt hil]
    have e : (ptsL p l n).take i ++ [(⟨Int.tmod l[i].f0 p, Int.tmod l[i].f1 p⟩ : Pt)] = (ptsL p l n).take (i + 1) := by
      rw [take_succ_pt _ i (by omega)]
      have h := hl _ (List.getElem_mem hil)
      unfold ptsL
      rw [List.getElem_map, List.getElem_take, tmod_nn _ _ h.1, tmod_nn _ _ h.2]
    rw [e]
    exact ih (i + 1) k (by omega) (by omega) (by omega)
theorem points_ev (p : Int) (hp : okp p = true) (l : List Pt) (hl : ∀ q ∈ l, 0 ≤ q.f0 ∧ 0 ≤ q.f1) (n : Nat) (hn : n ≤ 1000) : Ev (fun k => D.privityref08_Points.f k p l (n : Int)) (ptsL p l n) :=
  ⟨n + 1, fun k hk => by
    unfold D.privityref08_Points.f
    exact points_l p hp l hl n hn (min n l.length) 0 k (by omega) (by omega) (by omega)⟩
theorem fit8 (a0 : Int) (l : List Pt) (d w : Int) (h0 : 0 ≤ a0) (hl : ∀ q ∈ l, 0 ≤ q.f0 ∧ 0 ≤ q.f1) : ∃ p, okp p = true ∧ Ev (fun k => D.privitylaw08_fit.f k a0 l d w) (p, ptsL p l 9) := by
  obtain ⟨p, hp, hf⟩ := fit_ok a0 h0
  refine ⟨p, hp, ?_⟩
  unfold D.privitylaw08_fit.f
  simp only [hf, Option.bind_some]
  exact Ev.bind (points_ev p hp l hl 9 (by omega)) (Ev.of_eq fun _ => rfl)
theorem words_ev (p : Int) (hp : okp p = true) (l : List Int) (hl : ∀ x ∈ l, 0 ≤ x) (n : Nat) (hn : n ≤ 1000) : Ev (fun k => D.privityref04_Words.f k p l (n : Int)) (wordsL p l n) := ⟨n + 1, fun k hk => words_eq p hp l hl n hn k (by omega)⟩
/-! ### the indices of the errors -/
def errsF (p : Int) (f : List Int) : List Pt → Nat → List Int
  | [], _ => []
  | q :: t, i => if ev f q.f0 % p = q.f1 then errsF p f t (i + 1) else (i : Int) :: errsF p f t (i + 1)
theorem errsF_length (p : Int) (f : List Int) : ∀ (l : List Pt) (i : Nat), (errsF p f l i).length ≤ l.length
  | [], _ => Nat.le_refl _
  | q :: t, i => by
    unfold errsF
    have := errsF_length p f t (i + 1)
    split
    · simp only [List.length_cons]; omega
    · simp only [List.length_cons]; omega
theorem p_eval_ev (p x : Int) (hp : okp p = true) (hx : inF p x = true) (f : List Int) (hf : allF p f = true) (hl : f.length ≤ 1000000) : Ev (fun k => D.poly_Eval.f k p f x) (ev f x % p) := ⟨f.length + 1, fun k hk => p_eval p x hp hx f hf hl k (by omega)⟩
theorem r_eval_ev (p x : Int) (hp : okp p = true) (hx : inF p x = true) (f : List Int) (hf : allF p f = true) (hl : f.length ≤ 1000000) : Ev (fun k => D.privityref04_Eval.f k p f x) (ev f x % p) := ⟨f.length + 1, fun k hk => r04_eval p x hp hx f hf hl k (by omega)⟩
theorem p_errs (p : Int) (hp : okp p = true) (f : List Int) (hf : allF p f = true) (lf : f.length ≤ 1000000) (l : List Pt) (hl : okPts p l) (ll : l.length ≤ 1000000) : Ev (fun k => D.reedsolomon_ErrorPositions.f k p f l) (errsF p f l 0) := by
  have key : ∀ (d i : Nat) (acc : List Int), i + d = l.length → acc.length ≤ i → Ev (fun k => D.reedsolomon_ErrorPositions.l0 k p f acc l (l.length : Int) (i : Int)) (acc ++ errsF p f (l.drop i) i) := by
    intro d
    induction d with
    | zero =>
      intro i acc hi ha
      rw [List.drop_eq_nil_of_le (by omega)]
      refine Ev.of_succ (g := fun _ => some (acc ++ errsF p f [] i)) (fun k => ?_) (Ev.of_eq fun _ => rfl)
      simp only [D.reedsolomon_ErrorPositions.l0]
      rw [if_neg (by omega)]
      unfold errsF
      rw [List.append_nil]
    | succ d ih =>
      intro i acc hi ha
      have hlt : i < l.length := by omega
      have hq := hl _ (List.getElem_mem hlt)
      rw [List.drop_eq_getElem_cons hlt]
      refine Ev.of_succ (g := fun k => (D.poly_Eval.f k p f l[i].f0).bind fun t => if t = l[i].f1 then D.reedsolomon_ErrorPositions.l0 k p f acc l (l.length : Int) ((i + 1 : Nat) : Int) else D.reedsolomon_ErrorPositions.l0 k p f (acc ++ [(i : Int)]) l (l.length : Int) ((i + 1 : Nat) : Int)) (fun k => ?_) (Ev.bind (p_eval_ev p _ hp hq.1 f hf lf) ?_)
      · conv => lhs; simp only [D.reedsolomon_ErrorPositions.l0]
        rw [if_pos (by omega), if_pos (by omega), if_pos (by omega), if_pos (by omega), rdPt, getD_pt hlt, wrap_in (by omega) (by omega)]
        rfl
      · unfold errsF
        by_cases h : ev f l[i].f0 % p = l[i].f1
        · rw [if_pos h]
          simp only [if_pos h]
          exact ih (i + 1) acc (by omega) (by omega)
        · rw [if_neg h]
          simp only [if_neg h]
          have := ih (i + 1) (acc ++ [(i : Int)]) (by omega) (by rw [List.length_append]; simp; omega)
          rwa [List.append_assoc] at this
  have := key l.length 0 [] (by omega) (by simp)
  rw [List.drop_zero] at this
  exact this
theorem r_errs (p : Int) (hp : okp p = true) (f : List Int) (hf : allF p f = true) (lf : f.length ≤ 1000000) (l : List Pt) (hl : okPts p l) (ll : l.length ≤ 1000000) : Ev (fun k => D.privityref08_ErrorPositions.f k p f l) (errsF p f l 0) := by
  have key : ∀ (d i : Nat) (acc : List Int), i + d = l.length → acc.length ≤ i → Ev (fun k => D.privityref08_ErrorPositions.l0 k p f l acc (i : Int)) (acc ++ errsF p f (l.drop i) i) := by
    intro d
    induction d with
    | zero =>
      intro i acc hi ha
      rw [List.drop_eq_nil_of_le (by omega)]
      refine Ev.of_succ (g := fun _ => some (acc ++ errsF p f [] i)) (fun k => ?_) (Ev.of_eq fun _ => rfl)
      simp only [D.privityref08_ErrorPositions.l0]
      rw [if_neg (by omega)]
      unfold errsF
      rw [List.append_nil]
    | succ d ih =>
      intro i acc hi ha
      have hlt : i < l.length := by omega
      have hq := hl _ (List.getElem_mem hlt)
      rw [List.drop_eq_getElem_cons hlt]
      refine Ev.of_succ (g := fun k => (D.privityref04_Eval.f k p f l[i].f0).bind fun t => if t = l[i].f1 then D.privityref08_ErrorPositions.l0 k p f l acc ((i + 1 : Nat) : Int) else D.privityref08_ErrorPositions.l0 k p f l (acc ++ [(i : Int)]) ((i + 1 : Nat) : Int)) (fun k => ?_) (Ev.bind (r_eval_ev p _ hp hq.1 f hf lf) ?_)
      · conv => lhs; simp only [D.privityref08_ErrorPositions.l0]
        rw [if_pos (by omega), if_pos (by omega), if_pos (by omega), rdPt, getD_pt hlt, wrap_in (by omega) (by omega)]
        rfl
      · unfold errsF
        by_cases h : ev f l[i].f0 % p = l[i].f1
        · rw [if_pos h]
          simp only [if_pos h]
          exact ih (i + 1) acc (by omega) (by omega)
        · rw [if_neg h]
          simp only [if_neg h]
          have := ih (i + 1) (acc ++ [(i : Int)]) (by omega) (by rw [List.length_append]; simp; omega)
          rwa [List.append_assoc] at this
  have := key l.length 0 [] (by omega) (by simp)
  rw [List.drop_zero] at this
  exact this
/-! ### Places -/
theorem places_same (l : List Int) (ll : l.length ≤ 1000000) : Ev (fun k => D.privityref08_Places.f k l l) true := by
  have key : ∀ (d i : Nat), i + d = l.length → Ev (fun k => D.privityref08_Places.l0 k l l (i : Int)) true := by
    intro d
    induction d with
    | zero =>
      intro i hi
      refine Ev.of_succ (g := fun _ => some true) (fun k => ?_) (Ev.of_eq fun _ => rfl)
      simp only [D.privityref08_Places.l0]
      rw [if_neg (by omega)]
    | succ d ih =>
      intro i hi
      refine Ev.of_succ (fun k => ?_) (ih (i + 1) (by omega))
      conv => lhs; simp only [D.privityref08_Places.l0]
      rw [if_pos (by omega), if_pos (by omega), if_pos (by omega), if_pos trivial, wrap_in (by omega) (by omega)]
      rfl
  refine Ev.congr (fun k => ?_) (key l.length 0 (by omega))
  unfold D.privityref08_Places.f
  rw [if_pos rfl]
  rfl
theorem awake8 : Ev (fun k => D.privitylaw08_awake.f k) true := by
  have h : D.privitylaw08_awake.f 100 = some true := by decide +kernel
  exact ⟨100, fun K hK => at_rounds (fun k => D.privitylaw08_awake.mono k) hK h⟩
/-- The law ErrorPositions, over plain numbers. -/
theorem pure_errs (a0 : Int) (l : List Pt) (d w : Int) (f : List Int) (h0 : 0 ≤ a0) (hl : ∀ q ∈ l, 0 ≤ q.f0 ∧ 0 ≤ q.f1) (hf : ∀ x ∈ f, 0 ≤ x) : ∃ k, D.privitylaw08_ReedsolomonErrorPositions.f k a0 l d w f = some true := by
  obtain ⟨p, hp, hfit⟩ := fit8 a0 l d w h0 hl
  have hP := ptsL_ok hp l 9
  have lP := ptsL_length p l 9
  have hg := wordsL_allF hp f 12
  have lg := wordsL_length p f 12
  have hw := words_ev p hp f hf 12 (by omega)
  generalize ptsL p l 9 = P at *
  generalize wordsL p f 12 = g at *
  refine Ev.ex (r := true) ?_
  unfold D.privitylaw08_ReedsolomonErrorPositions.f
  refine Ev.bind hfit (Ev.bind hw (Ev.bind awake8 ?_))
  simp only [if_true]
  refine Ev.bind (p_errs p hp g hg (by omega) P hP (by omega)) (Ev.bind (r_errs p hp g hg (by omega) P hP (by omega)) (Ev.bind (places_same _ ?_) (Ev.of_eq fun _ => rfl)))
  have := errsF_length p g P 0
  omega
end Go.Proofs.Ytkjknpibcbpdfaa.D
