/- Two rows of a table of one's own, swapped. -/
import Derived.Test.YtkjknpibcbpdfaaMat2
namespace Go.Proofs.Ytkjknpibcbpdfaa
open Go.RowKit Go.Proofs.YtkjknpibcbpdfaaW.PrintWords Go.Proofs.YtkjknpibcbpdfaaW.PrintLast Go.Proofs.YtkjknpibcbpdfaaW.PrintMore
set_option linter.unusedVariables false
set_option linter.unusedSimpArgs false

def swapL {α : Type} (z : α) (l : List α) (i r : Int) : List α := (l.set i.toNat (l.getD r.toNat z)).set r.toNat (l.getD i.toNat z)
theorem swapL_length {α : Type} (z : α) (l : List α) (i r : Int) : (swapL z l i r).length = l.length := by unfold swapL; simp
open Classical in
theorem S_swap {α : Type} {d : Kd α} {e g n cap base : Nat} {ok : Nat → Prop} {W : World} {xs : List (List α)} {e2 : Nat} (h : Kd.S (Kd.slice e2 d) e W base ok (.slice (some ⟨g, 0, none⟩) n cap) xs) (i r : Int) (hi0 : 0 ≤ i) (hi : i < n) (hr0 : 0 ≤ r) (hr : r < n) {vi vr : Value}
    (hvi : W.cell? ⟨g, i.toNat, none⟩ = some vi) (hvr : W.cell? ⟨g, r.toNat, none⟩ = some vr) :
    Kd.S (Kd.slice e2 d) e ((W.setCell ⟨g, i.toNat, none⟩ vr).setCell ⟨g, r.toNat, none⟩ vi) base ok (.slice (some ⟨g, 0, none⟩) n cap) (swapL [] xs i r) ∧ W.grownBy ((W.setCell ⟨g, i.toNat, none⟩ vr).setCell ⟨g, r.toNat, none⟩ vi) (some g) := by
  obtain ⟨f, hR⟩ := h
  have hn := (Kd.R_reads' hR).1
  rw [List.length_zipIdx] at hn
  obtain ⟨h0, inner, ho, hrep⟩ := hR
  rw [List.length_zipIdx] at ho
  have hsz : (Kd.tag f (Kd.slice e2 d)).sz = 1 := rfl
  rw [hsz] at ho hrep
  have hlen : inner.length = xs.length := by have := hrep.1; rw [List.length_zipIdx, Nat.mul_one] at this; exact this
  subst hn
  have hii : i.toNat < inner.length := by omega
  have hrr : r.toNat < inner.length := by omega
  have hci : inner[i.toNat] = vi := by
    have := ho.cells (g := g) (by simp [Value.ownBlock]) i.toNat _ (List.getElem?_eq_getElem hii)
    rw [add_plain] at this
    rw [hvi] at this
    exact (Option.some.inj this).symm
  have hcr : inner[r.toNat] = vr := by
    have := ho.cells (g := g) (by simp [Value.ownBlock]) r.toNat _ (List.getElem?_eq_getElem hrr)
    rw [add_plain] at this
    rw [hvr] at this
    exact (Option.some.inj this).symm
  have cell1 : ∀ (l : List Value) (m : Nat) (hm : m < l.length), (l.drop (m * 1)).take 1 = [l[m]] := fun l m hm => by
    rw [Nat.mul_one, List.drop_eq_getElem_cons hm]
    rfl
  obtain ⟨s1, g1⟩ := ho.stored i.toNat vr
  obtain ⟨s2, g2⟩ := s1.stored r.toNat vi
  have old : ∀ (j : Nat) (hj : j < xs.length) (P : Nat → Prop), (∀ k, f k = j → P k) → (Kd.slice e2 d).M ((W.setCell ⟨g, i.toNat, none⟩ vr).setCell ⟨g, r.toNat, none⟩ vi) base (fun k => (ok k ∧ some k ≠ (Value.slice (some ⟨g, 0, none⟩) xs.length cap).ownBlock) ∧ P k) xs[j] [inner[j]'(by omega)] := by
    intro j hj P hP
    have hm := hrep.2 j _ (Kd.zip_at (List.getElem?_eq_getElem hj))
    rw [cell1 inner j (by omega)] at hm
    have hm2 : (Kd.slice e2 d).M W base (fun k => (ok k ∧ some k ≠ (Value.slice (some ⟨g, 0, none⟩) xs.length cap).ownBlock) ∧ f k = j) xs[j] [inner[j]'(by omega)] := hm
    refine (Kd.slice e2 d).M_mono (fun k hk => ⟨hk.1, hP k hk.2⟩) ((Kd.slice e2 d).M_move (fun k hk => ?_) hm2)
    have hkg : k ≠ g := fun e => hk.1.2 (by rw [e]; simp [Value.ownBlock])
    rw [Below.heap_setCell _ _ _ k hkg, Below.heap_setCell _ _ _ k hkg]
  refine ⟨⟨fun k => if f k = i.toNat then r.toNat else if f k = r.toNat then i.toNat else f k, h0, (inner.set i.toNat vr).set r.toNat vi, ?_, ?_, fun m p hm => ?_⟩, g1.trans g2⟩
  · rw [List.length_zipIdx, swapL_length]
    exact s2
  · rw [List.length_zipIdx, swapL_length]
    show _ = xs.length * 1
    simp [hlen]
  · rw [List.getElem?_zipIdx, Nat.zero_add] at hm
    obtain ⟨q, hq, rfl⟩ := Option.map_eq_some_iff.1 hm
    have hml : m < xs.length := by have := (List.getElem?_eq_some_iff.1 hq).1; rwa [swapL_length] at this
    show (Kd.slice e2 d).M _ base (fun k => _ ∧ _ = m) q (List.take 1 (List.drop (m * 1) _))
    rw [cell1 _ m (by simp; omega)]
    have gi : xs.getD i.toNat [] = xs[i.toNat] := by rw [List.getD_eq_getElem?_getD, List.getElem?_eq_getElem (show i.toNat < xs.length by omega)]; rfl
    have gr : xs.getD r.toNat [] = xs[r.toNat] := by rw [List.getD_eq_getElem?_getD, List.getElem?_eq_getElem (show r.toNat < xs.length by omega)]; rfl
    unfold swapL at hq
    rw [gi, gr] at hq
    by_cases e1 : m = r.toNat
    · subst e1
      rw [List.getElem?_set_self (by simp; omega)] at hq
      obtain rfl := Option.some.inj hq
      rw [List.getElem_set_self]
      have h1 := old i.toNat (by omega) (fun k => (if f k = i.toNat then r.toNat else if f k = r.toNat then i.toNat else f k) = r.toNat) (fun k hk => if_pos hk)
      rw [hci] at h1
      exact h1
    · rw [List.getElem?_set_ne (fun e => e1 e.symm)] at hq
      rw [List.getElem_set_ne (fun e => e1 e.symm)]
      by_cases e2_ : m = i.toNat
      · subst e2_
        rw [List.getElem?_set_self (by omega)] at hq
        obtain rfl := Option.some.inj hq
        rw [List.getElem_set_self]
        have h1 := old r.toNat (by omega) (fun k => (if f k = i.toNat then r.toNat else if f k = r.toNat then i.toNat else f k) = i.toNat) (fun k hk => by rw [if_neg (by omega), if_pos hk])
        rw [hcr] at h1
        exact h1
      · rw [List.getElem?_set_ne (fun e => e2_ e.symm), List.getElem?_eq_getElem hml] at hq
        obtain rfl := Option.some.inj hq
        rw [List.getElem_set_ne (fun e => e2_ e.symm)]
        exact old m hml (fun k => (if f k = i.toNat then r.toNat else if f k = r.toNat then i.toNat else f k) = m) (fun k hk => by rw [if_neg (by omega), if_neg (by omega), hk])
end Go.Proofs.Ytkjknpibcbpdfaa
