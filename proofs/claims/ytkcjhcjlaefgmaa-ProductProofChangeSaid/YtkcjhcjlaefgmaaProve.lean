/- productproof.Prove's walk. -/
import Derived.Test.YtkcjhcjlaefgmaaProveA
namespace Go.Proofs.Ytkcjhcjlaefgmaa
open Go.RowKit Go.Shelf Go.Proofs.YtkcjhcjlaefgmaaW.PrintWords Go.Proofs.YtkcjhcjlaefgmaaW.PrintLast
attribute [local go_sem] Oper.semAt_some
set_option linter.unusedVariables false
set_option linter.unusedSimpArgs false

theorem EndK.np {K : Act → World → Prop} {c : List PanicEntry} {a a' : Act} {w : World} (h : EndK K (.panic c) a w) : EndK K (.panic c) a' w := by cases h.1
theorem stop_here {q : Prop} (h : Aside0 q) : q := h.out
/-- The three boxes of the parameters. -/
structure PBox (W : World) (base : Nat) (p : Int) (t : Nat) (vr : Value) : Prop where
 b0 : W.heap[base]? = some (.cells #[.int .u64 p] 22 (0, 0))
 b1 : W.heap[base + 1]? = some (.cells #[.int .i64 (t : Int)] 3 (0, 0))
 b2 : W.heap[base + 2]? = some (.cells #[vr] 23 (0, 0))
theorem PBox.new (w : World) (p : Int) (t : Nat) (vr : Value) : PBox (((w.alloc (.cells #[.int .u64 p] 22)).alloc (.cells #[.int .i64 (t : Int)] 3)).alloc (.cells #[vr] 23)) w.heap.size p t vr :=
 ⟨blk_alloc (blk_alloc (blk_new w _) _) _, blk_alloc (by have := blk_new (w.alloc (.cells #[.int .u64 p] 22)) (.cells #[.int .i64 (t : Int)] 3); rwa [World.size_alloc] at this) _,
 by have := blk_new ((w.alloc (.cells #[.int .u64 p] 22)).alloc (.cells #[.int .i64 (t : Int)] 3)) (.cells #[vr] 23); rwa [World.size_alloc, World.size_alloc] at this⟩
theorem PBox.move {W W' : World} {base : Nat} {p : Int} {t : Nat} {vr : Value} (h : PBox W base p t vr) (hm : ∀ k, k < base + 3 → W'.heap[k]? = W.heap[k]?) : PBox W' base p t vr :=
 ⟨(hm _ (by omega)).trans h.b0, (hm _ (by omega)).trans h.b1, (hm _ (by omega)).trans h.b2⟩
theorem PBox.lt {W : World} {base : Nat} {p : Int} {t : Nat} {vr : Value} (h : PBox W base p t vr) : base + 2 < W.heap.size := blk_lt h.b2

/-- Between two rounds: the boxes, the two variables, the row that is left, the table. -/
structure PLoop (W : World) (base : Nat) (p : Int) (t : Nat) (vr : Value) (gv gl cl gw gd cd : Nat) (s : List Int × List (List Int)) : Prop where
 pb : PBox W base p t vr
 hv : W.heap[gv]? = some (.cells #[.slice (some ⟨gl, 0, none⟩) (2 * t + 1) cl] 23 (0, 0))
 hw : W.heap[gw]? = some (.cells #[.slice (some ⟨gd, 0, none⟩) t cd] 28 (0, 0))
 hl : Kd.R (Kd.int .u64) 22 W base (fun k => k = gl) (.slice (some ⟨gl, 0, none⟩) (2 * t + 1) cl) s.1
 hs : Kd.S (Kd.slice 22 (Kd.int .u64)) 23 W base (fun k => base + 3 ≤ k ∧ k ≠ gv ∧ k ≠ gw ∧ k ≠ gl) (.slice (some ⟨gd, 0, none⟩) t cd) s.2
 al : allF p s.1 = true
theorem PLoop.own {base : Nat} {p : Int} {t : Nat} {vr : Value} {gv gl cl gw gd cd : Nat} {β : Type} (st : β → List Int × List (List Int)) (B : Nat) : OwnFrom B (fun (b : β) W => PLoop W base p t vr gv gl cl gw gd cd (st b)) := by
 intro s A B' row h hg hr
 have keep : ∀ (k : Nat) (cs : Array Value) (ty : TypeId), A.heap[k]? = some (Obj.cells cs ty (0, 0)) → B'.heap[k]? = some (Obj.cells cs ty (0, 0)) := by
  intro k cs ty hk
  refine (hg.block k (Array.getElem?_eq_some_iff.1 hk).1 (fun e => ?_)).trans hk
  obtain ⟨_, o, ho, hc⟩ := hr k e.symm
  rw [hk] at ho
  obtain rfl := Option.some.inj ho
  cases hc
 refine ⟨⟨keep _ _ _ h.pb.b0, keep _ _ _ h.pb.b1, keep _ _ _ h.pb.b2⟩, keep _ _ _ h.hv, keep _ _ _ h.hw, ?_, ?_, h.al⟩
 ·refine Kd.R_mono (Kd.R_grown (Kd.R_bound h.hl) hg (fun k hk e => ?_)) (fun k hk => hk.1)
  obtain ⟨_, _, _, q, _, cells, hc⟩ := hk
  obtain ⟨_, o, ho, hcc⟩ := hr k e.symm
  rw [hc] at ho
  obtain rfl := Option.some.inj ho
  cases hcc
 ·refine Kd.S_mono (Kd.S_grown (Kd.S_bound h.hs) hg (fun k hk e => ?_)) (fun k hk => hk.1)
  obtain ⟨_, _, _, q, _, cells, hc⟩ := hk
  obtain ⟨_, o, ho, hcc⟩ := hr k e.symm
  rw [hc] at ho
  obtain rfl := Option.some.inj ho
  cases hcc

theorem PLoop.drew {W : World} {base : Nat} {p : Int} {t : Nat} {vr : Value} {gv gl cl gw gd cd : Nat} {s : List Int × List (List Int)} (h : PLoop W base p t vr gv gl cl gw gd cd s) : PLoop W.drew base p t vr gv gl cl gw gd cd s :=
 ⟨⟨h.pb.b0, h.pb.b1, h.pb.b2⟩, h.hv, h.hw, Kd.R_drew h.hl, Kd.S_drew h.hs, h.al⟩
theorem padN_allF {p : Int} (hp : okp p = true) {l : List Int} (h : allF p l = true) (n : Nat) : allF p (padN l n) = true := by
 unfold padN
 refine allF_append (allF_take h _) (allF_drop (allF_of fun y hy => ?_) _)
 rw [List.eq_of_mem_replicate hy]
 exact inF_iff.2 ⟨by omega, by have := okp_lo hp; omega⟩
theorem half_le (t n : Nat) (h : 2 * t + 1 = n) : t + 1 ≤ n := by omega
theorem t_wrap1 (t : Nat) (h : t ≤ 1000) : wrap64 ((t : Int) + 1) = (t : Int) + 1 := wrap_in (by omega) (by omega)
theorem t_nn (t : Nat) : (0 : Int) ≤ (t : Int) + 1 := by omega
theorem t_nat1 (t : Nat) : ((t : Int) + 1).toNat = t + 1 := by omega
theorem t_few (t : Nat) (h : t ≤ 1000) : ((t : Int) + 1).toNat * 8 ≤ 281474976710656 := by omega
theorem t_pos (t : Nat) : 0 < (List.replicate (t + 1) (0 : Int)).length := by simp
theorem x_lo (x t : Nat) (h : 1 ≤ x) : (0 : Int) ≤ ((x : Int) - 1) * (t : Int) := Int.mul_nonneg (by omega) (by omega)
theorem x_le (x t : Nat) : ((x : Int) - 1) * (t : Int) ≤ (x : Int) * (t : Int) := Int.mul_le_mul_of_nonneg_right (by omega) (by omega)
theorem x_hi (x t n : Nat) (h : x ≤ t) (hn : n = t * t) : (x : Int) * (t : Int) ≤ (n : Int) := by
 rw [hn, Int.natCast_mul]
 exact Int.mul_le_mul_of_nonneg_right (by omega) (by omega)
theorem x_mul (x t : Nat) (h : x ≤ t) (ht : t ≤ 1000) : (x : Int) * (t : Int) ≤ 1000000 := by
 have h1 : x * t ≤ 1000 * 1000 := Nat.mul_le_mul (by omega) ht
 have h2 : (x : Int) * (t : Int) = ((x * t : Nat) : Int) := (Int.natCast_mul x t).symm
 omega
theorem i64_wrap_in {x : Int} (h0 : -9223372036854775808 ≤ x) (h1 : x ≤ 9223372036854775807) : IntKind.i64.wrap x = x := by rw [i64_w]; exact wrap_in h0 h1
theorem x_wlo (x t : Nat) (h1 : 1 ≤ x) (h : x ≤ t) (ht : t ≤ 1000) : wrap64 (((x : Int) - 1) * (t : Int)) = ((x : Int) - 1) * (t : Int) := by
 have a := x_lo x t h1
 have b := x_le x t
 have c := x_mul x t h ht
 exact wrap_in (by omega) (by omega)
theorem x_whi (x t : Nat) (h : x ≤ t) (ht : t ≤ 1000) : wrap64 ((x : Int) * (t : Int)) = (x : Int) * (t : Int) := by
 have a : (0 : Int) ≤ (x : Int) * (t : Int) := Int.mul_nonneg (by omega) (by omega)
 have c := x_mul x t h ht
 exact wrap_in (by omega) (by omega)
theorem seg_copy (l : List Int) (x t : Nat) (h1 : 1 ≤ x) (h2 : x ≤ t) (ht : t ≤ 1000) (hl : l.length = t * t) :
  ((l.take (wrap64 ((x : Int) * (t : Int))).toNat).drop (wrap64 (((x : Int) - 1) * (t : Int))).toNat).take (min (min (wrap64 ((x : Int) * (t : Int))).toNat l.length - (wrap64 (((x : Int) - 1) * (t : Int))).toNat) (List.replicate (t + 1) (0 : Int)).length) ++
   (List.replicate (t + 1) (0 : Int)).drop (min (min (wrap64 ((x : Int) * (t : Int))).toNat l.length - (wrap64 (((x : Int) - 1) * (t : Int))).toNat) (List.replicate (t + 1) (0 : Int)).length) = (l.take (x * t)).drop ((x - 1) * t) ++ [0] := by
 rw [x_wlo x t h1 h2 ht, x_whi x t h2 ht]
 obtain ⟨y, rfl⟩ : ∃ y, x = y + 1 := ⟨x - 1, by omega⟩
 have e1 : (((y + 1 : Nat) : Int) * (t : Int)).toNat = (y + 1) * t := by rw [← Int.natCast_mul]; exact Int.toNat_natCast _
 have e2 : ((((y + 1 : Nat) : Int) - 1) * (t : Int)).toNat = y * t := by rw [show ((y + 1 : Nat) : Int) - 1 = (y : Int) by omega, ← Int.natCast_mul]; exact Int.toNat_natCast _
 have h3 : (y + 1) * t ≤ t * t := Nat.mul_le_mul_right _ h2
 have h4 : (y + 1) * t = y * t + t := Nat.succ_mul y t
 rw [e1, e2, List.length_replicate, Nat.add_sub_cancel, show min (min ((y + 1) * t) l.length - y * t) (t + 1) = t by omega, List.take_of_length_le (by rw [List.length_drop, List.length_take]; omega), List.drop_replicate, show t + 1 - t = 1 by omega]
 rfl
theorem x_wrap (x t : Nat) (h : x ≤ t) (ht : t ≤ 1000) : wrap64 ((x : Int) + (t : Int)) = (x : Int) + (t : Int) := wrap_in (by omega) (by omega)
theorem x_in (x t : Nat) (h : x ≤ t) : x + t < 2 * t + 1 := by omega
theorem x_nn (x t : Nat) : (0 : Int) ≤ (x : Int) + (t : Int) := by omega
theorem x_ini (x t : Nat) (h : x ≤ t) : (x : Int) + (t : Int) < 2 * (t : Int) + 1 := by omega
theorem x_ton (x t : Nat) : ((x : Int) + (t : Int)).toNat = x + t := by omega
theorem t_lt (t : Nat) : (t : Int) < (t : Int) + 1 := by omega
theorem round_set (l : List Int) (x t : Nat) (h1 : 1 ≤ x) (h2 : x ≤ t) (hl : l.length = t * t) (left : List Int) : ((l.take (x * t)).drop ((x - 1) * t) ++ [0]).set t (left.getD (x + t) 0) = roundF t l x left := by
 have h3 : x * t ≤ t * t := Nat.mul_le_mul_right _ h2
 have h4 : x * t = (x - 1) * t + t := by
  obtain ⟨y, rfl⟩ : ∃ y, x = y + 1 := ⟨x - 1, by omega⟩
  rw [Nat.add_sub_cancel, Nat.succ_mul]
 have hlen : ((l.take (x * t)).drop ((x - 1) * t)).length = t := by rw [List.length_drop, List.length_take]; omega
 unfold roundF
 rw [List.set_append_right _ _ (by omega), hlen, Nat.sub_self]
 rfl
theorem xi_wrap (x i t : Nat) (h : x ≤ t) (ht : t ≤ 1000) (hi : i < t + 1) : wrap64 ((x : Int) + (i : Int)) = (x : Int) + (i : Int) := wrap_in (by omega) (by omega)
theorem xi_ini (x i t : Nat) (h : x ≤ t) (hi : i < t + 1) : (x : Int) + (i : Int) < 2 * (t : Int) + 1 := by omega
theorem xi_in (x i t : Nat) (h : x ≤ t) (hi : i < t + 1) : x + i < 2 * t + 1 := by omega
theorem cut_left (t gl cl : Nat) (ht : t ≤ 1000) (h : 2 * t + 1 ≤ cl) : ∀ W : World, (Instr.slice 23 (.slice (some ⟨gl, 0, none⟩) (2 * t + 1) cl) none (some (.int .i64 ((t : Int) + 1))) none).run Try.prog W = .ok (.slice (some ⟨gl, 0, none⟩) (t + 1) cl) W := by
 obtain ⟨i0, hi0, _⟩ := info_parts rinfo22
 have hcut := cut_to (P := Try.prog) 23 22 .i64 Try.underlying23 hi0 (some ⟨gl, 0, none⟩) (2 * t + 1) cl ((t : Int) + 1) (by omega) (by omega) (by omega)
 rwa [show ((t : Int) + 1).toNat = t + 1 by omega] at hcut

/-- Within a round: as PLoop, and the row f of the round, apart from all else. -/
structure PRound (W : World) (base : Nat) (p : Int) (t : Nat) (vr : Value) (gv gl cl gw gd cd gf cf : Nat) (left f : List Int) (D : List (List Int)) : Prop where
 pb : PBox W base p t vr
 hv : W.heap[gv]? = some (.cells #[.slice (some ⟨gl, 0, none⟩) (2 * t + 1) cl] 23 (0, 0))
 hw : W.heap[gw]? = some (.cells #[.slice (some ⟨gd, 0, none⟩) t cd] 28 (0, 0))
 hl : Kd.R (Kd.int .u64) 22 W base (fun k => k = gl) (.slice (some ⟨gl, 0, none⟩) (2 * t + 1) cl) left
 hs : Kd.S (Kd.slice 22 (Kd.int .u64)) 23 W base (fun k => (base + 3 ≤ k ∧ k ≠ gv ∧ k ≠ gw ∧ k ≠ gl) ∧ k ≠ gf) (.slice (some ⟨gd, 0, none⟩) t cd) D
 hf : Kd.R (Kd.int .u64) 22 W base (fun k => k = gf) (.slice (some ⟨gf, 0, none⟩) (t + 1) cf) f
 nf : base + 3 ≤ gf ∧ gf ≠ gv ∧ gf ≠ gw ∧ gf ≠ gl
 nl : base + 3 ≤ gl ∧ gl ≠ gv ∧ gl ≠ gw
section
variable {W W' : World} {base : Nat} {p : Int} {t : Nat} {vr : Value} {gv gl cl gw gd cd gf cf : Nat} {left f : List Int} {D : List (List Int)}
theorem PRound.cellL (h : PRound W base p t vr gv gl cl gw gd cd gf cf left f D) (i : Nat) (hi : i < 2 * t + 1) : W.cell? ⟨gl, i, none⟩ = some (.int .u64 (left.getD i 0)) := by
 have hc := (Kd.R_celln (0 : Int) h.hl (i : Int) (by omega) (by omega)).1
 rw [Int.toNat_natCast] at hc
 rw [hc]
 unfold rdOf
 rw [Int.toNat_natCast]
theorem PRound.frozenF (h : PRound W base p t vr gv gl cl gw gd cd gf cf left f D) (i : Nat) (hi : i < t + 1) : W.cell? ⟨gf, i, none⟩ = some (.int .u64 (f.getD i 0)) ∧ W.frozen? ⟨gf, i, none⟩ = false := by
 have hc := Kd.R_celln (0 : Int) h.hf (i : Int) (by omega) (by omega)
 rw [Int.toNat_natCast] at hc
 refine ⟨hc.1.trans ?_, hc.2⟩
 unfold rdOf
 rw [Int.toNat_natCast]
theorem PRound.frozenL (h : PRound W base p t vr gv gl cl gw gd cd gf cf left f D) (i : Nat) (hi : i < 2 * t + 1) : W.cell? ⟨gl, i, none⟩ = some (.int .u64 (left.getD i 0)) ∧ W.frozen? ⟨gl, i, none⟩ = false := by
 have hc := Kd.R_celln (0 : Int) h.hl (i : Int) (by omega) (by omega)
 rw [Int.toNat_natCast] at hc
 exact ⟨h.cellL i hi, hc.2⟩
theorem keeps_drewN (W : World) (n : Nat) : KeepsOthers W (W.drewN n) := ⟨Nat.le_refl _, fun _ _ h _ => h⟩
theorem PRound.drewN (h : PRound W base p t vr gv gl cl gw gd cd gf cf left f D) (n : Nat) : PRound (W.drewN n) base p t vr gv gl cl gw gd cd gf cf left f D :=
 ⟨⟨h.pb.b0, h.pb.b1, h.pb.b2⟩, h.hv, h.hw, Kd.R_drewN h.hl n, Kd.S_drewN h.hs n, Kd.R_drewN h.hf n, h.nf, h.nl⟩
theorem PRound.drew (h : PRound W base p t vr gv gl cl gw gd cd gf cf left f D) : PRound W.drew base p t vr gv gl cl gw gd cd gf cf left f D :=
 ⟨⟨h.pb.b0, h.pb.b1, h.pb.b2⟩, h.hv, h.hw, Kd.R_drew h.hl, Kd.S_drew h.hs, Kd.R_drew h.hf, h.nf, h.nl⟩
/-- The row f has turned. -/
theorem PRound.turnF (h : PRound W base p t vr gv gl cl gw gd cd gf cf left f D) (hg : W.grownBy W' (some gf)) {f' : List Int} (hf : Kd.R (Kd.int .u64) 22 W' base (fun k => k = gf) (.slice (some ⟨gf, 0, none⟩) (t + 1) cf) f') : PRound W' base p t vr gv gl cl gw gd cd gf cf left f' D := by
 have hsz := h.pb.lt
 obtain ⟨n1, n2, n3, n4⟩ := h.nf
 have mv : ∀ k, k ≠ gf → k < W.heap.size → W'.heap[k]? = W.heap[k]? := fun k hk hlt => hg.block k hlt (fun e => hk (Option.some.inj e))
 exact ⟨h.pb.move (fun k hk => mv k (by omega) (by omega)), (mv _ (Ne.symm n2) (blk_lt h.hv)).trans h.hv, (mv _ (Ne.symm n3) (blk_lt h.hw)).trans h.hw,
  Kd.R_grown h.hl hg (fun k hk e => by subst hk; exact n4 (Option.some.inj e).symm), Kd.S_grown h.hs hg (fun k hk e => hk.2 (Option.some.inj e)), hf, h.nf, h.nl⟩
theorem PRound.setF (h : PRound W base p t vr gv gl cl gw gd cd gf cf left f D) (i : Nat) (x : Int) : PRound (W.setCell ⟨gf, i, none⟩ (.int .u64 x)) base p t vr gv gl cl gw gd cd gf cf left (f.set i x) D := by
 have hp := Kd.R_putg h.hf (i : Int) x
 rw [Int.toNat_natCast] at hp
 exact h.turnF hp.2 hp.1
theorem PRound.setL (h : PRound W base p t vr gv gl cl gw gd cd gf cf left f D) (i : Nat) (x : Int) : PRound (W.setCell ⟨gl, i, none⟩ (.int .u64 x)) base p t vr gv gl cl gw gd cd gf cf (left.set i x) f D := by
 have hp := Kd.R_putg h.hl (i : Int) x
 rw [Int.toNat_natCast] at hp
 have hsz := h.pb.lt
 obtain ⟨n1, n2, n3, n4⟩ := h.nf
 obtain ⟨m1, m2, m3⟩ := h.nl
 have hg := hp.2
 have mv : ∀ k, k ≠ gl → k < W.heap.size → (W.setCell ⟨gl, i, none⟩ (.int .u64 x)).heap[k]? = W.heap[k]? := fun k hk hlt => hg.block k hlt (fun e => hk (Option.some.inj e))
 exact ⟨h.pb.move (fun k hk => mv k (by omega) (by omega)), (mv _ (Ne.symm m2) (blk_lt h.hv)).trans h.hv, (mv _ (Ne.symm m3) (blk_lt h.hw)).trans h.hw, hp.1,
  Kd.S_grown h.hs hg (fun k hk e => hk.1.2.2.2 (Option.some.inj e)), Kd.R_grown h.hf hg (fun k hk e => by subst hk; exact n4 (Option.some.inj e)), h.nf, h.nl⟩
end

theorem PRound.start {W W' : World} {base : Nat} {p : Int} {t : Nat} {vr : Value} {gv gl cl gw gd cd gf cf : Nat} {st : List Int × List (List Int)} {f : List Int} (h : PLoop W base p t vr gv gl cl gw gd cd st) (hg : W.grownBy W' none) (hgf : W.heap.size ≤ gf) (nl : base + 3 ≤ gl ∧ gl ≠ gv ∧ gl ≠ gw)
  (hf : Kd.R (Kd.int .u64) 22 W' base (fun k => k = gf) (.slice (some ⟨gf, 0, none⟩) (t + 1) cf) f) : PRound W' base p t vr gv gl cl gw gd cd gf cf st.1 f st.2 := by
 have hsz := h.pb.lt
 have h1 := blk_lt h.hv
 have h2 := blk_lt h.hw
 have h3 := Kd.R_lt h.hl gl rfl
 have mv : ∀ k, k < W.heap.size → W'.heap[k]? = W.heap[k]? := fun k hlt => hg.block k hlt (by simp)
 refine ⟨h.pb.move (fun k hk => mv k (by omega)), (mv _ h1).trans h.hv, (mv _ h2).trans h.hw, Kd.R_grown h.hl hg (by simp), Kd.S_mono (Kd.S_grown (Kd.S_bound h.hs) hg (by simp)) (fun k hk => ⟨hk.1, ?_⟩), hf, ⟨by omega, by omega, by omega, by omega⟩, nl⟩
 have := hk.2.2.1
 omega

/-- The row f is put into the table: the round is over. -/
theorem PRound.finish {W W' : World} {base : Nat} {p : Int} {t : Nat} {vr : Value} {gv gl cl gw gd cd gf cf : Nat} {left f : List Int} {D D' : List (List Int)} (h : PRound W base p t vr gv gl cl gw gd cd gf cf left f D) (hg : W.grownBy W' (some gd))
  (hs : Kd.S (Kd.slice 22 (Kd.int .u64)) 23 W' base (fun k => base + 3 ≤ k ∧ k ≠ gv ∧ k ≠ gw ∧ k ≠ gl) (.slice (some ⟨gd, 0, none⟩) t cd) D') (al : allF p left = true) : PLoop W' base p t vr gv gl cl gw gd cd (left, D') := by
 obtain ⟨n1, n2, n3, n4⟩ := (Kd.S_R hs).1 gd rfl
 have hsz := h.pb.lt
 have mv : ∀ k, k ≠ gd → k < W.heap.size → W'.heap[k]? = W.heap[k]? := fun k hk hlt => hg.block k hlt (fun e => hk (Option.some.inj e))
 exact ⟨h.pb.move (fun k hk => mv k (by omega) (by omega)), (mv _ (Ne.symm n2) (blk_lt h.hv)).trans h.hv, (mv _ (Ne.symm n3) (blk_lt h.hw)).trans h.hw,
  Kd.R_grown h.hl hg (fun k hk e => by subst hk; exact n4 (Option.some.inj e).symm), hs, al⟩
theorem PRound.lend {W : World} {base : Nat} {p : Int} {t : Nat} {vr : Value} {gv gl cl gw gd cd gf cf : Nat} {left f : List Int} {D : List (List Int)} (h : PRound W base p t vr gv gl cl gw gd cd gf cf left f D) (i : Int) (h0 : 0 ≤ i) (h1 : i < t) :
  ∃ (oki : Nat → Prop) (c : List Value), c.length = 1 ∧ oki gf ∧ Kd.H (Kd.slice 22 (Kd.int .u64)) 23 W base (fun k => base + 3 ≤ k ∧ k ≠ gv ∧ k ≠ gw ∧ k ≠ gl) (.slice (some ⟨gd, 0, none⟩) t cd) D i oki c := by
 obtain ⟨oki, c, hcl, _, _, _, hH⟩ := Kd.S_lend h.hs ([] : List Int) i h0 h1
 have hH2 := Kd.H_more (okg := fun k => k = gf) hH (fun k hk => by subst hk; exact h.nf)
 exact ⟨_, c, hcl, Or.inr rfl, hH2⟩
theorem x1_wrap (x t : Nat) (h1 : 1 ≤ x) (h : x ≤ t) (ht : t ≤ 1000) : wrap64 ((x : Int) - 1) = (x : Int) - 1 := wrap_in (by omega) (by omega)
theorem x1_nn (x : Nat) (h1 : 1 ≤ x) : (0 : Int) ≤ (x : Int) - 1 := by omega
theorem x1_lt (x t : Nat) (h : x ≤ t) : (x : Int) - 1 < (t : Int) := by omega
theorem x1_ton (x : Nat) (h1 : 1 ≤ x) : ((x : Int) - 1).toNat = x - 1 := by omega
theorem roundsS_snoc (p : Int) (t : Nat) (r left : List Int) (l : List (Upto t)) (x : Upto t) : roundsS p t r left (l ++ [x]) = roundS p t r (roundsS p t r left l) x.1 := by
 unfold roundsS
 rw [List.foldl_append]
 rfl
theorem one_hole {c : List Value} (v : Value) (h : c.length = 1) : c.take 0 ++ [v] ++ c.drop (0 + 1) = [v] := by
 rw [List.drop_eq_nil_of_le (by omega)]; rfl

set_option maxRecDepth 100000 in
set_option maxHeartbeats 4000000 in
theorem prove_walk (p : Int) (t : Nat) (A2 : Option Addr) (c2 : Nat) (l2 : List Int) (A3 : Option Addr) (c3 : Nat) (l3 : List Int) (A4 : Option Addr) (c4 : Nat) (l4 : List Int) (w : World)
  (hr2 : Kd.C (Kd.int .u64) w A2 l2.length l2) (hc2 : l2.length ≤ c2) (hr3 : Kd.C (Kd.int .u64) w A3 l3.length l3) (hc3 : l3.length ≤ c3) (hr4 : Kd.C (Kd.int .u64) w A4 l4.length l4) (hc4 : l4.length ≤ c4)
  (hp : okp p = true) (ha : allF p l2 = true) (hb : allF p l3 = true) (hf : allF p l4 = true) (ht1 : 1 ≤ t) (ht2 : t ≤ 1000) (hl2 : l2.length ≤ 100000) (hl3 : l3.length ≤ 100000) (hl4 : l4.length = t * t) :
  Calls Try.prog 12 #[.int .u64 p, .int .i64 (t : Int), .slice A2 l2.length c2, .slice A3 l3.length c3, .slice A4 l4.length c4] w fun e w' => ∃ v0_ v1_ : Value, e = .returned (.tuple #[v0_, v1_]) ∧
   Kd.S (Kd.slice 22 (Kd.int .u64)) 23 w' w.heap.size (fun k_ => some k_ ≠ (v1_ : Value).ownBlock) v0_ (roundsS p t l4 (padN (trimL (pmul p l2 l3)) (2 * t + 1)) (downFirst t t)).2 ∧ Kd.R (Kd.int .u64) 22 w' w.heap.size (fun _ => True) v1_ ((roundsS p t l4 (padN (trimL (pmul p l2 l3)) (2 * t + 1)) (downFirst t t)).1.take (t + 1)) ∧ Below w.heap.size w w' := by
 have HP := Aside0.mk hp
 have HA := Aside0.mk ha
 have HBF := Aside0.mk hb
 have HF := Aside0.mk hf
 have HR2 := Aside0.mk hr2
 have HR3 := Aside0.mk hr3
 have HR4 := Aside0.mk hr4
 clear hp ha hb hf hr2 hr3 hr4
 refine (callsIn_wide (n := 6)).1 ?_
 refine callsIn_of_wp_marks Try.func12 rfl trivial ?_ rfl
 simp only [Try.ntmps12, List.size_toArray, List.length_cons, List.length_nil, Nat.reduceAdd, Nat.reduceSub, Array.replicate_succ, Array.replicate_zero, List.push_toArray, List.append_toArray, List.nil_append, List.cons_append]
 have ht64 : wrap64 (2 * (t : Int)) = 2 * (t : Int) := wrap_in (by omega) (by omega)
 have ht65 : wrap64 (2 * (t : Int) + 1) = 2 * (t : Int) + 1 := wrap_in (by omega) (by omega)
 have HB0 : Below w.heap.size w w := Below.refl _ _
 have HL4 := Aside0.mk hl4
 clear hl4
 refine wpIn_wide.2 ?_
 go_wp2_with ((with_reducible refine gate_dst (N := 21) rfl ?_); refine Kd.R_make (Kd.int .u64) (w0 := w) w.heap.size 22 rfl rfl 23 _ _ rfl (2 * (t : Int) + 1) rfl rfl Try.underlying23 (.int .u64 0) 8 rinfo22 rfl (by decide) (by decide) 0 (ok := fun k => w.heap.size + 3 ≤ k) (okp := fun _ => False) rfl (fun _ h => h.elim) (by simp only [World.size_alloc]; omega) (by omega) (by omega) (((HB0.alloc (Nat.le_refl _) _).alloc (by simp) _).alloc (by simp; omega) _) (by simp; omega) ?_; intro v1 w1 hr hb hg hat; have PB1 := Aside0.mk ((PBox.new w p t (.slice A4 l4.length c4)).move (fun k hk => hg.block k (by simp; omega) (by simp))); rw [show (2 * (t : Int) + 1).toNat = 2 * t + 1 by omega] at hr; obtain ⟨gl, cl, ev, hgl1, hgl2, _⟩ := Kd.R_form hr (by simp); rw [List.length_replicate] at ev; subst ev; have hgl3 := hr.1 gl rfl; have HL1 := Aside0.mk hr; have HB1 := Aside0.mk hb; clear hr hb hg hat)
 have hszw : w.heap.size + 3 ≤ w1.heap.size := by have := PB1.out.lt; omega
 have HB2 := Aside0.mk (below_alloc HB1.out (.cells #[.slice (some ⟨gl, 0, none⟩) (2 * t + 1) cl] 23))
 have PB2 := Aside0.mk (PB1.out.move (W' := w1.alloc (.cells #[.slice (some ⟨gl, 0, none⟩) (2 * t + 1) cl] 23)) (fun k hk => Below.heap_alloc _ _ k (by omega)))
 have HV2 := Aside0.mk (blk_new w1 (.cells #[.slice (some ⟨gl, 0, none⟩) (2 * t + 1) cl] 23))
 have HL2 := Aside0.mk (Kd.R_alloc HL1.out (.cells #[.slice (some ⟨gl, 0, none⟩) (2 * t + 1) cl] 23))
 have hgv : w1.heap.size ≠ gl := by omega
 obtain ⟨gv, hgvE⟩ : ∃ gv, gv = w1.heap.size := ⟨_, rfl⟩
 rw [← hgvE] at HV2 hgv hszw ⊢
 generalize w1.alloc (.cells #[.slice (some ⟨gl, 0, none⟩) (2 * t + 1) cl] 23) = w2 at *
 clear HB1 PB1 HL1 hgvE
 refine wp_region_noPanic ?_
 refine start_ (n := 6) (S := fun w' => w'.cell? ⟨gv, 0, none⟩ = some (.slice (some ⟨gl, 0, none⟩) (2 * t + 1) cl) ∧ w'.cell? ⟨w.heap.size, 0, none⟩ = some (.int .u64 p)) (ds := [5]) #[false, false, false, false, false, false] (by kernel_rfl) rfl rfl ⟨(blk_cell (blk_drew HV2.out) 0).trans rfl, (blk_cell (blk_drew PB2.out.b0) 0).trans rfl⟩ (fun hHeld => ?_)
 refine pure_ (i := 2) (N := some 24) (v := ?_) (a' := ?_) #[false, false, true, false, false, false] rfl rfl (by kernel_rfl) (fun _ _ _ h => h) (Or.inl ⟨by rfl, ?_⟩) ?_ ?_; rotate_left; (intro w'; go_simp; with_reducible rfl); rotate_left; (simp only [Act.put, List.setIfInBounds_toArray, List.set_cons_zero, List.set_cons_succ]; rfl)
 refine pure_ (i := 3) (N := some 25) (v := ?_) (a' := ?_) #[false, false, true, true, false, false] rfl rfl (by kernel_rfl) (fun _ _ _ h => h) (Or.inl ⟨by rfl, ?_⟩) ?_ ?_; rotate_left; (intro w'; go_simp; with_reducible rfl); rotate_left; (simp only [Act.put, List.setIfInBounds_toArray, List.set_cons_zero, List.set_cons_succ]; rfl)
 refine take_ (i := 0) (N := some 22) (v := ?_) (a' := ?_) #[true, false, true, true, false, false] rfl rfl (by kernel_rfl) (fun _ _ _ h => h) (Or.inl ⟨by rfl, ?_⟩) hHeld ?_ ?_; rotate_left; (rintro w' ⟨s0, s1⟩; go_simp; with_reducible rfl); rotate_left; (simp only [Act.put, List.setIfInBounds_toArray, List.set_cons_zero, List.set_cons_succ]; rfl)
 refine take_ (i := 1) (N := some 23) (v := ?_) (a' := ?_) #[true, true, true, true, false, false] rfl rfl (by kernel_rfl) (fun _ _ _ h => h) (Or.inl ⟨by rfl, ?_⟩) hHeld ?_ ?_; rotate_left; (rintro w' ⟨s0, s1⟩; go_simp; with_reducible rfl); rotate_left; (simp only [Act.put, List.setIfInBounds_toArray, List.set_cons_zero, List.set_cons_succ]; rfl)
 refine one_ (i := 4) (N := some 26) #[true, true, true, true, true, false] rfl rfl (by kernel_rfl) (by decide) (fun K hK => ?_)
 refine goes_ Try.func40 (by kernel_rfl) rfl #[.int .u64 p, .slice A2 l2.length c2, .slice A3 l3.length c3] (by rfl) rfl rfl (by (try simp only [List.map_toArray, List.map_cons, List.map_nil]); first | done | rfl) ?_
 have hMul : poly_Mul.f p l2 l3 = some (trimL (pmul p l2 l3)) := by
  unfold poly_Mul.f
  rw [HP.out, HA.out, HBF.out, decide_eq_true (by omega), decide_eq_true (by omega)]; rfl
 refine (poly_Mul.calls p _ _ l2 _ _ l3 _ _ (Kd.C_drew (Kd.C_below HR2.out HB2.out)) hc2 (Kd.C_drew (Kd.C_below HR3.out HB2.out)) hc3 hMul).mono ?_
 rintro e w3 ⟨vm, rfl, hm, hb⟩
 refine ⟨_, rfl, ?_⟩
 have PB3 := Aside0.mk (PB2.out.move (fun k hk => (hb.block k (show k < w2.heap.size by have := PB2.out.lt; omega)).trans rfl))
 have HV3 := Aside0.mk (blk_below (blk_drew HV2.out) hb)
 have HL3 := Aside0.mk (Kd.R_below (Kd.R_drew HL2.out) hb)
 have HB3 := Aside0.mk (below_step (below_drew HB2.out) hb)
 obtain ⟨Am, cm, rfl, hlm, hCm⟩ := Kd.R_reads hm
 have HM3 := Aside0.mk hCm
 clear hm hb hCm PB2 HV2 HL2 HB2 hHeld hMul
 refine hK.out _ _ ⟨(blk_cell HV3.out 0).trans rfl, (blk_cell PB3.out.b0 0).trans rfl⟩ (fun hHeld => ?_)
 clear hK K
 refine norm_ (a' := ?_) ?_ ?_
 rotate_left
 ·show Act.put _ (some 26) _ = _
  simp only [Act.put, List.setIfInBounds_toArray, List.set_cons_zero, List.set_cons_succ]
  rfl
 refine last_ (i := 5) (N := some 27) #[true, true, true, true, true, true] rfl rfl (by kernel_rfl) (by decide) (fun K hK => ?_)
 refine step_of_list rfl rfl ?_
 refine Kd.R_copy (0 : Int) (w0 := w) w.heap.size rfl _ _ 23 23 22 rfl Try.underlying23 (by kernel_rfl) (.slice (some ⟨gl, 0, none⟩) (2 * t + 1) cl) _ (trimL (pmul p l2 l3)) Am _ cm _ rfl rfl HL3.out HM3.out HB3.out HB3.out.size ?_
 intro w4 hr4 hb4 hg4
 refine ⟨rfl, hK.out _ _ ?_⟩
 refine done_ (by kernel_rfl) ?_
 refine NoPanic.normal ?_
 have hpad : (trimL (pmul p l2 l3)).take (min (trimL (pmul p l2 l3)).length (List.replicate (2 * t + 1) (0 : Int)).length) ++ (List.replicate (2 * t + 1) (0 : Int)).drop (min (trimL (pmul p l2 l3)).length (List.replicate (2 * t + 1) (0 : Int)).length) = padN (trimL (pmul p l2 l3)) (2 * t + 1) := by
  unfold padN
  rw [List.length_replicate]
 rw [hpad] at hr4
 have PB4 := Aside0.mk (PB3.out.move (fun k hk => hg4.block k (by have := PB3.out.lt; omega) (by simp [Value.ownBlock]; omega)))
 have HV4 := Aside0.mk (blk_grown HV3.out hg4 (by simp [Value.ownBlock]; exact hgv))
 have HL4' := Aside0.mk hr4
 have HB4 := Aside0.mk hb4
 clear hr4 hb4 hg4 PB3 HV3 HL3 HM3 HB3 hHeld hK K hpad
 generalize hleft : padN (trimL (pmul p l2 l3)) (2 * t + 1) = left0 at *
 have hct : w4.cell? ⟨w.heap.size + 1, 0, none⟩ = some (.int .i64 (t : Int)) := (blk_cell PB4.out.b1 0).trans rfl
 go_wp2_with ((with_reducible refine gate_dst (N := 29) rfl ?_); refine stop_here ?_)
 refine Aside0.mk ?_
 refine Kd.S_make (Kd.slice 22 (Kd.int .u64)) (w0 := w) w.heap.size 23 rfl rfl 28 _ _ rfl (t : Int) rfl rfl Try.underlying28 (.slice none 0 0) 24 rinfo23 rfl (by decide) (by decide) [] (ok := fun k => w4.heap.size ≤ k) (okp := fun _ => False) ?hzero (fun _ h => h.elim) (Nat.le_refl _) (by omega) (by omega) HB4.out HB4.out.size ?_
 case hzero => exact ⟨_, rfl, Kd.R_nil _ _ _ _ _⟩
 intro v5 w5 hs5 hb5 hg5 hat5
 rw [Int.toNat_natCast] at hs5
 obtain ⟨gd, cd, ev5, hgd1, hgd2, _⟩ := Kd.S_form hs5 (by simp; omega)
 rw [List.length_replicate] at ev5
 subst ev5
 have hgd3 : w4.heap.size ≤ gd := by obtain ⟨b, hb, hb2⟩ := hat5; simp [Value.ownBlock] at hb; omega
 have PB5 := Aside0.mk (PB4.out.move (fun k hk => hg5.block k (by have := PB4.out.lt; omega) (by simp)))
 have HV5 := Aside0.mk (blk_grown HV4.out hg5 (by simp))
 have HL5 := Aside0.mk (Kd.R_grown HL4'.out hg5 (by simp))
 have HS5 := Aside0.mk hs5
 have HB5 := Aside0.mk hb5
 have hvlt := blk_lt HV4.out
 have hllt := Kd.R_lt HL4'.out gl rfl
 have hw45 := hg5
 clear hs5 hb5 hg5 hat5 PB4 HV4 HL4' HB4 hct
 obtain ⟨gw, hgwE⟩ : ∃ gw, gw = w5.heap.size := ⟨_, rfl⟩
 have hsz5 : w4.heap.size ≤ w5.heap.size := hw45.size
 have hgd4 := Kd.S_lt HS5.out gd rfl
 have PL6 := Aside0.mk (show PLoop (w5.alloc (.cells #[.slice (some ⟨gd, 0, none⟩) t cd] 28)) w.heap.size p t (.slice A4 l4.length c4) gv gl cl gw gd cd (left0, List.replicate t []) from
  ⟨PB5.out.move (fun k hk => Below.heap_alloc _ _ k (by omega)), (Below.heap_alloc _ _ _ (by omega)).trans HV5.out, hgwE ▸ blk_new _ _, Kd.R_mono (Kd.R_tight rfl (Kd.R_alloc HL5.out _)) (fun k hk => by simpa [Value.ownBlock] using hk), Kd.S_mono (Kd.S_alloc (Kd.S_bound HS5.out) _) (fun k hk => by obtain ⟨h1, h2, h3, _⟩ := hk; omega), by rw [← hleft]; exact padN_allF HP.out (allF_trimL (pmul_allF p HP.out l2 l3)) _⟩)
 have HB6 := Aside0.mk (below_alloc HB5.out (.cells #[.slice (some ⟨gd, 0, none⟩) t cd] 28))
 have hct : (w5.alloc (.cells #[.slice (some ⟨gd, 0, none⟩) t cd] 28)).cell? ⟨w.heap.size + 1, 0, none⟩ = some (.int .i64 (t : Int)) := (blk_cell PL6.out.pb.b1 0).trans rfl
 go_wp2_with (go_at_call 48; refine (down_call (t : Int) _).mono ?_; rintro e w6 ⟨rfl, rfl⟩)
 have PL7 := Aside0.mk (PLoop.own (gv := gv) (fun (_ : Unit) => (left0, List.replicate t ([] : List Int))) 0 () _ _ none PL6.out (World.grownBy_alloc _ (.cells #[.int .i64 (t : Int)] 3) none) (fun r e => by cases e))
 have HB7 := Aside0.mk (below_alloc HB6.out (.cells #[.int .i64 (t : Int)] 3))
 have hcb : ((w5.alloc (.cells #[.slice (some ⟨gd, 0, none⟩) t cd] 28)).alloc (.cells #[.int .i64 (t : Int)] 3)).cell? ⟨gw + 1, 0, none⟩ = some (.int .i64 (t : Int)) := by
  have := (blk_cell (blk_new (w5.alloc (.cells #[.slice (some ⟨gd, 0, none⟩) t cd] 28)) (.cells #[.int .i64 (t : Int)] 3)) 0).trans rfl
  rwa [World.size_alloc, ← hgwE] at this
 have hsz7 : ((w5.alloc (.cells #[.slice (some ⟨gd, 0, none⟩) t cd] 28)).alloc (.cells #[.int .i64 (t : Int)] 3)).heap.size = gw + 2 := by simp only [World.size_alloc]; omega
 rw [← hgwE]
 generalize (w5.alloc (.cells #[.slice (some ⟨gd, 0, none⟩) t cd] 28)).alloc (.cells #[.int .i64 (t : Int)] 3) = w7 at *
 have hsz8 : w.heap.size ≤ w7.heap.size := HB7.out.size
 have hgwl : gl ≠ gw := by omega
 clear PL6 HB6 hct PB5 HV5 HL5 HS5 HB5 hgwE
 refine (wpIn_wide (n := 6)).1 ?_
 refine wpIn_rangeFunc_ownF (F := Fence.wide) (n := 6) rfl (by decide) (gf := 63) (lb := #[.pointer (some ⟨gw + 1, 0, none⟩)]) rfl trivial (enters_of Try.func63 (by kernel_rfl) rfl)
  (down_stops Fence.wide 5 trivial rfl (by decide) (gw + 1) w.heap.size t (by omega) w7 (by omega) hcb) belowK_t (belowK_b (by omega)) (Below.refl _ _) (fun _ => rfl)
  (fun pre W => PLoop W w.heap.size p t (.slice A4 l4.length c4) gv gl cl gw gd cd (roundsS p t l4 left0 pre) ∧ Below w.heap.size w W) (fun _ _ _ => False)
  (OwnFrom.and (PLoop.own (fun pre => roundsS p t l4 left0 pre) _) (ownFrom_below (Nat.le_refl _) (by omega))) (fun _ _ _ _ _ hs _ _ => hs) ⟨PL7.out, HB7.out⟩ ?a1 ?assign ?body ?done ?stop
 case assign =>
  intro l x W K hK
  gi_wp2
  exact hK
 case stop =>
  rintro D c pre W _ _ h _
  exact h.elim
 case body =>
  rintro l pre ⟨x, hx1, hx2⟩ W ⟨hPL, hB⟩ _
  have hPLo := Aside0.mk hPL
  have hBo := Aside0.mk hB
  clear PL7 HB7 hcb hsz7 hsz8 hPL hB ht64 ht65 HB0
  obtain ⟨st, hst⟩ : ∃ st, st = roundsS p t l4 left0 pre := ⟨_, rfl⟩
  have HST := Aside0.mk hst
  rw [← hst] at hPLo
  clear hst
  apply wpIn_block
  apply wpIn_seq_k
  intro K6 hK6
  refine region_in (K := K6) _ rfl (by kernel_rfl) (fun _ _ h => h) ?_
  have hc6 : W.cell? ⟨w.heap.size + 1, 0, none⟩ = some (.int .i64 (t : Int)) := (blk_cell hPLo.out.pb.b1 0).trans rfl
  go_wp2_with ((with_reducible refine gate_dst (N := 35) rfl ?_); refine stop_here ?_)
  refine Aside0.mk ?_
  refine Kd.R_make (Kd.int .u64) (w0 := w) w.heap.size 22 rfl rfl 23 _ _ rfl ((t : Int) + 1) rfl rfl Try.underlying23 (.int .u64 0) 8 rinfo22 rfl (by decide) (by decide) 0 (ok := fun k => W.heap.size ≤ k) (okp := fun _ => False) rfl (fun _ h => h.elim) (Nat.le_refl _) (t_nn t) (t_few t ht2) hBo.out hBo.out.size ?_
  intro v1 W1 hr hb hg hat
  rw [t_nat1] at hr
  obtain ⟨gf, cf, ev, hgf1, hgf2, _⟩ := Kd.R_form hr (t_pos t)
  rw [List.length_replicate] at ev
  subst ev
  have hgf3 := hr.1 gf rfl
  have PR1 := Aside0.mk (PRound.start (f := List.replicate (t + 1) 0) (cf := cf) hPLo.out hg hgf3 ⟨hgl3, Ne.symm hgv, hgwl⟩ (Kd.R_mono (Kd.R_tight rfl hr) (fun k hk => show k = gf by simpa [Value.ownBlock] using hk)))
  have HB1 := Aside0.mk hb
  have KO1 := Aside0.mk (KeepsOthers.of_grownBy hg (fun j o e _ => by cases e))
  have BW1 := Aside0.mk (show Below w.heap.size W W1 from (Below.refl _ W).grown hg hBo.out.size (fun k e => by cases e))
  clear hr hb hg hat
  go_wp2
  refine ⟨rfl, hK6 _ _ ?_⟩
  clear hK6 hc6 K6
  -- region 7
  apply wpIn_seq_k
  intro K7 hK7
  refine region_in (K := K7) _ rfl (by kernel_rfl) (fun _ _ h => h) ?_
  have hc6 : W1.cell? ⟨w.heap.size + 1, 0, none⟩ = some (.int .i64 (t : Int)) := (blk_cell PR1.out.pb.b1 0).trans rfl
  have hc9 : W1.cell? ⟨w.heap.size + 1 + 1, 0, none⟩ = some (.slice A4 l4.length c4) := (blk_cell PR1.out.pb.b2 0).trans rfl
  obtain ⟨i0, hi0, _, hsz0, _⟩ := info_parts rinfo22
  obtain ⟨Ac, hcut, hAr, hCr⟩ := print_mid_of (P := Try.prog) (Value.int .u64) 0 23 22 .i64 .i64 Try.underlying23 hi0 hsz0 A4 c4 l4 (wrap64 (((x : Int) - 1) * (t : Int))) (wrap64 ((x : Int) * (t : Int))) (by rw [x_wlo x t hx1 hx2 ht2]; exact x_lo x t hx1) (by rw [x_wlo x t hx1 hx2 ht2, x_whi x t hx2 ht2]; exact x_le x t) (by rw [x_whi x t hx2 ht2]; exact x_hi x t l4.length hx2 HL4.out) hc4
  go_wp2_with ((with_reducible refine gate_builtin (b := .copy) (xs := #[.tmp 36, .tmp 45]) rfl ?_); refine stop_here ?_)
  refine Aside0.mk ?_
  have hCs := Kd.C_of_reads (h1 := fun _ => rfl) (hAr W1 (Kd.reads_of_C (Kd.C_below HR4.out HB1.out)))
  rw [List.length_drop, List.length_take] at hCs
  refine Kd.R_copy (0 : Int) (w0 := w) w.heap.size rfl _ _ 23 23 22 rfl Try.underlying23 (by kernel_rfl) (.slice (some ⟨gf, 0, none⟩) (t + 1) cf) _ _ Ac _ _ _ rfl rfl PR1.out.hf hCs HB1.out HB1.out.size ?_
  intro W2 hr2 hb2 hg2
  rw [seg_copy l4 x t hx1 hx2 ht2 HL4.out] at hr2
  rw [List.length_replicate]
  refine ⟨rfl, hK7 _ _ ?_⟩
  have PR2 := Aside0.mk (PR1.out.turnF hg2 hr2)
  have HB2' := Aside0.mk hb2
  have KO2 := Aside0.mk (KO1.out.trans (KeepsOthers.of_grownBy hg2 (fun j o e ho => by obtain ⟨cells, hc⟩ := Kd.R_typed PR1.out.hf j e; rw [hc] at ho; obtain rfl := Option.some.inj ho; rfl)))
  have BW2 := Aside0.mk (BW1.out.grown hg2 HB1.out.size (fun k e => by have := hgf3; have := hBo.out.size; simp [Value.ownBlock] at e; omega))
  clear hK7 K7 hc6 hc9 hcut hAr hCr hCs hr2 hb2 hg2 PR1 HB1 KO1 BW1
  -- region 8
  apply wpIn_seq_k
  intro K8 hK8
  have hxt : wrap64 ((x : Int) + (t : Int)) = (x : Int) + (t : Int) := x_wrap x t hx2 ht2
  have hix0 : (0 : Int) ≤ (x : Int) + (t : Int) := x_nn x t
  have hix1 : (x : Int) + (t : Int) < 2 * (t : Int) + 1 := x_ini x t hx2
  have hix2 : ((x : Int) + (t : Int)).toNat = x + t := x_ton x t
  have hix3 : (t : Int) < (t : Int) + 1 := t_lt t
  refine start_in (K := K8) (m := 10) (S := fun w' => w'.cell? ⟨w.heap.size + 1, 0, none⟩ = some (.int .i64 (t : Int)) ∧ w'.cell? ⟨gv, 0, none⟩ = some (.slice (some ⟨gl, 0, none⟩) (2 * t + 1) cl) ∧ w'.cell? ⟨gl, x + t, none⟩ = some (.int .u64 (st.1.getD (x + t) 0))) (ds := [9]) #[false, false, false, false, false, false, false, false, false, false] rfl (by kernel_rfl) (by kernel_rfl) rfl rfl (fun _ _ h => h) ⟨(blk_cell PR2.out.pb.b1 0).trans rfl, (blk_cell PR2.out.hv 0).trans rfl, PRound.cellL PR2.out (x + t) (x_in x t hx2)⟩ (fun hHeld => ?_)
  refine pure_ (i := 0) (N := some 47) (v := ?_) (a' := ?_) #[true, false, false, false, false, false, false, false, false, false] rfl rfl (by kernel_rfl) (fun _ _ _ h => EndK.np h) (Or.inl ⟨by rfl, ?_⟩) ?_ ?_; rotate_left; (intro w'; go_simp; with_reducible rfl); rotate_left; (simp only [Act.put, List.setIfInBounds_toArray, List.set_cons_zero, List.set_cons_succ, i64_w, hxt]; rfl)
  refine pure_ (i := 3) (N := some 50) (v := ?_) (a' := ?_) #[true, false, false, true, false, false, false, false, false, false] rfl rfl (by kernel_rfl) (fun _ _ _ h => EndK.np h) (Or.inl ⟨by rfl, ?_⟩) ?_ ?_; rotate_left; (intro w'; go_simp; with_reducible rfl); rotate_left; (simp only [Act.put, List.setIfInBounds_toArray, List.set_cons_zero, List.set_cons_succ, i64_w, hxt]; rfl)
  refine take_ (i := 1) (N := some 48) (v := ?_) (a' := ?_) #[true, true, false, true, false, false, false, false, false, false] rfl rfl (by kernel_rfl) (fun _ _ _ h => EndK.np h) (Or.inl ⟨by rfl, ?_⟩) hHeld ?_ ?_; rotate_left; (rintro w' ⟨s0, s1, s2⟩; go_simp; with_reducible rfl); rotate_left; (simp only [Act.put, List.setIfInBounds_toArray, List.set_cons_zero, List.set_cons_succ, i64_w, hxt]; rfl)
  refine take_ (i := 2) (N := some 49) (v := ?_) (a' := ?_) #[true, true, true, true, false, false, false, false, false, false] rfl rfl (by kernel_rfl) (fun _ _ _ h => EndK.np h) (Or.inl ⟨by rfl, ?_⟩) hHeld ?_ ?_; rotate_left; (rintro w' ⟨s0, s1, s2⟩; go_simp; with_reducible rfl); rotate_left; (simp only [Act.put, List.setIfInBounds_toArray, List.set_cons_zero, List.set_cons_succ, i64_w, hxt]; rfl)
  refine take_ (i := 4) (N := some 51) (v := ?_) (a' := ?_) #[true, true, true, true, true, false, false, false, false, false] rfl rfl (by kernel_rfl) (fun _ _ _ h => EndK.np h) (Or.inl ⟨by rfl, ?_⟩) hHeld ?_ ?_; rotate_left; (rintro w' ⟨s0, s1, s2⟩; go_simp; with_reducible rfl); rotate_left; (simp only [Act.put, List.setIfInBounds_toArray, List.set_cons_zero, List.set_cons_succ, i64_w, hxt]; rfl)
  refine pure_ (i := 5) (N := some 52) (v := ?_) (a' := ?_) #[true, true, true, true, true, true, false, false, false, false] rfl rfl (by kernel_rfl) (fun _ _ _ h => EndK.np h) (Or.inl ⟨by rfl, ?_⟩) ?_ ?_; rotate_left; (intro w'; go_simp; with_reducible rfl); rotate_left; (simp only [Act.put, List.setIfInBounds_toArray, List.set_cons_zero, List.set_cons_succ, i64_w, hxt]; rfl)
  refine pure_ (i := 6) (N := some 53) (v := ?_) (a' := ?_) #[true, true, true, true, true, true, true, false, false, false] rfl rfl (by kernel_rfl) (fun _ _ _ h => EndK.np h) (Or.inl ⟨by rfl, ?_⟩) ?_ ?_; rotate_left; (intro w'; go_simp; with_reducible rfl); rotate_left; (simp only [Act.put, List.setIfInBounds_toArray, List.set_cons_zero, List.set_cons_succ, i64_w, hxt]; rfl)
  refine take_ (i := 7) (N := some 54) (v := ?_) (a' := ?_) #[true, true, true, true, true, true, true, true, false, false] rfl rfl (by kernel_rfl) (fun _ _ _ h => EndK.np h) (Or.inl ⟨by rfl, ?_⟩) hHeld ?_ ?_; rotate_left; (rintro w' ⟨s0, s1, s2⟩; go_simp; with_reducible rfl); rotate_left; (simp only [Act.put, List.setIfInBounds_toArray, List.set_cons_zero, List.set_cons_succ, i64_w, hxt]; rfl)
  refine pure_ (i := 8) (N := some 55) (v := ?_) (a' := ?_) #[true, true, true, true, true, true, true, true, true, false] rfl rfl (by kernel_rfl) (fun _ _ _ h => EndK.np h) (Or.inl ⟨by rfl, ?_⟩) ?_ ?_; rotate_left; (intro w'; go_simp; with_reducible rfl); rotate_left; (simp only [Act.put, List.setIfInBounds_toArray, List.set_cons_zero, List.set_cons_succ, i64_w, hxt]; rfl)
  refine last_ (i := 9) (N := none) #[true, true, true, true, true, true, true, true, true, true] rfl rfl (by kernel_rfl) (by decide) (fun K hK => ?_)
  have hfz := PRound.frozenF PR2.out t (Nat.lt_succ_self t)
  refine skip_ rfl rfl (w1 := W2.drew.setCell ⟨gf, t, none⟩ (.int .u64 (st.1.getD (x + t) 0))) ?_ ?_
  ·have hfz1 : W2.drew.frozen? ⟨gf, t, none⟩ = false := hfz.2
   have hfz0 : W2.drew.cell? ⟨gf, t, none⟩ = _ := hfz.1
   clear hfz
   go_simp
  refine hK.out _ _ ?_
  refine done_ (by kernel_rfl) ?_
  refine ⟨rfl, hK8 _ _ ?_⟩
  have hset := round_set l4 x t hx1 hx2 HL4.out st.1
  have PR3 := Aside0.mk (hset ▸ (PR2.out.drew.setF t (st.1.getD (x + t) 0)))
  have KO3 := Aside0.mk ((KO2.out.trans (KeepsOthers.drew W2)).trans (KeepsOthers.setCell W2.drew ⟨gf, t, none⟩ (.int .u64 (st.1.getD (x + t) 0))))
  have HB3' := Aside0.mk ((below_drew HB2'.out).setCell (p := ⟨gf, t, none⟩) hgf1 (.int .u64 (st.1.getD (x + t) 0)))
  have BW3 := Aside0.mk ((below_drew BW2.out).setCell (p := ⟨gf, t, none⟩) hgf1 (.int .u64 (st.1.getD (x + t) 0)))
  generalize W2.drew.setCell ⟨gf, t, none⟩ (.int .u64 (st.1.getD (x + t) 0)) = W3 at *
  clear hK8 K8 hK K hHeld hfz PR2 HB2' KO2 BW2 hix0 hix1 hix2 hix3 hset hxt
  obtain ⟨rf, hrf⟩ : ∃ rf, rf = roundF t l4 x st.1 := ⟨_, rfl⟩
  have HRF := Aside0.mk hrf
  have HAL := Aside0.mk hPLo.out.al
  have HRA := Aside0.mk (show allF p rf = true by rw [hrf]; exact roundF_allF HP.out t l4 x st.1 HF.out hPLo.out.al)
  have HSUB : ∀ i : Nat, field_Sub.f p ((offAt p x rf i st.1).getD (x + i) 0) (rf.getD i 0) = some (((offAt p x rf i st.1).getD (x + i) 0 - rf.getD i 0) % p) := by
   intro i
   unfold field_Sub.f
   rw [HP.out, allF_getD HP.out (offAt_allF HP.out x rf i st.1 HAL.out), allF_getD HP.out HRA.out]; rfl
  rw [← hrf] at PR3
  clear hrf
  gi_wp2
  gi_loopw [58] (fun v wr => ∃ i : Nat, i ≤ t + 1 ∧ v = .int .i64 (i : Int) ∧ Aside0 (PRound wr w.heap.size p t (.slice A4 l4.length c4) gv gl cl gw gd cd gf cf (offAt p x rf i st.1) rf st.2) ∧ Aside0 (KeepsOthers W wr) ∧ Aside0 (Below w.heap.size w wr) ∧ Aside0 (Below w.heap.size W wr)) (fun v _ => (t + 1) - (intOf v).toNat)
  case atStart => exact ⟨0, Nat.zero_le _, rfl, PR3, KO3, HB3', BW3⟩
  case round =>
   obtain ⟨i, hi, rfl, PRi, KOi, HBi, BWi⟩ := hrel
   clear PR3 KO3 HB3' BW3
   by_cases hlt : i < t + 1
   ·have hcf : wr.cell? ⟨gf, i, none⟩ = some (.int .u64 (rf.getD i 0)) := (PRound.frozenF PRi.out i hlt).1
    have hi0 : (0 : Int) ≤ (i : Int) := by omega
    have hi1 : (i : Int) < (t : Int) + 1 := by omega
    gi_wp2
    have hxi : wrap64 ((x : Int) + (i : Int)) = (x : Int) + (i : Int) := xi_wrap x i t hx2 ht2 hlt
    have hix0 : (0 : Int) ≤ (x : Int) + (i : Int) := x_nn x i
    have hix1 : (x : Int) + (i : Int) < 2 * (t : Int) + 1 := xi_ini x i t hx2 hlt
    have hix2 : ((x : Int) + (i : Int)).toNat = x + i := x_ton x i
    refine start_inQ (m := 15) (S := fun w' => w'.cell? ⟨gv, 0, none⟩ = some (.slice (some ⟨gl, 0, none⟩) (2 * t + 1) cl) ∧ w'.cell? ⟨w.heap.size, 0, none⟩ = some (.int .u64 p) ∧ w'.cell? ⟨gl, x + i, none⟩ = some (.int .u64 ((offAt p x rf i st.1).getD (x + i) 0))) (ds := [14]) #[false, false, false, false, false, false, false, false, false, false, false, false, false, false, false] rfl (by kernel_rfl) (by kernel_rfl) rfl rfl ⟨(blk_cell PRi.out.hv 0).trans rfl, (blk_cell PRi.out.pb.b0 0).trans rfl, PRound.cellL PRi.out (x + i) (xi_in x i t hx2 hlt)⟩ (fun hHeld => ?_)
    refine pure_ (i := 1) (N := some 64) (v := ?_) (a' := ?_) #[false, true, false, false, false, false, false, false, false, false, false, false, false, false, false] rfl rfl (by kernel_rfl) (fun _ _ _ h => EndK.np h) (Or.inl ⟨by rfl, ?_⟩) ?_ ?_; rotate_left; (intro w'; go_simp; with_reducible rfl); rotate_left; (simp only [Act.put, List.setIfInBounds_toArray, List.set_cons_zero, List.set_cons_succ, i64_w, hxi]; rfl)
    refine pure_ (i := 2) (N := some 65) (v := ?_) (a' := ?_) #[false, true, true, false, false, false, false, false, false, false, false, false, false, false, false] rfl rfl (by kernel_rfl) (fun _ _ _ h => EndK.np h) (Or.inl ⟨by rfl, ?_⟩) ?_ ?_; rotate_left; (intro w'; go_simp; with_reducible rfl); rotate_left; (simp only [Act.put, List.setIfInBounds_toArray, List.set_cons_zero, List.set_cons_succ, i64_w, hxi]; rfl)
    refine pure_ (i := 3) (N := some 66) (v := ?_) (a' := ?_) #[false, true, true, true, false, false, false, false, false, false, false, false, false, false, false] rfl rfl (by kernel_rfl) (fun _ _ _ h => EndK.np h) (Or.inl ⟨by rfl, ?_⟩) ?_ ?_; rotate_left; (intro w'; go_simp; with_reducible rfl); rotate_left; (simp only [Act.put, List.setIfInBounds_toArray, List.set_cons_zero, List.set_cons_succ, i64_w, hxi]; rfl)
    refine pure_ (i := 6) (N := some 69) (v := ?_) (a' := ?_) #[false, true, true, true, false, false, true, false, false, false, false, false, false, false, false] rfl rfl (by kernel_rfl) (fun _ _ _ h => EndK.np h) (Or.inl ⟨by rfl, ?_⟩) ?_ ?_; rotate_left; (intro w'; go_simp; with_reducible rfl); rotate_left; (simp only [Act.put, List.setIfInBounds_toArray, List.set_cons_zero, List.set_cons_succ, i64_w, hxi]; rfl)
    refine pure_ (i := 7) (N := some 70) (v := ?_) (a' := ?_) #[false, true, true, true, false, false, true, true, false, false, false, false, false, false, false] rfl rfl (by kernel_rfl) (fun _ _ _ h => EndK.np h) (Or.inl ⟨by rfl, ?_⟩) ?_ ?_; rotate_left; (intro w'; go_simp; with_reducible rfl); rotate_left; (simp only [Act.put, List.setIfInBounds_toArray, List.set_cons_zero, List.set_cons_succ, i64_w, hxi]; rfl)
    refine pure_ (i := 8) (N := some 71) (v := ?_) (a' := ?_) #[false, true, true, true, false, false, true, true, true, false, false, false, false, false, false] rfl rfl (by kernel_rfl) (fun _ _ _ h => EndK.np h) (Or.inl ⟨by rfl, ?_⟩) ?_ ?_; rotate_left; (intro w'; go_simp; with_reducible rfl); rotate_left; (simp only [Act.put, List.setIfInBounds_toArray, List.set_cons_zero, List.set_cons_succ, i64_w, hxi]; rfl)
    refine pure_ (i := 11) (N := some 74) (v := ?_) (a' := ?_) #[false, true, true, true, false, false, true, true, true, false, false, true, false, false, false] rfl rfl (by kernel_rfl) (fun _ _ _ h => EndK.np h) (Or.inl ⟨by rfl, ?_⟩) ?_ ?_; rotate_left; (intro w'; go_simp; with_reducible rfl); rotate_left; (simp only [Act.put, List.setIfInBounds_toArray, List.set_cons_zero, List.set_cons_succ, i64_w, hxi]; rfl)
    refine take_ (i := 0) (N := some 63) (v := ?_) (a' := ?_) #[true, true, true, true, false, false, true, true, true, false, false, true, false, false, false] rfl rfl (by kernel_rfl) (fun _ _ _ h => EndK.np h) (Or.inl ⟨by rfl, ?_⟩) hHeld ?_ ?_; rotate_left; (rintro w' ⟨s0, s1, s2⟩; go_simp; with_reducible rfl); rotate_left; (simp only [Act.put, List.setIfInBounds_toArray, List.set_cons_zero, List.set_cons_succ, i64_w, hxi]; rfl)
    refine take_ (i := 4) (N := some 67) (v := ?_) (a' := ?_) #[true, true, true, true, true, false, true, true, true, false, false, true, false, false, false] rfl rfl (by kernel_rfl) (fun _ _ _ h => EndK.np h) (Or.inl ⟨by rfl, ?_⟩) hHeld ?_ ?_; rotate_left; (rintro w' ⟨s0, s1, s2⟩; go_simp; with_reducible rfl); rotate_left; (simp only [Act.put, List.setIfInBounds_toArray, List.set_cons_zero, List.set_cons_succ, i64_w, hxi]; rfl)
    refine take_ (i := 5) (N := some 68) (v := ?_) (a' := ?_) #[true, true, true, true, true, true, true, true, true, false, false, true, false, false, false] rfl rfl (by kernel_rfl) (fun _ _ _ h => EndK.np h) (Or.inl ⟨by rfl, ?_⟩) hHeld ?_ ?_; rotate_left; (rintro w' ⟨s0, s1, s2⟩; go_simp; with_reducible rfl); rotate_left; (simp only [Act.put, List.setIfInBounds_toArray, List.set_cons_zero, List.set_cons_succ, i64_w, hxi]; rfl)
    refine pure_ (i := 9) (N := some 72) (v := ?_) (a' := ?_) #[true, true, true, true, true, true, true, true, true, true, false, true, false, false, false] rfl rfl (by kernel_rfl) (fun _ _ _ h => EndK.np h) (Or.inl ⟨by rfl, ?_⟩) ?_ ?_; rotate_left; (intro w'; go_simp; with_reducible rfl); rotate_left; (simp only [Act.put, List.setIfInBounds_toArray, List.set_cons_zero, List.set_cons_succ, i64_w, hxi]; rfl)
    refine take_ (i := 10) (N := some 73) (v := ?_) (a' := ?_) #[true, true, true, true, true, true, true, true, true, true, true, true, false, false, false] rfl rfl (by kernel_rfl) (fun _ _ _ h => EndK.np h) (Or.inl ⟨by rfl, ?_⟩) hHeld ?_ ?_; rotate_left; (rintro w' ⟨s0, s1, s2⟩; go_simp; with_reducible rfl); rotate_left; (simp only [Act.put, List.setIfInBounds_toArray, List.set_cons_zero, List.set_cons_succ, i64_w, hxi]; rfl)
    refine one_ (i := 12) (N := some 75) #[true, true, true, true, true, true, true, true, true, true, true, true, true, false, false] rfl rfl (by kernel_rfl) (by decide) (fun K hK => ?_)
    refine goes_ Try.func31 (by kernel_rfl) rfl #[.int .u64 p, .int .u64 ((offAt p x rf i st.1).getD (x + i) 0), .int .u64 (rf.getD i 0)] (by rfl) rfl rfl (by (try simp only [List.map_toArray, List.map_cons, List.map_nil]); first | done | rfl) ?_
    refine (field_Sub.calls p _ _ _ _ (HSUB i)).mono ?_
    rintro e w8 ⟨rfl, ⟨nd, rfl⟩⟩
    refine ⟨_, rfl, ?_⟩
    refine hK.out _ _ hHeld (fun hHeld => ?_)
    clear hK K
    refine norm_ (a' := ?_) ?_ ?_
    rotate_left
    ·show Act.put _ (some 75) _ = _
     simp only [Act.put, List.setIfInBounds_toArray, List.set_cons_zero, List.set_cons_succ]
     rfl
    refine pure_ (i := 13) (N := some 76) (v := ?_) (a' := ?_) #[true, true, true, true, true, true, true, true, true, true, true, true, true, true, false] rfl rfl (by kernel_rfl) (fun _ _ _ h => EndK.np h) (Or.inl ⟨by rfl, ?_⟩) ?_ ?_; rotate_left; (intro w'; go_simp; with_reducible rfl); rotate_left; (simp only [Act.put, List.setIfInBounds_toArray, List.set_cons_zero, List.set_cons_succ, i64_w, hxi]; rfl)
    refine last_ (i := 14) (N := none) #[true, true, true, true, true, true, true, true, true, true, true, true, true, true, true] rfl rfl (by kernel_rfl) (by decide) (fun K hK => ?_)
    have PRd := PRi.out.drew.drewN nd
    have hfz := PRound.frozenL PRd (x + i) (xi_in x i t hx2 hlt)
    have hKO := (KOi.out.trans (KeepsOthers.drew wr)).trans (keeps_drewN wr.drew nd)
    have hHB := pw_below_drewN (below_drew HBi.out) nd
    have hBW := pw_below_drewN (below_drew BWi.out) nd
    generalize wr.drew.drewN nd = w9 at *
    refine skip_ rfl rfl (w1 := w9.setCell ⟨gl, x + i, none⟩ (.int .u64 (((offAt p x rf i st.1).getD (x + i) 0 - rf.getD i 0) % p))) ?_ ?_
    ·have hfz1 := hfz.2
     have hfz0 := hfz.1
     clear hfz
     go_simp
    refine hK.out _ _ ?_
    refine done_ (by kernel_rfl) ?_
    refine ⟨rfl, ?_⟩
    clear hK K hHeld hfz hcf hix0 hix1 hix2 hxi hi0 hi1
    gi_wp2
    go_roundw
    case rel => exact ⟨i + 1, hlt, by go_num, ⟨PRd.setL (x + i) _⟩, ⟨hKO.trans (KeepsOthers.setCell _ _ _)⟩, ⟨hHB.setCell (p := ⟨gl, x + i, none⟩) hgl1 _⟩, ⟨hBW.setCell (p := ⟨gl, x + i, none⟩) hgl1 _⟩⟩
    case measure => simp [intOf]; omega
   ·obtain rfl : i = t + 1 := by omega
    gi_wp2_with ((with_reducible refine gin_dst (N := 78) rfl ?_); refine stop_here ?_)
    refine Aside0.mk ?_
    refine list_inQ _ rfl _ _ _ (by kernel_rfl) ?_
    have hcw : wr.cell? ⟨gw, 0, none⟩ = some (.slice (some ⟨gd, 0, none⟩) t cd) := (blk_cell PRi.out.hw 0).trans rfl
    have hxw : wrap64 ((x : Int) - 1) = (x : Int) - 1 := x1_wrap x t hx1 hx2 ht2
    have hx10 : (0 : Int) ≤ (x : Int) - 1 := x1_nn x hx1
    have hx11 : (x : Int) - 1 < (t : Int) := x1_lt x t hx2
    have hx12 : ((x : Int) - 1).toNat = x - 1 := x1_ton x hx1
    go_wp2_with ((with_reducible refine gate_store (t := 23) (p := 82) rfl ?_); refine stop_here ?_)
    refine Aside0.mk ?_
    obtain ⟨oki, c, hcl, hgfo, hH⟩ := PRound.lend PRi.out ((x : Int) - 1) hx10 hx11
    refine Kd.H_store (Kd.slice 22 (Kd.int .u64)) (w0 := w) w.heap.size rfl rfl 23 (.tmp 82) (.tmp 81) rfl 23 ((x : Int) - 1) 0 st.2 rf (.slice (some ⟨gf, 0, none⟩) (t + 1) cf) [.slice (some ⟨gf, 0, none⟩) (t + 1) cf] c _ oki (fun k => k = gf) rfl ?hoff rfl rfl (by kernel_rfl) (by intro q hq; rw [List.mem_singleton.1 hq]; rfl) hH hx10 hx11 ?hj ?hM ?hokp HBi.out ?_
    case hoff => rw [hx12]; exact (Nat.mul_one _).symm
    case hj => exact Nat.le_refl 1
    case hM =>
     show (Kd.slice 22 (Kd.int .u64)).M wr w.heap.size (fun k => k = gf) rf (c.take 0 ++ [_] ++ c.drop (0 + 1))
     rw [one_hole _ hcl]
     exact ⟨_, rfl, PRi.out.hf⟩
    case hokp => intro k hk; rw [hk]; exact hgfo
    intro w10 hs10 hb10 hg10
    rw [hx12] at hs10
    have hrd : roundsS p t l4 left0 (pre ++ [⟨x, hx1, hx2⟩]) = (offAt p x rf (t + 1) st.1, st.2.set (x - 1) rf) := by
     rw [roundsS_snoc, ← HST.out]
     unfold roundS
     rw [← HRF.out]
    refine ⟨rfl, ?_⟩
    refine ⟨KOi.out.trans (KeepsOthers.of_grownBy hg10 ?_), BWi.out.grown hg10 HBi.out.size ?_, ?_, hb10⟩
    ·intro j o e ho
     obtain rfl : gd = j := Option.some.inj e
     obtain ⟨cells, hc⟩ := Kd.S_typed PRi.out.hs gd rfl
     rw [hc] at ho
     obtain rfl := Option.some.inj ho
     rfl
    ·intro k e
     obtain rfl := Option.some.inj e
     exact hgd1
    ·rw [hrd]
     exact PRi.out.finish hg10 hs10 (offAt_allF HP.out x rf (t + 1) st.1 HAL.out)
 case done =>
  rintro D ys W hD rfl ⟨hPL, hB⟩ hK
  have hPLo := Aside0.mk hPL
  have hcw : W.cell? ⟨gw, 0, none⟩ = some (.slice (some ⟨gd, 0, none⟩) t cd) := (blk_cell hPL.hw 0).trans rfl
  have hcv : W.cell? ⟨gv, 0, none⟩ = some (.slice (some ⟨gl, 0, none⟩) (2 * t + 1) cl) := (blk_cell hPL.hv 0).trans rfl
  have hctt : W.cell? ⟨w.heap.size + 1, 0, none⟩ = some (.int .i64 (t : Int)) := (blk_cell hPL.pb.b1 0).trans rfl
  have hcut := cut_left t gl cl ht2 (Kd.R_reads' hPL.hl).2.1
  have hw1 : wrap64 ((t : Int) + 1) = (t : Int) + 1 := wrap_in (by omega) (by omega)
  dsimp only
  clear hPL
  go_wp2
  refine wp_region_noPanic ?_
  refine start_ (n := 7) (S := fun w' => w'.cell? ⟨gw, 0, none⟩ = some (.slice (some ⟨gd, 0, none⟩) t cd) ∧ w'.cell? ⟨gv, 0, none⟩ = some (.slice (some ⟨gl, 0, none⟩) (2 * t + 1) cl) ∧ w'.cell? ⟨w.heap.size + 1, 0, none⟩ = some (.int .i64 (t : Int))) (ds := []) #[false, false, false, false, false, false, false] (by kernel_rfl) rfl rfl ⟨hcw, hcv, hctt⟩ (fun hHeld => ?_)
  refine take_ (i := 0) (N := some 83) (v := ?_) (a' := ?_) #[true, false, false, false, false, false, false] rfl rfl (by kernel_rfl) (fun _ _ _ h => h) (Or.inl ⟨by rfl, ?_⟩) hHeld ?_ ?_; rotate_left; (rintro w' ⟨s0, s1, s2⟩; go_simp; with_reducible rfl); rotate_left; (simp only [Act.put, List.setIfInBounds_toArray, List.set_cons_zero, List.set_cons_succ, i64_w, hw1]; rfl)
  refine take_ (i := 1) (N := some 84) (v := ?_) (a' := ?_) #[true, true, false, false, false, false, false] rfl rfl (by kernel_rfl) (fun _ _ _ h => h) (Or.inl ⟨by rfl, ?_⟩) hHeld ?_ ?_; rotate_left; (rintro w' ⟨s0, s1, s2⟩; go_simp; with_reducible rfl); rotate_left; (simp only [Act.put, List.setIfInBounds_toArray, List.set_cons_zero, List.set_cons_succ, i64_w, hw1]; rfl)
  refine take_ (i := 2) (N := some 85) (v := ?_) (a' := ?_) #[true, true, true, false, false, false, false] rfl rfl (by kernel_rfl) (fun _ _ _ h => h) (Or.inl ⟨by rfl, ?_⟩) hHeld ?_ ?_; rotate_left; (rintro w' ⟨s0, s1, s2⟩; go_simp; with_reducible rfl); rotate_left; (simp only [Act.put, List.setIfInBounds_toArray, List.set_cons_zero, List.set_cons_succ, i64_w, hw1]; rfl)
  refine pure_ (i := 3) (N := some 86) (v := ?_) (a' := ?_) #[true, true, true, true, false, false, false] rfl rfl (by kernel_rfl) (fun _ _ _ h => h) (Or.inl ⟨by rfl, ?_⟩) ?_ ?_; rotate_left; (intro w'; go_simp; with_reducible rfl); rotate_left; (simp only [Act.put, List.setIfInBounds_toArray, List.set_cons_zero, List.set_cons_succ, i64_w, hw1]; rfl)
  refine pure_ (i := 4) (N := some 87) (v := ?_) (a' := ?_) #[true, true, true, true, true, false, false] rfl rfl (by kernel_rfl) (fun _ _ _ h => h) (Or.inl ⟨by rfl, ?_⟩) ?_ ?_; rotate_left; (intro w'; go_simp; with_reducible rfl); rotate_left; (simp only [Act.put, List.setIfInBounds_toArray, List.set_cons_zero, List.set_cons_succ, i64_w, hw1]; rfl)
  refine pure_ (i := 5) (N := some 10) (v := ?_) (a' := ?_) #[true, true, true, true, true, true, false] rfl rfl (by kernel_rfl) (fun _ _ _ h => h) (Or.inl ⟨by rfl, ?_⟩) ?_ ?_; rotate_left; (intro w'; go_simp; with_reducible rfl); rotate_left; (simp only [Act.put, List.setIfInBounds_toArray, List.set_cons_zero, List.set_cons_succ, i64_w, hw1]; rfl)
  refine pure_ (i := 6) (N := some 11) (v := ?_) (a' := ?_) #[true, true, true, true, true, true, true] rfl rfl (by kernel_rfl) (fun _ _ _ h => h) (Or.inl ⟨by rfl, ?_⟩) ?_ ?_; rotate_left; (intro w'; go_simp; with_reducible rfl); rotate_left; (simp only [Act.put, List.setIfInBounds_toArray, List.set_cons_zero, List.set_cons_succ, i64_w, hw1]; rfl)
  refine done_ (by kernel_rfl) ?_
  refine NoPanic.normal ?_
  go_wp2
  have hK2 : W.drew.heap[D]? = some (.deferred (some [])) := hK
  refine ⟨by simp, .inl ⟨_, _, rfl, run_takeDeferred hK2, ?_⟩⟩
  refine ⟨_, results_tmp2 rfl _ _ _, _, _, rfl, ?_⟩
  have PLd : PLoop (W.drew.putObj D (.deferred none)) w.heap.size p t (.slice A4 l4.length c4) gv gl cl gw gd cd (roundsS p t l4 left0 (downFirst t t)) :=
   PLoop.own (fun (_ : Unit) => roundsS p t l4 left0 (downFirst t t)) 0 () W.drew _ (some D) (PLoop.drew hPLo.out) (grownBy_putObj' _ D _) (fun r e => by cases e; exact ⟨Nat.zero_le _, _, hK2, rfl⟩)
  rw [hleft]
  generalize roundsS p t l4 left0 (downFirst t t) = st at PLd ⊢
  have hlen := (Kd.R_reads' PLd.hl).1
  refine ⟨Kd.S_mono PLd.hs (fun k hk => ?_), Kd.R_mono (Kd.R_take PLd.hl (half_le t _ hlen)) (fun _ _ => trivial), (below_drew hB).trans (belowK_b (w := w) (Nat.le_refl _) W.drew D _ _ (Nat.le_trans hsz8 hD) hK2 rfl rfl)⟩
  intro e
  simp [Value.ownBlock] at e
  exact hk.2.2.2 e
theorem productproof_Prove.calls (a0 : Int) (a1 : Int) (A2 : Option Addr) (c2 : Nat) (l2 : List Int) (A3 : Option Addr) (c3 : Nat) (l3 : List Int) (A4 : Option Addr) (c4 : Nat) (l4 : List Int) (r1 : List (List Int)) (r2 : List Int) (w : World)
  (hr2 : Kd.C (Kd.int .u64) w A2 l2.length l2) (hc2 : l2.length ≤ c2) (hr3 : Kd.C (Kd.int .u64) w A3 l3.length l3) (hc3 : l3.length ≤ c3) (hr4 : Kd.C (Kd.int .u64) w A4 l4.length l4) (hc4 : l4.length ≤ c4)
  (h : productproof_Prove.f a0 a1 l2 l3 l4 = some (r1, r2)) :
  Calls Try.prog 12 #[.int .u64 a0, .int .i64 a1, .slice A2 l2.length c2, .slice A3 l3.length c3, .slice A4 l4.length c4] w fun e w' => ∃ v0_ v1_ : Value, e = .returned (.tuple #[v0_, v1_]) ∧
   Kd.S (Kd.slice 22 (Kd.int .u64)) 23 w' w.heap.size (fun k_ => some k_ ≠ (v1_ : Value).ownBlock) v0_ r1 ∧ Kd.R (Kd.int .u64) 22 w' w.heap.size (fun _ => True) v1_ r2 ∧ Below w.heap.size w w' := by
 unfold productproof_Prove.f at h
 split at h
 ·rename_i hg
  simp only [Bool.and_eq_true, decide_eq_true_eq] at hg
  obtain ⟨⟨⟨⟨⟨⟨⟨⟨g1, g2⟩, g3⟩, g4⟩, g5⟩, g6⟩, g7⟩, g8⟩, g9⟩ := hg
  obtain ⟨t, rfl⟩ : ∃ t : Nat, a1 = (t : Int) := ⟨a1.toNat, by omega⟩
  rw [Int.toNat_natCast] at h g9
  obtain ⟨rfl, rfl⟩ := Prod.mk.inj (Option.some.inj h)
  exact prove_walk a0 t A2 c2 l2 A3 c3 l3 A4 c4 l4 w hr2 hc2 hr3 hc3 hr4 hc4 g1 g2 g3 g4 (by omega) (by omega) g7 g8 g9
 ·cases h
end Go.Proofs.Ytkcjhcjlaefgmaa
