/- What the claim's row needs of the contracts and words below it, and no more. -/
import Derived.Test.YtdemeoncjcbojaaQEd1
import Derived.Test.YtdemeoncjcbojaaProg
import Derived.RangeFuncNested
import Derived.RangeFuncBound
import Derived.RangeFuncCalls
import Derived.RangeFuncLeaves
import Derived.RangeFuncBox
import Derived.Shelf.Abstract
import Derived.Shelf.RegionOpen
import Derived.WalkKit
import Derived.OwnWalkIn
import Derived.TacticsInMore
import Derived.LoopNIn
import Derived.LoopIn
import Derived.RegionIn
import Derived.OpenShut
import Derived.RangeFuncWrites
section
namespace Go.Proofs.Ytdemeoncjcbojaa.Ob
open Go.RowKit Go.Proofs.Ytdemeoncjcbojaa.RWs Go.Proofs.YtdemeoncjcbojaaW.PrintWords Go.Proofs.YtdemeoncjcbojaaW.PrintLast Go.Proofs.YtdemeoncjcbojaaW.PrintMore
set_option linter.unusedVariables false
abbrev Bx := Nat × Nat × Bool × Value
abbrev Rw := Value × List Int
def Rt (w W : World) (r : Rw) : Prop := Kd.RW (Kd.int .i64) 3 W w.heap.size (fun k => some k = r.1.ownBlock) r.1 r.2
structure Ob (w W : World) (bs : List Bx) (rs : List Rw) : Prop where
  below : Below w.heap.size w W
  box : ∀ (i : Nat) (x : Bx), bs[i]? = some x → (w.heap.size ≤ x.1 ∧ x.2.1 ≠ 3) ∧ W.heap[x.1]? = some (.cells #[.bool x.2.2.1, x.2.2.2] x.2.1 (0, 0))
  bne : ∀ (i j : Nat) (x y : Bx), bs[i]? = some x → bs[j]? = some y → i ≠ j → x.1 ≠ y.1
  row : ∀ (i : Nat) (r : Rw), rs[i]? = some r → Rt w W r
  rne : ∀ (i j : Nat) (r s : Rw), rs[i]? = some r → rs[j]? = some s → i ≠ j → ∀ k, some k = r.1.ownBlock → some k ≠ s.1.ownBlock
theorem snoc_get {α : Type} {l : List α} {x y : α} {i : Nat} (h : (l ++ [x])[i]? = some y) : (i < l.length ∧ l[i]? = some y) ∨ (i = l.length ∧ y = x) := by
  rcases Nat.lt_trichotomy i l.length with h1 | h1 | h1
  · rw [List.getElem?_append_left h1] at h; exact .inl ⟨h1, h⟩
  · subst h1
    rw [List.getElem?_append_right (Nat.le_refl _), Nat.sub_self] at h
    exact .inr ⟨rfl, (Option.some.inj h).symm⟩
  · rw [List.getElem?_eq_none (by simp; omega)] at h; cases h
theorem set_get {α : Type} {l : List α} {x y z : α} {i j : Nat} (hi : l[i]? = some z) (h : (l.set i x)[j]? = some y) : (j = i ∧ y = x) ∨ (j ≠ i ∧ l[j]? = some y) := by
  by_cases e : j = i
  · subst e
    rw [List.getElem?_set_self (List.getElem?_eq_some_iff.1 hi).1] at h
    exact .inl ⟨rfl, (Option.some.inj h).symm⟩
  · rw [List.getElem?_set_ne (Ne.symm e)] at h
    exact .inr ⟨e, h⟩
section
variable {w W W' : World} {bs : List Bx} {rs : List Rw}
theorem Rt.lt {r : Rw} (h : Rt w W r) {k : Nat} (hk : some k = r.1.ownBlock) : k < W.heap.size := Kd.RW_lt h k hk.symm
theorem Rt.of {W0 : World} {ok : Nat → Prop} {v : Value} {xs : List Int} (h : Kd.RW (Kd.int .i64) 3 W W0.heap.size ok v xs) (hb : w.heap.size ≤ W0.heap.size) : Rt w W (v, xs) := Kd.RW_lower (Kd.RW_tight rfl h) hb
theorem Rt.kept {S : Nat → Prop} {r : Rw} (h : Rt w W r) (hk : Kept W W' S) (hs : ∀ k, some k = r.1.ownBlock → ¬ S k) : Rt w W' r := Kd.RW_mono (Kd.RW_keptB h hk hs) (fun _ h => h.1)
theorem Ob.kept {S : Nat → Prop} (h : Ob w W bs rs) (hb : Below w.heap.size w W') (hk : Kept W W' S) (h1 : ∀ (i : Nat) (x : Bx), bs[i]? = some x → ¬ S x.1) (h2 : ∀ (i : Nat) (r : Rw), rs[i]? = some r → ∀ k, some k = r.1.ownBlock → ¬ S k) : Ob w W' bs rs :=
  ⟨hb, fun i x hi => ⟨(h.box i x hi).1, blk_kept (h.box i x hi).2 hk (h1 i x hi)⟩, h.bne, fun i r hi => (h.row i r hi).kept hk (h2 i r hi), h.rne⟩
theorem Ob.step (h : Ob w W bs rs) (hb : Below W.heap.size W W') : Ob w W' bs rs :=
  h.kept (below_step h.below hb) (Kept.of_below hb (fun _ => False)) (fun _ _ _ h => h) (fun _ _ _ _ _ h => h)
theorem Ob.keep (h : Ob w W bs rs) (hb : Below w.heap.size w W') (hk : Kept W W' (fun _ => False)) : Ob w W' bs rs :=
  h.kept hb hk (fun _ _ _ h => h) (fun _ _ _ _ _ h => h)
theorem Ob.drew (h : Ob w W bs rs) : Ob w W.drew bs rs := h.step (Below.refl _ W).drew
theorem Ob.lt (h : Ob w W bs rs) {i : Nat} {x : Bx} (hi : bs[i]? = some x) : x.1 < W.heap.size := blk_lt (h.box i x hi).2
theorem Ob.pushRow {ok : Nat → Prop} {v : Value} {xs : List Int} (h : Ob w W bs rs) (hb : Below W.heap.size W W') (hr : Kd.RW (Kd.int .i64) 3 W' W.heap.size ok v xs) : Ob w W' bs (rs ++ [(v, xs)]) := by
  have h' := h.step hb
  have hv : Rt w W' (v, xs) := Rt.of hr h.below.size
  have ge : ∀ k, some k = v.ownBlock → W.heap.size ≤ k := fun k hk => Kd.RW_base hr k hk.symm
  refine ⟨h'.below, h'.box, h'.bne, fun i r hi => ?_, fun i j r s hi hj hne k hk => ?_⟩
  · rcases snoc_get hi with ⟨_, h1⟩ | ⟨_, h1⟩
    · exact h'.row i r h1
    · subst h1; exact hv
  · rcases snoc_get hi with ⟨_, h1⟩ | ⟨e1, h1⟩ <;> rcases snoc_get hj with ⟨_, h2⟩ | ⟨e2, h2⟩
    · exact h'.rne i j r s h1 h2 hne k hk
    · subst h2
      intro e
      have := (h.row i r h1).lt hk
      have := ge k e
      omega
    · subst h1
      intro e
      have := (h.row j s h2).lt e
      have := ge k hk
      omega
    · omega
theorem Ob.pushBox {g t : Nat} {n : Bool} {v : Value} (h : Ob w W bs rs) (hb : Below W.heap.size W W') (hg : W.heap.size ≤ g) (hbx : W'.heap[g]? = some (.cells #[.bool n, v] t (0, 0))) (ht : t ≠ 3) : Ob w W' (bs ++ [(g, t, n, v)]) rs := by
  have h' := h.step hb
  refine ⟨h'.below, fun i x hi => ?_, fun i j x y hi hj hne => ?_, h'.row, h'.rne⟩
  · rcases snoc_get hi with ⟨_, h1⟩ | ⟨_, h1⟩
    · exact h'.box i x h1
    · subst h1; exact ⟨⟨Nat.le_trans h.below.size hg, ht⟩, hbx⟩
  · rcases snoc_get hi with ⟨_, h1⟩ | ⟨e1, h1⟩ <;> rcases snoc_get hj with ⟨_, h2⟩ | ⟨e2, h2⟩
    · exact h'.bne i j x y h1 h2 hne
    · subst h2
      have := h.lt h1
      show x.1 ≠ g
      omega
    · subst h1
      have := h.lt h2
      show g ≠ y.1
      omega
    · omega
theorem Rt.far {r : Rw} (h : Rt w W r) {g t : Nat} {cs : Array Value} (hb : W.heap[g]? = some (.cells cs t (0, 0))) (ht : t ≠ 3) : ∀ k, some k = r.1.ownBlock → k ≠ g := fun k hk e => Kd.RW_ne h hb (Ne.symm ht) (by rw [← e]; exact hk)
theorem Ob.setBox {i g t : Nat} {n n' : Bool} {v v' : Value} (h : Ob w W bs rs) (hi : bs[i]? = some (g, t, n, v)) : Ob w ((W.setCell ⟨g, 0, none⟩ (.bool n')).setCell ⟨g, 1, none⟩ v') (bs.set i (g, t, n', v')) rs := by
  obtain ⟨⟨hg, ht⟩, hbx⟩ := h.box i _ hi
  have hbx2 := blk_put (cs := #[.bool n', v]) (blk_put (cs := #[.bool n, v]) hbx 0 (.bool n') rfl) 1 v' rfl
  have hk : Kept W ((W.setCell ⟨g, 0, none⟩ (.bool n')).setCell ⟨g, 1, none⟩ v') (fun k => k = g) := ((Kept.refl W (fun k => k = g)).setCell (p := ⟨g, 0, none⟩) (.inl rfl) _).setCell (p := ⟨g, 1, none⟩) (.inl rfl) _
  refine ⟨below_set (below_set h.below hg) hg, fun j x hj => ?_, fun j l x y hj hl hne => ?_, fun j r hj => (h.row j r hj).kept hk ((h.row j r hj).far hbx ht), h.rne⟩
  · rcases set_get hi hj with ⟨_, h1⟩ | ⟨h0, h1⟩
    · subst h1; exact ⟨⟨hg, ht⟩, hbx2⟩
    · exact ⟨(h.box j x h1).1, blk_kept (h.box j x h1).2 hk (h.bne j i x _ h1 hi h0)⟩
  · rcases set_get hi hj with ⟨e1, h1⟩ | ⟨e1, h1⟩ <;> rcases set_get hi hl with ⟨e2, h2⟩ | ⟨e2, h2⟩
    · omega
    · subst h1; exact h.bne i l (g, t, n, v) y hi h2 (Ne.symm e2)
    · subst h2; exact h.bne j i x (g, t, n, v) h1 hi e1
    · exact h.bne j l x y h1 h2 hne
theorem Ob.mark {i : Nat} {u : Value} {xs xs' : List Int} {ok : Nat → Prop} (h : Ob w W bs rs) (hi : rs[i]? = some (u, xs)) (hb : Below w.heap.size w W') (hk : Kept W W' (fun k => some k = u.ownBlock)) (hr : Kd.RW (Kd.int .i64) 3 W' w.heap.size ok u xs') : Ob w W' bs (rs.set i (u, xs')) := by
  have hv : Rt w W' (u, xs') := Rt.of hr (Nat.le_refl _)
  refine ⟨hb, fun j x hj => ⟨(h.box j x hj).1, blk_kept (h.box j x hj).2 hk (fun e => (h.row i _ hi).far (h.box j x hj).2 (h.box j x hj).1.2 x.1 e rfl)⟩, h.bne, fun j r hj => ?_, fun j l r s hj hl hne k hk2 => ?_⟩
  · rcases set_get hi hj with ⟨_, h1⟩ | ⟨h0, h1⟩
    · subst h1; exact hv
    · exact (h.row j r h1).kept hk (fun k hk2 e => h.rne j i r _ h1 hi h0 k hk2 e)
  · rcases set_get hi hj with ⟨e1, h1⟩ | ⟨e1, h1⟩ <;> rcases set_get hi hl with ⟨e2, h2⟩ | ⟨e2, h2⟩
    · omega
    · subst h1; exact h.rne i l (u, xs) s hi h2 (Ne.symm e2) k hk2
    · subst h2; exact h.rne j i r (u, xs) h1 hi e1 k hk2
    · exact h.rne j l r s h1 h2 hne k hk2
theorem Ob.rd (h : Ob w W bs rs) {i : Nat} {A : Option Addr} {n c : Nat} {xs : List Int} (hi : rs[i]? = some (.slice A n c, xs)) : n = xs.length ∧ n ≤ c ∧ Kd.C (Kd.int .i64) W A xs.length xs := Kd.RW_reads' (h.row i _ hi)
theorem Ob.c0 (h : Ob w W bs rs) {i g t : Nat} {n : Bool} {v : Value} (hi : bs[i]? = some (g, t, n, v)) : W.cell? ⟨g, 0, none⟩ = some (.bool n) := (blk_cell (h.box i _ hi).2 0).trans rfl
theorem Ob.c1 (h : Ob w W bs rs) {i g t : Nat} {n : Bool} {v : Value} (hi : bs[i]? = some (g, t, n, v)) : W.cell? ⟨g, 1, none⟩ = some v := (blk_cell (h.box i _ hi).2 1).trans rfl
theorem Ob.fz (h : Ob w W bs rs) {i g t : Nat} {n : Bool} {v : Value} (hi : bs[i]? = some (g, t, n, v)) (j : Nat) : W.frozen? ⟨g, j, none⟩ = false := blk_frozen (h.box i _ hi).2 j
structure Rg (w Wd W : World) (l l' ql rl : List Int) (qn rn : Bool) (b : Nat → Bool) (v1 v3 vq vr : Value) (g9 g10 : Nat) : Prop where
  below : Below w.heap.size w W
  kd : Kept Wd W (fun _ => False)
  r1 : b 1 = true → Rt Wd W (v1, l)
  r3 : b 3 = true → Rt Wd W (v3, l')
  r4 : b 4 = true → Rt Wd W (vq, ql) ∧ Rt Wd W (vr, rl) ∧ ∀ k, some k = vq.ownBlock → some k ≠ vr.ownBlock
  x9 : b 9 = true → Wd.heap.size ≤ g9 ∧ W.heap[g9]? = some (.cells (if b 11 = true then #[.bool qn, vq] else #[.bool false, .slice none 0 0]) 27 (0, 0))
  x10 : b 10 = true → Wd.heap.size ≤ g10 ∧ W.heap[g10]? = some (.cells (if b 12 = true then #[.bool rn, vr] else #[.bool false, .slice none 0 0]) 27 (0, 0))
  ne : b 9 = true → b 10 = true → g9 ≠ g10
variable {Wd : World} {l l' ql rl : List Int} {qn rn : Bool} {b : Nat → Bool} {v1 v3 vq vr v v' : Value} {g9 g10 g : Nat} {ok ok' : Nat → Prop}
theorem Rt.step {r : Rw} (h : Rt w W r) (hb : Below W.heap.size W W') : Rt w W' r := h.kept (Kept.of_below hb (fun _ => False)) (fun _ _ h => h)
theorem Rg.step (h : Rg w Wd W l l' ql rl qn rn b v1 v3 vq vr g9 g10) (hb : Below W.heap.size W W') : Rg w Wd W' l l' ql rl qn rn b v1 v3 vq vr g9 g10 :=
  ⟨below_step h.below hb, h.kd.below hb, fun e => (h.r1 e).step hb, fun e => (h.r3 e).step hb, fun e => ⟨(h.r4 e).1.step hb, (h.r4 e).2.1.step hb, (h.r4 e).2.2⟩,
    fun e => ⟨(h.x9 e).1, blk_below (h.x9 e).2 hb⟩, fun e => ⟨(h.x10 e).1, blk_below (h.x10 e).2 hb⟩, h.ne⟩
theorem Rg.start (hb : Below w.heap.size w Wd) : Rg w Wd Wd l l' ql rl qn rn (fun _ => false) v1 v3 vq vr g9 g10 :=
  ⟨hb, Kept.refl _ _, fun e => (by cases e), fun e => (by cases e), fun e => (by cases e), fun e => (by cases e), fun e => (by cases e), fun e => (by cases e)⟩
theorem Rg.same (h : Rg w Wd W l l' ql rl qn rn b v1 v3 vq vr g9 g10) (i : Nat) (hi : (decide (i ≠ 1) && decide (i ≠ 3) && decide (i ≠ 4) && decide (i ≠ 9) && decide (i ≠ 10) && decide (i ≠ 11) && decide (i ≠ 12)) = true) : Rg w Wd W l l' ql rl qn rn (up b i) v1 v3 vq vr g9 g10 := by
  simp only [Bool.and_eq_true, decide_eq_true_eq] at hi
  obtain ⟨⟨⟨⟨⟨⟨h1, h3⟩, h4⟩, h9⟩, h10⟩, h11⟩, h12⟩ := hi
  have e1 := up_ne (b := b) (Ne.symm h1)
  have e3 := up_ne (b := b) (Ne.symm h3)
  have e4 := up_ne (b := b) (Ne.symm h4)
  have e9 := up_ne (b := b) (Ne.symm h9)
  have e10 := up_ne (b := b) (Ne.symm h10)
  have e11 := up_ne (b := b) (Ne.symm h11)
  have e12 := up_ne (b := b) (Ne.symm h12)
  refine ⟨h.below, h.kd, ?_, ?_, ?_, ?_, ?_, ?_⟩
  · rw [e1]; exact h.r1
  · rw [e3]; exact h.r3
  · rw [e4]; exact h.r4
  · rw [e9, e11]; exact h.x9
  · rw [e10, e12]; exact h.x10
  · rw [e9, e10]; exact h.ne
theorem Rg.new (h : Rg w Wd W l l' ql rl qn rn b v1 v3 vq vr g9 g10) {xs : List Int} (hr : Kd.RW (Kd.int .i64) 3 W' W.heap.size ok v xs) : Rt Wd W' (v, xs) := Rt.of hr h.kd.1
theorem Rg.call1 (h : Rg w Wd W l l' ql rl qn rn b v1 v3 vq vr g9 g10) (hb : Below W.heap.size W W') (hr : Kd.RW (Kd.int .i64) 3 W' W.heap.size ok v l) : Rg w Wd W' l l' ql rl qn rn (up b 1) v v3 vq vr g9 g10 :=
  let k := h.step hb
  ⟨k.below, k.kd, fun _ => h.new hr, k.r3, k.r4, k.x9, k.x10, k.ne⟩
theorem Rg.call3 (h : Rg w Wd W l l' ql rl qn rn b v1 v3 vq vr g9 g10) (hb : Below W.heap.size W W') (hr : Kd.RW (Kd.int .i64) 3 W' W.heap.size ok v l') : Rg w Wd W' l l' ql rl qn rn (up b 3) v1 v vq vr g9 g10 :=
  let k := h.step hb
  ⟨k.below, k.kd, k.r1, fun _ => h.new hr, k.r4, k.x9, k.x10, k.ne⟩
theorem Rg.call4 (h : Rg w Wd W l l' ql rl qn rn b v1 v3 vq vr g9 g10) (h11 : b 11 = false) (h12 : b 12 = false) (hb : Below W.heap.size W W') (hr : Kd.RW (Kd.int .i64) 3 W' W.heap.size ok v ql) (hr' : Kd.RW (Kd.int .i64) 3 W' W.heap.size ok' v' rl) (ha : ∀ k, some k = v.ownBlock → some k ≠ v'.ownBlock) : Rg w Wd W' l l' ql rl qn rn (up b 4) v1 v3 v v' g9 g10 := by
  have k := h.step hb
  refine ⟨k.below, k.kd, k.r1, k.r3, fun _ => ⟨h.new hr, h.new hr', ha⟩, fun e => ?_, fun e => ?_, k.ne⟩
  · have := k.x9 e
    rw [if_neg (by rw [h11]; decide)] at this
    refine ⟨this.1, ?_⟩
    rw [show up b 4 11 = b 11 from rfl, if_neg (by rw [h11]; decide)]
    exact this.2
  · have := k.x10 e
    rw [if_neg (by rw [h12]; decide)] at this
    refine ⟨this.1, ?_⟩
    rw [show up b 4 12 = b 12 from rfl, if_neg (by rw [h12]; decide)]
    exact this.2
theorem Rg.alloc9 (h : Rg w Wd W l l' ql rl qn rn b v1 v3 vq vr g9 g10) (h11 : b 11 = false) (hb : Below W.heap.size W W') (hg : W.heap.size ≤ g) (hx : W'.heap[g]? = some (.cells #[.bool false, .slice none 0 0] 27 (0, 0))) : Rg w Wd W' l l' ql rl qn rn (up b 9) v1 v3 vq vr g g10 := by
  have k := h.step hb
  refine ⟨k.below, k.kd, k.r1, k.r3, k.r4, fun _ => ⟨Nat.le_trans h.kd.1 hg, ?_⟩, k.x10, fun _ e => ?_⟩
  · rw [show up b 9 11 = b 11 from rfl, if_neg (by rw [h11]; decide)]
    exact hx
  · have := blk_lt (h.x10 e).2
    omega
theorem Rg.alloc10 (h : Rg w Wd W l l' ql rl qn rn b v1 v3 vq vr g9 g10) (h12 : b 12 = false) (hb : Below W.heap.size W W') (hg : W.heap.size ≤ g) (hx : W'.heap[g]? = some (.cells #[.bool false, .slice none 0 0] 27 (0, 0))) : Rg w Wd W' l l' ql rl qn rn (up b 10) v1 v3 vq vr g9 g := by
  have k := h.step hb
  refine ⟨k.below, k.kd, k.r1, k.r3, k.r4, k.x9, fun _ => ⟨Nat.le_trans h.kd.1 hg, ?_⟩, fun e _ => ?_⟩
  · rw [show up b 10 12 = b 12 from rfl, if_neg (by rw [h12]; decide)]
    exact hx
  · have := blk_lt (h.x9 e).2
    omega
theorem Rt.put {r : Rw} {n : Bool} {u : Value} {cs : Array Value} (h : Rt w W r) (hx : W.heap[g]? = some (.cells cs 27 (0, 0))) : Rt w ((W.setCell ⟨g, 0, none⟩ (.bool n)).setCell ⟨g, 1, none⟩ u) r :=
  h.kept (((Kept.refl W (fun k => k = g)).setCell (p := ⟨g, 0, none⟩) (.inl rfl) _).setCell (p := ⟨g, 1, none⟩) (.inl rfl) _) (h.far hx (by decide))
theorem kd_put {n : Bool} {u : Value} (h : Kept Wd W (fun _ => False)) (hg : Wd.heap.size ≤ g) : Kept Wd ((W.setCell ⟨g, 0, none⟩ (.bool n)).setCell ⟨g, 1, none⟩ u) (fun _ => False) := (h.setCell (p := ⟨g, 0, none⟩) (.inr hg) _).setCell (p := ⟨g, 1, none⟩) (.inr hg) _
theorem Rg.store11 (h : Rg w Wd W l l' ql rl qn rn b v1 v3 vq vr g9 g10) (hw : w.heap.size ≤ Wd.heap.size) (h9 : b 9 = true) (h11 : b 11 = false) : Rg w Wd ((W.setCell ⟨g9, 0, none⟩ (.bool qn)).setCell ⟨g9, 1, none⟩ vq) l l' ql rl qn rn (up b 11) v1 v3 vq vr g9 g10 := by
  obtain ⟨hg, hx⟩ := h.x9 h9
  rw [if_neg (by rw [h11]; decide)] at hx
  have hw9 : w.heap.size ≤ g9 := Nat.le_trans hw hg
  refine ⟨below_set (below_set h.below hw9) hw9, kd_put h.kd hg, fun e => (h.r1 e).put hx, fun e => (h.r3 e).put hx, fun e => ⟨(h.r4 e).1.put hx, (h.r4 e).2.1.put hx, (h.r4 e).2.2⟩, fun _ => ⟨hg, ?_⟩, fun e => ⟨(h.x10 e).1, ?_⟩, h.ne⟩
  · rw [if_pos (up_self b 11)]
    exact blk_put (cs := #[.bool qn, .slice none 0 0]) (blk_put (cs := #[.bool false, .slice none 0 0]) hx 0 (.bool qn) rfl) 1 vq rfl
  · have hne := h.ne h9 e
    exact blk_far (blk_far (h.x10 e).2 (by show g10 ≠ g9; omega) _) (by show g10 ≠ g9; omega) _
theorem Rg.store12 (h : Rg w Wd W l l' ql rl qn rn b v1 v3 vq vr g9 g10) (hw : w.heap.size ≤ Wd.heap.size) (h10 : b 10 = true) (h12 : b 12 = false) : Rg w Wd ((W.setCell ⟨g10, 0, none⟩ (.bool rn)).setCell ⟨g10, 1, none⟩ vr) l l' ql rl qn rn (up b 12) v1 v3 vq vr g9 g10 := by
  obtain ⟨hg, hx⟩ := h.x10 h10
  rw [if_neg (by rw [h12]; decide)] at hx
  have hw9 : w.heap.size ≤ g10 := Nat.le_trans hw hg
  refine ⟨below_set (below_set h.below hw9) hw9, kd_put h.kd hg, fun e => (h.r1 e).put hx, fun e => (h.r3 e).put hx, fun e => ⟨(h.r4 e).1.put hx, (h.r4 e).2.1.put hx, (h.r4 e).2.2⟩, fun e => ⟨(h.x9 e).1, ?_⟩, fun _ => ⟨hg, ?_⟩, h.ne⟩
  · have hne := h.ne e h10
    exact blk_far (blk_far (h.x9 e).2 (by show g9 ≠ g10; omega) _) (by show g9 ≠ g10; omega) _
  · rw [if_pos (up_self b 12)]
    exact blk_put (cs := #[.bool rn, .slice none 0 0]) (blk_put (cs := #[.bool false, .slice none 0 0]) hx 0 (.bool rn) rfl) 1 vr rfl
theorem Rg.done (h : Rg w Wd W l l' ql rl qn rn b v1 v3 vq vr g9 g10) (hO : Ob w Wd bs rs) (h4 : b 4 = true) (h9 : b 9 = true) (h10 : b 10 = true) (h11 : b 11 = true) (h12 : b 12 = true) : Ob w W (bs ++ [(g9, 27, qn, vq)] ++ [(g10, 27, rn, vr)]) (rs ++ [(vq, ql)] ++ [(vr, rl)]) := by
  have k := hO.keep h.below h.kd
  obtain ⟨hg9, hx9⟩ := h.x9 h9
  obtain ⟨hg10, hx10⟩ := h.x10 h10
  rw [if_pos h11] at hx9
  rw [if_pos h12] at hx10
  obtain ⟨hq, hr, hqr⟩ := h.r4 h4
  have hw := hO.below.size
  have geq : ∀ k, some k = vq.ownBlock → Wd.heap.size ≤ k := fun k hk => Kd.RW_base hq k hk.symm
  have ger : ∀ k, some k = vr.ownBlock → Wd.heap.size ≤ k := fun k hk => Kd.RW_base hr k hk.symm
  refine ⟨k.below, fun i x hi => ?_, fun i j x y hi hj hne => ?_, fun i r hi => ?_, fun i j r s hi hj hne q hq1 => ?_⟩
  · rcases snoc_get hi with ⟨_, h1⟩ | ⟨_, h1⟩
    · rcases snoc_get h1 with ⟨_, h2⟩ | ⟨_, h2⟩
      · exact k.box i x h2
      · subst h2; exact ⟨⟨Nat.le_trans hw hg9, (show (27 : Nat) ≠ 3 by decide)⟩, hx9⟩
    · subst h1; exact ⟨⟨Nat.le_trans hw hg10, (show (27 : Nat) ≠ 3 by decide)⟩, hx10⟩
  · have old : ∀ (i : Nat) (x : Bx), bs[i]? = some x → x.1 < Wd.heap.size := fun i x hi => hO.lt hi
    have hn := h.ne h9 h10
    have cl : ∀ (i : Nat) (x : Bx), (bs ++ [(g9, 27, qn, vq)] ++ [(g10, 27, rn, vr)])[i]? = some x → (i < bs.length ∧ bs[i]? = some x) ∨ (i = bs.length ∧ x.1 = g9) ∨ (i = bs.length + 1 ∧ x.1 = g10) := fun i x hi => by
      rcases snoc_get hi with ⟨_, h1⟩ | ⟨e1, h1⟩
      · rcases snoc_get h1 with ⟨e2, h2⟩ | ⟨e2, h2⟩
        · exact .inl ⟨e2, h2⟩
        · exact .inr (.inl ⟨e2, by rw [h2]⟩)
      · exact .inr (.inr ⟨by simpa using e1, by rw [h1]⟩)
    rcases cl i x hi with ⟨_, h1⟩ | ⟨e1, h1⟩ | ⟨e1, h1⟩ <;> rcases cl j y hj with ⟨_, h2⟩ | ⟨e2, h2⟩ | ⟨e2, h2⟩
    · exact k.bne i j x y h1 h2 hne
    · have := old i x h1; omega
    · have := old i x h1; omega
    · have := old j y h2; omega
    · omega
    · omega
    · have := old j y h2; omega
    · omega
    · omega
  · rcases snoc_get hi with ⟨_, h1⟩ | ⟨_, h1⟩
    · rcases snoc_get h1 with ⟨_, h2⟩ | ⟨_, h2⟩
      · exact k.row i r h2
      · subst h2; exact Rt.of hq hw
    · subst h1; exact Rt.of hr hw
  · have old : ∀ (i : Nat) (r : Rw), rs[i]? = some r → ∀ q, some q = r.1.ownBlock → q < Wd.heap.size := fun i r hi q hq => (hO.row i r hi).lt hq
    have cl : ∀ (i : Nat) (r : Rw), (rs ++ [(vq, ql)] ++ [(vr, rl)])[i]? = some r → (i < rs.length ∧ rs[i]? = some r) ∨ (i = rs.length ∧ r.1 = vq) ∨ (i = rs.length + 1 ∧ r.1 = vr) := fun i r hi => by
      rcases snoc_get hi with ⟨_, h1⟩ | ⟨e1, h1⟩
      · rcases snoc_get h1 with ⟨e2, h2⟩ | ⟨e2, h2⟩
        · exact .inl ⟨e2, h2⟩
        · exact .inr (.inl ⟨e2, by rw [h2]⟩)
      · exact .inr (.inr ⟨by simpa using e1, by rw [h1]⟩)
    intro e
    rcases cl i r hi with ⟨_, h1⟩ | ⟨e1, h1⟩ | ⟨e1, h1⟩ <;> rcases cl j s hj with ⟨_, h2⟩ | ⟨e2, h2⟩ | ⟨e2, h2⟩
    · exact k.rne i j r s h1 h2 hne q hq1 e
    · rw [h2] at e; have := old i r h1 q hq1; have := geq q e; omega
    · rw [h2] at e; have := old i r h1 q hq1; have := ger q e; omega
    · rw [h1] at hq1; have := old j s h2 q e; have := geq q hq1; omega
    · omega
    · rw [h1] at hq1; rw [h2] at e; exact hqr q hq1 e
    · rw [h1] at hq1; have := old j s h2 q e; have := ger q hq1; omega
    · rw [h1] at hq1; rw [h2] at e; exact hqr q e hq1
    · omega
theorem putSel_free {b : Nat → Bool} {i : Nat} {t : Tmp} {v0 v : Value} (hb : b i = false) : ∀ {L : List (Nat × Tmp × Value)} {a : Act} (k : Nat), L[k]? = some (i, t, v0) → putSel a b L = putSel a b (L.set k (i, t, v))
  | [], _, _, h => by cases h
  | e :: r, a, 0, h => by
    simp only [List.getElem?_cons_zero, Option.some.injEq] at h
    subst h
    show putSel _ b r = putSel _ b r
    rw [if_neg (by simp [hb]), if_neg (by simp [hb])]
  | e :: r, a, k + 1, h => by
    show putSel _ b r = putSel _ b (r.set k (i, t, v))
    exact putSel_free hb k (by simpa using h)
end
end Go.Proofs.Ytdemeoncjcbojaa.Ob
end
section
namespace Go.Proofs.Ytdemeoncjcbojaa.Pr
open Go.RowKit Go.Proofs.YtdemeoncjcbojaaW.PrintWords Go.Proofs.YtdemeoncjcbojaaW.PrintLast Go.Proofs.Ytdemeoncjcbojaa.Ext Go.Proofs.YtdemeoncjcbojaaW.PrintMore
attribute [local go_sem] max2_int min2_int max_two min_two max_three min_three max_four min_four
set_option linter.unusedVariables false
set_option linter.unusedSimpArgs false
def impl_BigOk.f (a0_0 : Bool) (l0_1 : List Int) : Option (Bool) := if (l0_1.length : Int) ≤ 16 then (if (l0_1.length : Int) = 0 then (if a0_0 = true then (if (l0_1.length : Int) > 0 then (if 0 ≤ (wrap64 ((l0_1.length : Int) - 1)) then (if (wrap64 ((l0_1.length : Int) - 1)) < (l0_1.length : Int) then (if (rd l0_1 (wrap64 ((l0_1.length : Int) - 1))) = 0 then (some false) else ((containsBad.f l0_1).bind fun t122 => (some (!t122)))) else (none)) else (none)) else (some false)) else ((containsBad.f l0_1).bind fun t123 => (some (!t123)))) else (if (l0_1.length : Int) > 0 then (if 0 ≤ (wrap64 ((l0_1.length : Int) - 1)) then (if (wrap64 ((l0_1.length : Int) - 1)) < (l0_1.length : Int) then (if (rd l0_1 (wrap64 ((l0_1.length : Int) - 1))) = 0 then (some false) else ((containsBad.f l0_1).bind fun t125 => (some (!t125)))) else (none)) else (none)) else (some false))) else (some false)
set_option maxHeartbeats 8000000 in
set_option maxRecDepth 100000 in
theorem impl_BigOk.calls (a0_0 : Bool) (A0_1 : Option Addr) (c0_1 : Nat) (l0_1 : List Int) (r : Bool) (w : World) (hr0_1 : Kd.C (Kd.int .i64) w A0_1 l0_1.length l0_1) (hc0_1 : l0_1.length ≤ c0_1) (h : impl_BigOk.f a0_0 l0_1 = some r) :
    Calls Try.prog 22 #[.agg #[.bool a0_0, .slice A0_1 l0_1.length c0_1]] w fun e w' => e = .returned (.bool r) ∧ Below w.heap.size w w' := by
  have hu27 := Try.underlying27
  have HR0_1 := Aside0.mk hr0_1
  have HC0_1 := Aside0.mk hc0_1
  clear hr0_1 hc0_1
  have HB := Aside0.mk (Below.refl w.heap.size w)
  have H : (if (l0_1.length : Int) ≤ 16 then (if (l0_1.length : Int) = 0 then (if a0_0 = true then (if (l0_1.length : Int) > 0 then (if 0 ≤ (wrap64 ((l0_1.length : Int) - 1)) then (if (wrap64 ((l0_1.length : Int) - 1)) < (l0_1.length : Int) then (if (rd l0_1 (wrap64 ((l0_1.length : Int) - 1))) = 0 then (some false) else ((containsBad.f l0_1).bind fun t122 => (some (!t122)))) else (none)) else (none)) else (some false)) else ((containsBad.f l0_1).bind fun t123 => (some (!t123)))) else (if (l0_1.length : Int) > 0 then (if 0 ≤ (wrap64 ((l0_1.length : Int) - 1)) then (if (wrap64 ((l0_1.length : Int) - 1)) < (l0_1.length : Int) then (if (rd l0_1 (wrap64 ((l0_1.length : Int) - 1))) = 0 then (some false) else ((containsBad.f l0_1).bind fun t125 => (some (!t125)))) else (none)) else (none)) else (some false))) else (some false)) = some r := h
  clear h
  by_cases c2 : (l0_1.length : Int) ≤ 16
  · rw [if_pos c2] at H
    have c2b0 : decide ((l0_1.length : Int) ≤ 16) = true := decide_eq_true c2
    have c2b1 : decide (l0_1.length ≤ 16) = true := decide_eq_true (by omega)
    clear c2
    by_cases c3 : (l0_1.length : Int) = 0
    · rw [if_pos c3] at H
      have c3b0 : ((l0_1.length : Int) == 0) = true := beq_iff_eq.mpr c3
      have c3b1 : ((l0_1.length : Int) != 0) = false := bne_eq_false_iff_eq.mpr c3
      clear c3
      by_cases c4 : a0_0 = true
      · subst c4
        have H1 : (if (l0_1.length : Int) > 0 then (if 0 ≤ (wrap64 ((l0_1.length : Int) - 1)) then (if (wrap64 ((l0_1.length : Int) - 1)) < (l0_1.length : Int) then (if (rd l0_1 (wrap64 ((l0_1.length : Int) - 1))) = 0 then (some false) else ((containsBad.f l0_1).bind fun t122 => (some (!t122)))) else (none)) else (none)) else (some false)) = some r := by rw [if_pos rfl] at H; exact H
        clear H
        have H := H1
        clear H1
        by_cases c5 : (l0_1.length : Int) > 0
        · rw [if_pos c5] at H
          have c5b0 : decide (0 < (l0_1.length : Int)) = true := decide_eq_true c5
          have c5b1 : decide (0 < l0_1.length) = true := decide_eq_true (by omega)
          clear c5
          obtain ⟨ji6, hji6⟩ : ∃ j_ : Int, (wrap64 ((l0_1.length : Int) - 1)) = j_ := ⟨_, rfl⟩
          replace H : (if 0 ≤ (ji6) then (if (ji6) < (l0_1.length : Int) then (if (rd l0_1 (ji6)) = 0 then (some false) else ((containsBad.f l0_1).bind fun t122 => (some (!t122)))) else (none)) else (none)) = some r := by first | (rw [hji6] at H; exact H) | (simp only [hji6] at H ⊢; exact H)
          have hji6w : (IntKind.i64.wrap ((l0_1.length : Int) - 1)) = ji6 := (i64_w _).trans hji6
          by_cases c7 : 0 ≤ (ji6)
          · rw [if_pos c7] at H
            have c7b0 : decide (0 ≤ (ji6)) = true := decide_eq_true c7
            clear c7
            by_cases c8 : (ji6) < (l0_1.length : Int)
            · rw [if_pos c8] at H
              have c8b0 : decide ((ji6) < (l0_1.length : Int)) = true := decide_eq_true c8
              clear c8
              by_cases c9 : (rd l0_1 (ji6)) = 0
              · rw [if_pos c9] at H
                have c9b0 : ((rd l0_1 (ji6)) == 0) = true := beq_iff_eq.mpr c9
                have c9b1 : ((rd l0_1 (ji6)) != 0) = false := bne_eq_false_iff_eq.mpr c9
                clear c9
                obtain rfl := Option.some.inj H
                go_enter Try.func22, Try.ntmps22
                go_wp2_with (first | ((with_reducible refine gate_dst (N := 1) rfl ?_); refine box_event ?hg (N := 1) ?hd (cs := #[.bool true, .slice A0_1 l0_1.length c0_1]) (t := 27) ?hr ?_; (case hd => rfl); (case hg => rfl); (case hr => first | (go_simp; done) | (go_simp; rfl)); intro gb120 hg w10 hbox hb; have n0_ := Aside0.mk (below_step zb hb); have n1_ := Aside0.mk (hbox); have n2_ := Aside0.mk ((by rw [hg]; exact (below_size zb) : w.heap.size ≤ gb120)); have n3_ := Aside0.mk ((by rw [hg]; exact (below_size zb) : w.heap.size ≤ gb120)); clear HB; have HB := n0_; have BK120 := n1_; have GW120 := n2_; have GE120 := n3_; clear n0_ n1_ n2_ n3_; clear hb hbox hg; have hcz11_0 : w10.cell? ⟨gb120, 0, none⟩ = some (.bool true) := (blk_cell BK120.out 0).trans rfl; have hcz11_1 : w10.cell? ⟨gb120, 1, none⟩ = some (.slice A0_1 l0_1.length c0_1) := (blk_cell BK120.out 1).trans rfl; have hfz11_0 := blk_frozen BK120.out 0; have hfz11_1 := blk_frozen BK120.out 1; have p121 : 0 ≤ ((ji6) : Int) := of_decide_eq_true (by first | (with_reducible assumption) | assumption); have q121 : (ji6) < (l0_1.length : Int) := of_decide_eq_true (by first | (with_reducible assumption) | assumption); obtain ⟨ad121, e121, hx121_0⟩ := Kd.at_int HR0_1.out (ji6) p121 q121; cases e121; replace hx121_0 := (HB.out.cell (World.block_lt_of_cell? w _ hx121_0)).trans hx121_0; replace p121 := eq_true p121; replace q121 := eq_true q121))
                go_ret
                exact ⟨by first | rfl | (simp [errW_none, errW_some] <;> rfl) | (simp only [← hji6]; first | rfl | (simp [errW_none, errW_some] <;> rfl)) | (simp [*, errW_none, errW_some] <;> rfl), zb⟩
              · rw [if_neg c9] at H
                have c9b0 : ((rd l0_1 (ji6)) == 0) = false := beq_eq_false_iff_ne.mpr c9
                have c9b1 : ((rd l0_1 (ji6)) != 0) = true := bne_iff_ne.mpr c9
                replace H := Option.bind_eq_some_iff.mp H
                obtain ⟨t122, A120, H⟩ := H
                replace H : (some (!t122)) = some r := H
                have A12 := Aside0.mk A120
                clear A120
                obtain rfl := Option.some.inj H
                go_enter Try.func22, Try.ntmps22
                go_wp2_with (first | ((with_reducible refine gate_dst (N := 1) rfl ?_); refine box_event ?hg (N := 1) ?hd (cs := #[.bool true, .slice A0_1 l0_1.length c0_1]) (t := 27) ?hr ?_; (case hd => rfl); (case hg => rfl); (case hr => first | (go_simp; done) | (go_simp; rfl)); intro gb120 hg w13 hbox hb; have n0_ := Aside0.mk (below_step zb hb); have n1_ := Aside0.mk (hbox); have n2_ := Aside0.mk ((by rw [hg]; exact (below_size zb) : w.heap.size ≤ gb120)); have n3_ := Aside0.mk ((by rw [hg]; exact (below_size zb) : w.heap.size ≤ gb120)); clear HB; have HB := n0_; have BK120 := n1_; have GW120 := n2_; have GE120 := n3_; clear n0_ n1_ n2_ n3_; clear hb hbox hg; have hcz14_0 : w13.cell? ⟨gb120, 0, none⟩ = some (.bool true) := (blk_cell BK120.out 0).trans rfl; have hcz14_1 : w13.cell? ⟨gb120, 1, none⟩ = some (.slice A0_1 l0_1.length c0_1) := (blk_cell BK120.out 1).trans rfl; have hfz14_0 := blk_frozen BK120.out 0; have hfz14_1 := blk_frozen BK120.out 1; have p121 : 0 ≤ ((ji6) : Int) := of_decide_eq_true (by first | (with_reducible assumption) | assumption); have q121 : (ji6) < (l0_1.length : Int) := of_decide_eq_true (by first | (with_reducible assumption) | assumption); obtain ⟨ad121, e121, hx121_0⟩ := Kd.at_int HR0_1.out (ji6) p121 q121; cases e121; replace hx121_0 := (HB.out.cell (World.block_lt_of_cell? w _ hx121_0)).trans hx121_0; replace p121 := eq_true p121; replace q121 := eq_true q121) | (go_at_call 51; (with_reducible refine (containsBad.calls _ _ l0_1 t122 _ ?side1 ?side2 A12.out).mono ?_); (case side1 => repeat (first | exact (Kd.C_below HR0_1.out HB.out) | (with_reducible refine Kd.C_alloc ?_ _) | (with_reducible refine Kd.C_drewN ?_ _) | (with_reducible refine Kd.C_drew ?_))); (case side2 => exact HC0_1.out); rintro e w' ⟨rfl, ⟨nd, rfl⟩⟩))
                go_ret
                exact ⟨by first | rfl | (simp [errW_none, errW_some] <;> rfl) | (simp only [← hji6]; first | rfl | (simp [errW_none, errW_some] <;> rfl)) | (simp [*, errW_none, errW_some] <;> rfl), zb⟩
            · rw [if_neg c8] at H
              exact absurd H (by simp)
          · rw [if_neg c7] at H
            exact absurd H (by simp)
        · rw [if_neg c5] at H
          have c5b0 : decide (0 < (l0_1.length : Int)) = false := decide_eq_false c5
          have c5b1 : decide (0 < l0_1.length) = false := decide_eq_false (by omega)
          clear c5
          obtain rfl := Option.some.inj H
          go_enter Try.func22, Try.ntmps22
          go_wp2_with (first | ((with_reducible refine gate_dst (N := 1) rfl ?_); refine box_event ?hg (N := 1) ?hd (cs := #[.bool true, .slice A0_1 l0_1.length c0_1]) (t := 27) ?hr ?_; (case hd => rfl); (case hg => rfl); (case hr => first | (go_simp; done) | (go_simp; rfl)); intro gb120 hg w15 hbox hb; have n0_ := Aside0.mk (below_step zb hb); have n1_ := Aside0.mk (hbox); have n2_ := Aside0.mk ((by rw [hg]; exact (below_size zb) : w.heap.size ≤ gb120)); have n3_ := Aside0.mk ((by rw [hg]; exact (below_size zb) : w.heap.size ≤ gb120)); clear HB; have HB := n0_; have BK120 := n1_; have GW120 := n2_; have GE120 := n3_; clear n0_ n1_ n2_ n3_; clear hb hbox hg; have hcz16_0 : w15.cell? ⟨gb120, 0, none⟩ = some (.bool true) := (blk_cell BK120.out 0).trans rfl; have hcz16_1 : w15.cell? ⟨gb120, 1, none⟩ = some (.slice A0_1 l0_1.length c0_1) := (blk_cell BK120.out 1).trans rfl; have hfz16_0 := blk_frozen BK120.out 0; have hfz16_1 := blk_frozen BK120.out 1))
          go_ret
          exact ⟨by first | rfl | (simp [errW_none, errW_some] <;> rfl) | (simp [*, errW_none, errW_some] <;> rfl), zb⟩
      · replace c4 := Bool.eq_false_iff.mpr c4
        subst c4
        have H1 : ((containsBad.f l0_1).bind fun t123 => (some (!t123))) = some r := by rw [if_neg (show ¬ (false = true) by decide)] at H; exact H
        clear H
        have H := H1
        clear H1
        replace H := Option.bind_eq_some_iff.mp H
        obtain ⟨t123, A170, H⟩ := H
        replace H : (some (!t123)) = some r := H
        have A17 := Aside0.mk A170
        clear A170
        obtain rfl := Option.some.inj H
        go_enter Try.func22, Try.ntmps22
        go_wp2_with (first | ((with_reducible refine gate_dst (N := 1) rfl ?_); refine box_event ?hg (N := 1) ?hd (cs := #[.bool false, .slice A0_1 l0_1.length c0_1]) (t := 27) ?hr ?_; (case hd => rfl); (case hg => rfl); (case hr => first | (go_simp; done) | (go_simp; rfl)); intro gb120 hg w18 hbox hb; have n0_ := Aside0.mk (below_step zb hb); have n1_ := Aside0.mk (hbox); have n2_ := Aside0.mk ((by rw [hg]; exact (below_size zb) : w.heap.size ≤ gb120)); have n3_ := Aside0.mk ((by rw [hg]; exact (below_size zb) : w.heap.size ≤ gb120)); clear HB; have HB := n0_; have BK120 := n1_; have GW120 := n2_; have GE120 := n3_; clear n0_ n1_ n2_ n3_; clear hb hbox hg; have hcz19_0 : w18.cell? ⟨gb120, 0, none⟩ = some (.bool false) := (blk_cell BK120.out 0).trans rfl; have hcz19_1 : w18.cell? ⟨gb120, 1, none⟩ = some (.slice A0_1 l0_1.length c0_1) := (blk_cell BK120.out 1).trans rfl; have hfz19_0 := blk_frozen BK120.out 0; have hfz19_1 := blk_frozen BK120.out 1) | (go_at_call 51; (with_reducible refine (containsBad.calls _ _ l0_1 t123 _ ?side1 ?side2 A17.out).mono ?_); (case side1 => repeat (first | exact (Kd.C_below HR0_1.out HB.out) | (with_reducible refine Kd.C_alloc ?_ _) | (with_reducible refine Kd.C_drewN ?_ _) | (with_reducible refine Kd.C_drew ?_))); (case side2 => exact HC0_1.out); rintro e w' ⟨rfl, ⟨nd, rfl⟩⟩))
        go_ret
        exact ⟨by first | rfl | (simp [errW_none, errW_some] <;> rfl) | (simp [*, errW_none, errW_some] <;> rfl), zb⟩
    · rw [if_neg c3] at H
      have c3b0 : ((l0_1.length : Int) == 0) = false := beq_eq_false_iff_ne.mpr c3
      have c3b1 : ((l0_1.length : Int) != 0) = true := bne_iff_ne.mpr c3
      have c3b2 : ¬ (l0_1 = []) := fun h_ => c3 (by rw [h_]; rfl)
      by_cases c20 : (l0_1.length : Int) > 0
      · rw [if_pos c20] at H
        have c20b0 : decide (0 < (l0_1.length : Int)) = true := decide_eq_true c20
        have c20b1 : decide (0 < l0_1.length) = true := decide_eq_true (by omega)
        clear c20
        obtain ⟨ji21, hji21⟩ : ∃ j_ : Int, (wrap64 ((l0_1.length : Int) - 1)) = j_ := ⟨_, rfl⟩
        replace H : (if 0 ≤ (ji21) then (if (ji21) < (l0_1.length : Int) then (if (rd l0_1 (ji21)) = 0 then (some false) else ((containsBad.f l0_1).bind fun t125 => (some (!t125)))) else (none)) else (none)) = some r := by first | (rw [hji21] at H; exact H) | (simp only [hji21] at H ⊢; exact H)
        have hji21w : (IntKind.i64.wrap ((l0_1.length : Int) - 1)) = ji21 := (i64_w _).trans hji21
        by_cases c22 : 0 ≤ (ji21)
        · rw [if_pos c22] at H
          have c22b0 : decide (0 ≤ (ji21)) = true := decide_eq_true c22
          clear c22
          by_cases c23 : (ji21) < (l0_1.length : Int)
          · rw [if_pos c23] at H
            have c23b0 : decide ((ji21) < (l0_1.length : Int)) = true := decide_eq_true c23
            clear c23
            by_cases c24 : (rd l0_1 (ji21)) = 0
            · rw [if_pos c24] at H
              have c24b0 : ((rd l0_1 (ji21)) == 0) = true := beq_iff_eq.mpr c24
              have c24b1 : ((rd l0_1 (ji21)) != 0) = false := bne_eq_false_iff_eq.mpr c24
              clear c24
              obtain rfl := Option.some.inj H
              go_enter Try.func22, Try.ntmps22
              go_wp2_with (first | ((with_reducible refine gate_dst (N := 1) rfl ?_); refine box_event ?hg (N := 1) ?hd (cs := #[.bool a0_0, .slice A0_1 l0_1.length c0_1]) (t := 27) ?hr ?_; (case hd => rfl); (case hg => rfl); (case hr => first | (go_simp; done) | (go_simp; rfl)); intro gb120 hg w25 hbox hb; have n0_ := Aside0.mk (below_step zb hb); have n1_ := Aside0.mk (hbox); have n2_ := Aside0.mk ((by rw [hg]; exact (below_size zb) : w.heap.size ≤ gb120)); have n3_ := Aside0.mk ((by rw [hg]; exact (below_size zb) : w.heap.size ≤ gb120)); clear HB; have HB := n0_; have BK120 := n1_; have GW120 := n2_; have GE120 := n3_; clear n0_ n1_ n2_ n3_; clear hb hbox hg; have hcz26_0 : w25.cell? ⟨gb120, 0, none⟩ = some (.bool a0_0) := (blk_cell BK120.out 0).trans rfl; have hcz26_1 : w25.cell? ⟨gb120, 1, none⟩ = some (.slice A0_1 l0_1.length c0_1) := (blk_cell BK120.out 1).trans rfl; have hfz26_0 := blk_frozen BK120.out 0; have hfz26_1 := blk_frozen BK120.out 1; have p124 : 0 ≤ ((ji21) : Int) := of_decide_eq_true (by first | (with_reducible assumption) | assumption); have q124 : (ji21) < (l0_1.length : Int) := of_decide_eq_true (by first | (with_reducible assumption) | assumption); obtain ⟨ad124, e124, hx124_0⟩ := Kd.at_int HR0_1.out (ji21) p124 q124; cases e124; replace hx124_0 := (HB.out.cell (World.block_lt_of_cell? w _ hx124_0)).trans hx124_0; replace p124 := eq_true p124; replace q124 := eq_true q124))
              go_ret
              exact ⟨by first | rfl | (simp [errW_none, errW_some] <;> rfl) | (simp only [← hji21]; first | rfl | (simp [errW_none, errW_some] <;> rfl)) | (simp [*, errW_none, errW_some] <;> rfl), zb⟩
            · rw [if_neg c24] at H
              have c24b0 : ((rd l0_1 (ji21)) == 0) = false := beq_eq_false_iff_ne.mpr c24
              have c24b1 : ((rd l0_1 (ji21)) != 0) = true := bne_iff_ne.mpr c24
              replace H := Option.bind_eq_some_iff.mp H
              obtain ⟨t125, A270, H⟩ := H
              replace H : (some (!t125)) = some r := H
              have A27 := Aside0.mk A270
              clear A270
              obtain rfl := Option.some.inj H
              go_enter Try.func22, Try.ntmps22
              go_wp2_with (first | ((with_reducible refine gate_dst (N := 1) rfl ?_); refine box_event ?hg (N := 1) ?hd (cs := #[.bool a0_0, .slice A0_1 l0_1.length c0_1]) (t := 27) ?hr ?_; (case hd => rfl); (case hg => rfl); (case hr => first | (go_simp; done) | (go_simp; rfl)); intro gb120 hg w28 hbox hb; have n0_ := Aside0.mk (below_step zb hb); have n1_ := Aside0.mk (hbox); have n2_ := Aside0.mk ((by rw [hg]; exact (below_size zb) : w.heap.size ≤ gb120)); have n3_ := Aside0.mk ((by rw [hg]; exact (below_size zb) : w.heap.size ≤ gb120)); clear HB; have HB := n0_; have BK120 := n1_; have GW120 := n2_; have GE120 := n3_; clear n0_ n1_ n2_ n3_; clear hb hbox hg; have hcz29_0 : w28.cell? ⟨gb120, 0, none⟩ = some (.bool a0_0) := (blk_cell BK120.out 0).trans rfl; have hcz29_1 : w28.cell? ⟨gb120, 1, none⟩ = some (.slice A0_1 l0_1.length c0_1) := (blk_cell BK120.out 1).trans rfl; have hfz29_0 := blk_frozen BK120.out 0; have hfz29_1 := blk_frozen BK120.out 1; have p124 : 0 ≤ ((ji21) : Int) := of_decide_eq_true (by first | (with_reducible assumption) | assumption); have q124 : (ji21) < (l0_1.length : Int) := of_decide_eq_true (by first | (with_reducible assumption) | assumption); obtain ⟨ad124, e124, hx124_0⟩ := Kd.at_int HR0_1.out (ji21) p124 q124; cases e124; replace hx124_0 := (HB.out.cell (World.block_lt_of_cell? w _ hx124_0)).trans hx124_0; replace p124 := eq_true p124; replace q124 := eq_true q124) | (go_at_call 51; (with_reducible refine (containsBad.calls _ _ l0_1 t125 _ ?side1 ?side2 A27.out).mono ?_); (case side1 => repeat (first | exact (Kd.C_below HR0_1.out HB.out) | (with_reducible refine Kd.C_alloc ?_ _) | (with_reducible refine Kd.C_drewN ?_ _) | (with_reducible refine Kd.C_drew ?_))); (case side2 => exact HC0_1.out); rintro e w' ⟨rfl, ⟨nd, rfl⟩⟩))
              go_ret
              exact ⟨by first | rfl | (simp [errW_none, errW_some] <;> rfl) | (simp only [← hji21]; first | rfl | (simp [errW_none, errW_some] <;> rfl)) | (simp [*, errW_none, errW_some] <;> rfl), zb⟩
          · rw [if_neg c23] at H
            exact absurd H (by simp)
        · rw [if_neg c22] at H
          exact absurd H (by simp)
      · rw [if_neg c20] at H
        have c20b0 : decide (0 < (l0_1.length : Int)) = false := decide_eq_false c20
        have c20b1 : decide (0 < l0_1.length) = false := decide_eq_false (by omega)
        clear c20
        obtain rfl := Option.some.inj H
        go_enter Try.func22, Try.ntmps22
        go_wp2_with (first | ((with_reducible refine gate_dst (N := 1) rfl ?_); refine box_event ?hg (N := 1) ?hd (cs := #[.bool a0_0, .slice A0_1 l0_1.length c0_1]) (t := 27) ?hr ?_; (case hd => rfl); (case hg => rfl); (case hr => first | (go_simp; done) | (go_simp; rfl)); intro gb120 hg w30 hbox hb; have n0_ := Aside0.mk (below_step zb hb); have n1_ := Aside0.mk (hbox); have n2_ := Aside0.mk ((by rw [hg]; exact (below_size zb) : w.heap.size ≤ gb120)); have n3_ := Aside0.mk ((by rw [hg]; exact (below_size zb) : w.heap.size ≤ gb120)); clear HB; have HB := n0_; have BK120 := n1_; have GW120 := n2_; have GE120 := n3_; clear n0_ n1_ n2_ n3_; clear hb hbox hg; have hcz31_0 : w30.cell? ⟨gb120, 0, none⟩ = some (.bool a0_0) := (blk_cell BK120.out 0).trans rfl; have hcz31_1 : w30.cell? ⟨gb120, 1, none⟩ = some (.slice A0_1 l0_1.length c0_1) := (blk_cell BK120.out 1).trans rfl; have hfz31_0 := blk_frozen BK120.out 0; have hfz31_1 := blk_frozen BK120.out 1))
        go_ret
        exact ⟨by first | rfl | (simp [errW_none, errW_some] <;> rfl) | (simp [*, errW_none, errW_some] <;> rfl), zb⟩
  · rw [if_neg c2] at H
    have c2b0 : decide ((l0_1.length : Int) ≤ 16) = false := decide_eq_false c2
    have c2b1 : decide (l0_1.length ≤ 16) = false := decide_eq_false (by omega)
    clear c2
    obtain rfl := Option.some.inj H
    go_enter Try.func22, Try.ntmps22
    go_wp2_with (first | ((with_reducible refine gate_dst (N := 1) rfl ?_); refine box_event ?hg (N := 1) ?hd (cs := #[.bool a0_0, .slice A0_1 l0_1.length c0_1]) (t := 27) ?hr ?_; (case hd => rfl); (case hg => rfl); (case hr => first | (go_simp; done) | (go_simp; rfl)); intro gb120 hg w32 hbox hb; have n0_ := Aside0.mk (below_step zb hb); have n1_ := Aside0.mk (hbox); have n2_ := Aside0.mk ((by rw [hg]; exact (below_size zb) : w.heap.size ≤ gb120)); have n3_ := Aside0.mk ((by rw [hg]; exact (below_size zb) : w.heap.size ≤ gb120)); clear HB; have HB := n0_; have BK120 := n1_; have GW120 := n2_; have GE120 := n3_; clear n0_ n1_ n2_ n3_; clear hb hbox hg; have hcz33_0 : w32.cell? ⟨gb120, 0, none⟩ = some (.bool a0_0) := (blk_cell BK120.out 0).trans rfl; have hcz33_1 : w32.cell? ⟨gb120, 1, none⟩ = some (.slice A0_1 l0_1.length c0_1) := (blk_cell BK120.out 1).trans rfl; have hfz33_0 := blk_frozen BK120.out 0; have hfz33_1 := blk_frozen BK120.out 1))
    go_ret
    exact ⟨by first | rfl | (simp [errW_none, errW_some] <;> rfl) | (simp [*, errW_none, errW_some] <;> rfl), zb⟩
def impl_in.f (a0 : Int) (a1 : Int) (a2 : Int) : Option (Bool) := if a0 ≥ a1 then (some (decide (a0 ≤ a2))) else (some false)
def impl_bigs.f (a0_0 : Bool) (l0_1 : List Int) (a1_0 : Bool) (l1_1 : List Int) : Option (Bool) := (impl_BigOk.f a0_0 l0_1).bind fun t331 => (if t331 = true then ((impl_BigOk.f a1_0 l1_1).bind fun t332 => (some t332)) else (some false))
set_option maxHeartbeats 8000000 in
set_option maxRecDepth 100000 in
theorem impl_bigs.calls (a0_0 : Bool) (A0_1 : Option Addr) (c0_1 : Nat) (l0_1 : List Int) (a1_0 : Bool) (A1_1 : Option Addr) (c1_1 : Nat) (l1_1 : List Int) (r : Bool) (w : World) (hr0_1 : Kd.C (Kd.int .i64) w A0_1 l0_1.length l0_1) (hc0_1 : l0_1.length ≤ c0_1) (hr1_1 : Kd.C (Kd.int .i64) w A1_1 l1_1.length l1_1) (hc1_1 : l1_1.length ≤ c1_1) (h : impl_bigs.f a0_0 l0_1 a1_0 l1_1 = some r) :
    Calls Try.prog 67 #[.agg #[.bool a0_0, .slice A0_1 l0_1.length c0_1], .agg #[.bool a1_0, .slice A1_1 l1_1.length c1_1]] w fun e w' => e = .returned (.bool r) ∧ Below w.heap.size w w' := by
  have hu27 := Try.underlying27
  have HR0_1 := Aside0.mk hr0_1
  have HC0_1 := Aside0.mk hc0_1
  clear hr0_1 hc0_1
  have HR1_1 := Aside0.mk hr1_1
  have HC1_1 := Aside0.mk hc1_1
  clear hr1_1 hc1_1
  have HB := Aside0.mk (Below.refl w.heap.size w)
  have H : ((impl_BigOk.f a0_0 l0_1).bind fun t331 => (if t331 = true then ((impl_BigOk.f a1_0 l1_1).bind fun t332 => (some t332)) else (some false))) = some r := h
  clear h
  replace H := Option.bind_eq_some_iff.mp H
  obtain ⟨t331, A30, H⟩ := H
  replace H : (if t331 = true then ((impl_BigOk.f a1_0 l1_1).bind fun t332 => (some t332)) else (some false)) = some r := H
  have A3 := Aside0.mk A30
  clear A30
  by_cases c4 : t331 = true
  · subst c4
    have H1 : ((impl_BigOk.f a1_0 l1_1).bind fun t332 => (some t332)) = some r := by rw [if_pos rfl] at H; exact H
    clear H
    have H := H1
    clear H1
    replace H := Option.bind_eq_some_iff.mp H
    obtain ⟨t332, A50, H⟩ := H
    replace H : (some t332) = some r := H
    have A5 := Aside0.mk A50
    clear A50
    obtain rfl := Option.some.inj H
    go_enter Try.func67, Try.ntmps67
    go_wp2_with (first | ((with_reducible refine gate_dst (N := 2) rfl ?_); refine box_event ?hg (N := 2) ?hd (cs := #[.bool a0_0, .slice A0_1 l0_1.length c0_1]) (t := 27) ?hr ?_; (case hd => rfl); (case hg => rfl); (case hr => first | (go_simp; done) | (go_simp; rfl)); intro gb329 hg w6 hbox hb; have n0_ := Aside0.mk (below_step zb hb); have n1_ := Aside0.mk (hbox); have n2_ := Aside0.mk ((by rw [hg]; exact (below_size zb) : w.heap.size ≤ gb329)); have n3_ := Aside0.mk ((by rw [hg]; exact (below_size zb) : w.heap.size ≤ gb329)); clear HB; have HB := n0_; have BK329 := n1_; have GW329 := n2_; have GE329 := n3_; clear n0_ n1_ n2_ n3_; clear hb hbox hg) | ((with_reducible refine gate_dst (N := 3) rfl ?_); refine box_event ?hg (N := 3) ?hd (cs := #[.bool a1_0, .slice A1_1 l1_1.length c1_1]) (t := 27) ?hr ?_; (case hd => rfl); (case hg => rfl); (case hr => first | (go_simp; done) | (go_simp; rfl)); intro gb330 hg w7 hbox hb; have n0_ := Aside0.mk (blk_below (g := gb329) (o := .cells #[.bool a0_0, .slice A0_1 l0_1.length c0_1] 27 (0, 0)) (zk BK329.out) hb); have n1_ := Aside0.mk (below_step zb hb); have n2_ := Aside0.mk (hbox); have n3_ := Aside0.mk ((by rw [hg]; exact (below_size zb) : w.heap.size ≤ gb330)); have n4_ := Aside0.mk ((by rw [hg]; exact (below_size zb) : w.heap.size ≤ gb330)); have n5_ := Aside0.mk ((by rw [hg]; exact Nat.ne_of_lt (blk_lt (g := gb329) (o := .cells #[.bool a0_0, .slice A0_1 l0_1.length c0_1] 27 (0, 0)) (zk BK329.out)) : gb329 ≠ gb330)); have n6_ := Aside0.mk ((by rw [hg]; exact Nat.ne_of_gt (blk_lt (g := gb329) (o := .cells #[.bool a0_0, .slice A0_1 l0_1.length c0_1] 27 (0, 0)) (zk BK329.out)) : gb330 ≠ gb329)); clear BK329; clear HB; have BK329 := n0_; have HB := n1_; have BK330 := n2_; have GW330 := n3_; have GE330 := n4_; have NB329_330 := n5_; have NB330_329 := n6_; clear n0_ n1_ n2_ n3_ n4_ n5_ n6_; clear hb hbox hg; have hnb8 := NB329_330.out; have hnc8 := NB330_329.out; have hcz9_0 : w7.cell? ⟨gb329, 0, none⟩ = some (.bool a0_0) := (blk_cell BK329.out 0).trans rfl; have hcz9_1 : w7.cell? ⟨gb329, 1, none⟩ = some (.slice A0_1 l0_1.length c0_1) := (blk_cell BK329.out 1).trans rfl; have hfz9_0 := blk_frozen BK329.out 0; have hfz9_1 := blk_frozen BK329.out 1) | ((with_reducible refine gate_callee (f := 22) rfl ?_); refine goesL_ (some 6) rfl rfl Try.func22 (by kernel_rfl) rfl #[.agg #[.bool a0_0, .slice A0_1 l0_1.length c0_1]] rfl za ?_; (with_reducible refine (impl_BigOk.calls a0_0 _ _ l0_1 true _ ?side1 ?side2 A3.out).mono ?_); (case side1 => repeat (first | exact (Kd.C_below HR0_1.out HB.out) | (with_reducible refine Kd.C_alloc ?_ _) | (with_reducible refine Kd.C_drewN ?_ _) | (with_reducible refine Kd.C_drew ?_))); (case side2 => exact HC0_1.out); rintro e w10 ⟨rfl, hb⟩; refine ⟨_, rfl, ?_⟩; have n0_ := Aside0.mk (blk_below (g := gb329) (o := .cells #[.bool a0_0, .slice A0_1 l0_1.length c0_1] 27 (0, 0)) (zk BK329.out) hb); have n1_ := Aside0.mk (blk_below (g := gb330) (o := .cells #[.bool a1_0, .slice A1_1 l1_1.length c1_1] 27 (0, 0)) (zk BK330.out) hb); have n2_ := Aside0.mk (below_step zb hb); clear BK329; clear BK330; clear HB; have BK329 := n0_; have BK330 := n1_; have HB := n2_; clear n0_ n1_ n2_; (try clear hb); (try clear hb2); (try clear hk); (try clear hi); have hcz11_0 : w10.cell? ⟨gb330, 0, none⟩ = some (.bool a1_0) := (blk_cell BK330.out 0).trans rfl; have hcz11_1 : w10.cell? ⟨gb330, 1, none⟩ = some (.slice A1_1 l1_1.length c1_1) := (blk_cell BK330.out 1).trans rfl; have hfz11_0 := blk_frozen BK330.out 0; have hfz11_1 := blk_frozen BK330.out 1) | (go_at_call 22; (with_reducible refine (impl_BigOk.calls a1_0 _ _ l1_1 t332 _ ?side1 ?side2 A5.out).mono ?_); (case side1 => repeat (first | exact (Kd.C_below HR1_1.out HB.out) | (with_reducible refine Kd.C_alloc ?_ _) | (with_reducible refine Kd.C_drewN ?_ _) | (with_reducible refine Kd.C_drew ?_))); (case side2 => exact HC1_1.out); rintro e w12 ⟨rfl, hb⟩; have n0_ := Aside0.mk (blk_below (g := gb329) (o := .cells #[.bool a0_0, .slice A0_1 l0_1.length c0_1] 27 (0, 0)) (zk BK329.out) hb); have n1_ := Aside0.mk (blk_below (g := gb330) (o := .cells #[.bool a1_0, .slice A1_1 l1_1.length c1_1] 27 (0, 0)) (zk BK330.out) hb); have n2_ := Aside0.mk (below_step zb hb); clear BK329; clear BK330; clear HB; have BK329 := n0_; have BK330 := n1_; have HB := n2_; clear n0_ n1_ n2_; (try clear hb); (try clear hb2); (try clear hk); (try clear hi)))
    go_ret
    exact ⟨by first | rfl | (simp [errW_none, errW_some] <;> rfl) | (simp [*, errW_none, errW_some] <;> rfl), zb⟩
  · replace c4 := Bool.eq_false_iff.mpr c4
    subst c4
    have H1 : (some false) = some r := by rw [if_neg (show ¬ (false = true) by decide)] at H; exact H
    clear H
    have H := H1
    clear H1
    obtain rfl := Option.some.inj H
    go_enter Try.func67, Try.ntmps67
    go_wp2_with (first | ((with_reducible refine gate_dst (N := 2) rfl ?_); refine box_event ?hg (N := 2) ?hd (cs := #[.bool a0_0, .slice A0_1 l0_1.length c0_1]) (t := 27) ?hr ?_; (case hd => rfl); (case hg => rfl); (case hr => first | (go_simp; done) | (go_simp; rfl)); intro gb329 hg w13 hbox hb; have n0_ := Aside0.mk (below_step zb hb); have n1_ := Aside0.mk (hbox); have n2_ := Aside0.mk ((by rw [hg]; exact (below_size zb) : w.heap.size ≤ gb329)); have n3_ := Aside0.mk ((by rw [hg]; exact (below_size zb) : w.heap.size ≤ gb329)); clear HB; have HB := n0_; have BK329 := n1_; have GW329 := n2_; have GE329 := n3_; clear n0_ n1_ n2_ n3_; clear hb hbox hg) | ((with_reducible refine gate_dst (N := 3) rfl ?_); refine box_event ?hg (N := 3) ?hd (cs := #[.bool a1_0, .slice A1_1 l1_1.length c1_1]) (t := 27) ?hr ?_; (case hd => rfl); (case hg => rfl); (case hr => first | (go_simp; done) | (go_simp; rfl)); intro gb330 hg w14 hbox hb; have n0_ := Aside0.mk (blk_below (g := gb329) (o := .cells #[.bool a0_0, .slice A0_1 l0_1.length c0_1] 27 (0, 0)) (zk BK329.out) hb); have n1_ := Aside0.mk (below_step zb hb); have n2_ := Aside0.mk (hbox); have n3_ := Aside0.mk ((by rw [hg]; exact (below_size zb) : w.heap.size ≤ gb330)); have n4_ := Aside0.mk ((by rw [hg]; exact (below_size zb) : w.heap.size ≤ gb330)); have n5_ := Aside0.mk ((by rw [hg]; exact Nat.ne_of_lt (blk_lt (g := gb329) (o := .cells #[.bool a0_0, .slice A0_1 l0_1.length c0_1] 27 (0, 0)) (zk BK329.out)) : gb329 ≠ gb330)); have n6_ := Aside0.mk ((by rw [hg]; exact Nat.ne_of_gt (blk_lt (g := gb329) (o := .cells #[.bool a0_0, .slice A0_1 l0_1.length c0_1] 27 (0, 0)) (zk BK329.out)) : gb330 ≠ gb329)); clear BK329; clear HB; have BK329 := n0_; have HB := n1_; have BK330 := n2_; have GW330 := n3_; have GE330 := n4_; have NB329_330 := n5_; have NB330_329 := n6_; clear n0_ n1_ n2_ n3_ n4_ n5_ n6_; clear hb hbox hg; have hnb15 := NB329_330.out; have hnc15 := NB330_329.out; have hcz16_0 : w14.cell? ⟨gb329, 0, none⟩ = some (.bool a0_0) := (blk_cell BK329.out 0).trans rfl; have hcz16_1 : w14.cell? ⟨gb329, 1, none⟩ = some (.slice A0_1 l0_1.length c0_1) := (blk_cell BK329.out 1).trans rfl; have hfz16_0 := blk_frozen BK329.out 0; have hfz16_1 := blk_frozen BK329.out 1) | ((with_reducible refine gate_callee (f := 22) rfl ?_); refine goesL_ (some 6) rfl rfl Try.func22 (by kernel_rfl) rfl #[.agg #[.bool a0_0, .slice A0_1 l0_1.length c0_1]] rfl za ?_; (with_reducible refine (impl_BigOk.calls a0_0 _ _ l0_1 false _ ?side1 ?side2 A3.out).mono ?_); (case side1 => repeat (first | exact (Kd.C_below HR0_1.out HB.out) | (with_reducible refine Kd.C_alloc ?_ _) | (with_reducible refine Kd.C_drewN ?_ _) | (with_reducible refine Kd.C_drew ?_))); (case side2 => exact HC0_1.out); rintro e w17 ⟨rfl, hb⟩; refine ⟨_, rfl, ?_⟩; have n0_ := Aside0.mk (blk_below (g := gb329) (o := .cells #[.bool a0_0, .slice A0_1 l0_1.length c0_1] 27 (0, 0)) (zk BK329.out) hb); have n1_ := Aside0.mk (blk_below (g := gb330) (o := .cells #[.bool a1_0, .slice A1_1 l1_1.length c1_1] 27 (0, 0)) (zk BK330.out) hb); have n2_ := Aside0.mk (below_step zb hb); clear BK329; clear BK330; clear HB; have BK329 := n0_; have BK330 := n1_; have HB := n2_; clear n0_ n1_ n2_; (try clear hb); (try clear hb2); (try clear hk); (try clear hi)))
    go_ret
    exact ⟨by first | rfl | (simp [errW_none, errW_some] <;> rfl) | (simp [*, errW_none, errW_some] <;> rfl), zb⟩
end Go.Proofs.Ytdemeoncjcbojaa.Pr
end
section
namespace Go.Proofs.Ytdemeoncjcbojaa.Pr
open Go.RowKit Go.Proofs.YtdemeoncjcbojaaW.PrintWords Go.Proofs.YtdemeoncjcbojaaW.PrintLast Go.Proofs.Ytdemeoncjcbojaa.Ext Go.Proofs.YtdemeoncjcbojaaW.PrintMore
attribute [local go_sem] max2_int min2_int max_two min_two max_three min_three max_four min_four
set_option linter.unusedVariables false
set_option linter.unusedSimpArgs false
def cpy (ys xs : List Int) : List Int := ys.take (min ys.length xs.length) ++ xs.drop (min ys.length xs.length)
mutual
def impl_limbs_add.l0 : Nat → List Int → List Int → Int → Int → Option (List Int)
  | 0, _, _, _, _ => none
  | k + 1, x5, x19, x20, x21 => if x21 < x20 then (if 0 ≤ x21 then (if x21 < (x19.length : Int) then (if x21 < (x5.length : Int) then (impl_limbs_add.l0 k (x5.set (x21 : Int).toNat (wrap64 ((rd x5 x21) + (rd x19 x21)))) x19 x20 (wrap64 (x21 + 1))) else (none)) else (none)) else (none)) else (impl_limbs_add.l1 k x5 (wrap64 ((x5.length : Int) - 1)) 0)
def impl_limbs_add.l1 : Nat → List Int → Int → Int → Option (List Int)
  | 0, _, _, _ => none
  | k + 1, x5, x36, x37 => if x37 < x36 then (if 0 ≤ (wrap64 (x37 + 1)) then (if (wrap64 (x37 + 1)) < (x5.length : Int) then (if 0 ≤ x37 then (if x37 < (x5.length : Int) then ((some (x5.set ((wrap64 (x37 + 1)) : Int).toNat (wrap64 ((rd x5 (wrap64 (x37 + 1))) + (wrap64 (Int.tdiv (rd x5 x37) 10000)))) : List Int)).bind fun y343 => (impl_limbs_add.l1 k (y343.set (x37 : Int).toNat (Int.tmod (rd y343 x37) 10000)) x36 (wrap64 (x37 + 1)))) else (none)) else (none)) else (none)) else (none)) else ((impl_limbs_trim.f k x5).bind fun t346 => (some t346))
end
def impl_limbs_add.f (k : Nat) (l0 : List Int) (l1 : List Int) : Option (List Int) := if 0 ≤ (wrap64 ((mx (l0.length : Int) (l1.length : Int)) + 1)) then (if (wrap64 ((mx (l0.length : Int) (l1.length : Int)) + 1) : Int).toNat ≤ 35184372088832 then (impl_limbs_add.l0 k (cpy l0 (List.replicate (wrap64 ((mx (l0.length : Int) (l1.length : Int)) + 1) : Int).toNat 0)) l1 (l1.length : Int) 0) else (none)) else (none)
mutual
def impl_limbs_sub.l0 : Nat → List Int → List Int → Int → Int → Option (List Int)
  | 0, _, _, _, _ => none
  | k + 1, x5, x11, x12, x13 => if x13 < x12 then (if 0 ≤ x13 then (if x13 < (x11.length : Int) then (if x13 < (x5.length : Int) then (impl_limbs_sub.l0 k (x5.set (x13 : Int).toNat (wrap64 ((rd x5 x13) - (rd x11 x13)))) x11 x12 (wrap64 (x13 + 1))) else (none)) else (none)) else (none)) else (impl_limbs_sub.l1 k x5 (x5.length : Int) 0)
def impl_limbs_sub.l1 : Nat → List Int → Int → Int → Option (List Int)
  | 0, _, _, _ => none
  | k + 1, x5, x27, x28 => if x28 < x27 then (if 0 ≤ x28 then (if x28 < (x5.length : Int) then (if (rd x5 x28) < 0 then ((some (x5.set (x28 : Int).toNat (wrap64 ((rd x5 x28) + 10000)) : List Int)).bind fun y361 => (if 0 ≤ (wrap64 (x28 + 1)) then (if (wrap64 (x28 + 1)) < (x5.length : Int) then (impl_limbs_sub.l1 k (y361.set ((wrap64 (x28 + 1)) : Int).toNat (wrap64 ((rd y361 (wrap64 (x28 + 1))) - 1))) x27 (wrap64 (x28 + 1))) else (none)) else (none))) else (impl_limbs_sub.l1 k x5 x27 (wrap64 (x28 + 1)))) else (none)) else (none)) else ((impl_limbs_trim.f k x5).bind fun t364 => (some t364))
end
def impl_limbs_sub.f (k : Nat) (l0 : List Int) (l1 : List Int) : Option (List Int) := (clone100.f l0).bind fun t353 => (impl_limbs_sub.l0 k t353 l1 (l1.length : Int) 0)
set_option maxHeartbeats 8000000 in
set_option maxRecDepth 100000 in
theorem impl_limbs_sub.calls (k : Nat) (A0 : Option Addr) (c0 : Nat) (l0 : List Int) (A1 : Option Addr) (c1 : Nat) (l1 : List Int) (r : List Int) (w : World) (hr0 : Kd.C (Kd.int .i64) w A0 l0.length l0) (hc0 : l0.length ≤ c0) (hr1 : Kd.C (Kd.int .i64) w A1 l1.length l1) (hc1 : l1.length ≤ c1) (h : impl_limbs_sub.f k l0 l1 = some r) :
    Calls Try.prog 88 #[.slice A0 l0.length c0, .slice A1 l1.length c1] w fun e w' => ∃ v0_ : Value, e = .returned (v0_) ∧ Kd.V (Kd.int .i64) 3 w' w.heap.size (fun k_ => (w.heap.size ≤ k_)) v0_ r ∧ Below w.heap.size w w' := by
  have HR0 := Aside0.mk hr0
  have HC0 := Aside0.mk hc0
  clear hr0 hc0
  have HR1 := Aside0.mk hr1
  have HC1 := Aside0.mk hc1
  clear hr1 hc1
  have HB := Aside0.mk (Below.refl w.heap.size w)
  have H : ((clone100.f l0).bind fun t353 => (impl_limbs_sub.l0 k t353 l1 (l1.length : Int) 0)) = some r := h
  clear h
  replace H := Option.bind_eq_some_iff.mp H
  obtain ⟨t353, A30, H⟩ := H
  replace H : (impl_limbs_sub.l0 k t353 l1 (l1.length : Int) 0) = some r := H
  have A3 := Aside0.mk A30
  clear A30
  have H' := Aside0.mk H
  clear H
  go_enter Try.func88, Try.ntmps88
  go_wp2_with (first | ((with_reducible refine gate_callee (f := 100) rfl ?_); refine goesL_ (some 10) rfl rfl Try.func100 (by kernel_rfl) rfl #[.slice A0 l0.length c0] rfl za ?_; (with_reducible refine (clone100.calls _ _ l0 t353 _ ?side1 ?side2 A3.out).mono ?_); (case side1 => repeat (first | exact HR0.out | (with_reducible refine Kd.C_alloc ?_ _) | (with_reducible refine Kd.C_drewN ?_ _) | (with_reducible refine Kd.C_drew ?_))); (case side2 => exact HC0.out); rintro e w4 ⟨v354, rfl, ho0, hb⟩; refine ⟨_, rfl, ?_⟩; have n0_ := Aside0.mk (Kd.R_lower (Kd.R_newM (M := fun k_ => (w.heap.size ≤ k_)) ho0 (below_size zb) (fun k_ h_ => h_)) (below_size zb)); have n1_ := Aside0.mk (below_step zb hb); clear HB; have HO355 := n0_; have HB := n1_; clear n0_ n1_; (try clear hb); (try clear hb2); (try clear hk); (try clear hi); (try clear ho0)))
  go_loopg [13] k (fun kq v13 w' => ∃ (x5_1 : List Int) (x13_1 : Int), v13 = .int .i64 x13_1 ∧ Aside0 (impl_limbs_sub.l0 kq x5_1 l1 (l1.length : Int) x13_1 = some r) ∧ Aside0 (kq ≤ k) ∧ Aside0 (Kd.R (Kd.int .i64) 3 w' w.heap.size (fun k_ => (w.heap.size ≤ k_)) v354 x5_1) ∧ Aside0 (Below w.heap.size w w'))
  case atStart => exact ⟨(t353), (0), (by first | rfl | (simp; done) | (simp [*]; done)), H', ⟨Nat.le_refl _⟩, ⟨by (with_reducible repeat (first | apply Kd.R_alloc | apply Kd.R_drewN | apply Kd.R_drew)); exact Kd.R_mono HO355.out (fun _ hk => hk.1)⟩, ⟨zb⟩⟩
  case round =>
    clear H'
    try clear c1
    try clear p2
    obtain ⟨x5_1, x13_1, rfl, HA, HK1, HO_5, HB⟩ := hrel
    cases gk with
    | zero => exact absurd HA.out (by simp [impl_limbs_sub.l0])
    | succ k1 =>
      have H := HA.out
      clear HA
      simp only [impl_limbs_sub.l0] at H
      by_cases c5 : x13_1 < (l1.length : Int)
      · rw [if_pos c5] at H
        have c5b0 : decide (x13_1 < (l1.length : Int)) = true := decide_eq_true c5
        clear c5
        by_cases c6 : 0 ≤ x13_1
        · rw [if_pos c6] at H
          have c6b0 : decide (0 ≤ x13_1) = true := decide_eq_true c6
          clear c6
          by_cases c7 : x13_1 < (l1.length : Int)
          · rw [if_pos c7] at H
            have c7b0 : decide (x13_1 < (l1.length : Int)) = true := decide_eq_true c7
            clear c7
            by_cases c8 : x13_1 < (x5_1.length : Int)
            · rw [if_pos c8] at H
              have c8b0 : decide (x13_1 < (x5_1.length : Int)) = true := decide_eq_true c8
              clear c8
              obtain ⟨y358, hy358⟩ : ∃ y_ : List Int, y_ = (x5_1.set (x13_1 : Int).toNat (wrap64 ((rd x5_1 x13_1) - (rd l1 x13_1)))) := ⟨_, rfl⟩
              replace H : (impl_limbs_sub.l0 k1 y358 l1 (l1.length : Int) (wrap64 (x13_1 + 1))) = some r := by first | (rw [hy358]; with_reducible exact H) | (have H2_ := (Option.bind_some _ _).symm.trans H; rw [hy358]; with_reducible exact H2_) | (have H2_ := (Option.bind_some _ _).symm.trans H; with_reducible exact H2_) | with_reducible exact H | (rw [hy358]; exact H) | exact H
              have Ny358 := Aside0.mk hy358
              clear hy358
              have H' := Aside0.mk H
              clear H
              have p356 : 0 ≤ (x13_1 : Int) := of_decide_eq_true (by first | (with_reducible assumption) | assumption)
              have q356 : x13_1 < (l1.length : Int) := of_decide_eq_true (by first | (with_reducible assumption) | assumption)
              obtain ⟨ad356, e356, hx356_0⟩ := Kd.at_int HR1.out x13_1 p356 q356
              cases e356
              replace hx356_0 := (HB.out.cell (World.block_lt_of_cell? w _ hx356_0)).trans hx356_0
              replace p356 := eq_true p356
              replace q356 := eq_true q356
              obtain ⟨Ao10, co10, eo10⟩ := Kd.R_slice HO_5.out
              subst eo10
              have p357 : 0 ≤ (x13_1 : Int) := of_decide_eq_true (by first | (with_reducible assumption) | assumption)
              have q357 : x13_1 < (x5_1.length : Int) := of_decide_eq_true (by first | (with_reducible assumption) | assumption)
              obtain ⟨ad357, e357, hx357_0⟩ := Kd.at_int (Kd.R_reads' HO_5.out).2.2 x13_1 p357 q357
              cases e357
              replace p357 := eq_true p357
              replace q357 := eq_true q357
              have p9 : 0 ≤ (x13_1 : Int) := of_decide_eq_true (by first | (with_reducible assumption) | assumption)
              have q9 : (x13_1 : Int) < ((x5_1.length : Int) : Int) := of_decide_eq_true (by first | (with_reducible assumption) | assumption)
              obtain ⟨go9, co9, eo9, gb9, gl9, cl9, HG9⟩ := Kd.R_form HO_5.out (by omega)
              (first | cases eo9 | (injection eo9 with ea_ en_ ec_; (first | subst ea_ | (injection ea_ with ea_; subst ea_)); subst ec_; clear en_))
              have GB9 := Aside0.mk gb9
              have GG9 := Aside0.mk HG9
              clear gb9 gl9 HG9
              (first | simp only [add_plain] at hx357_0 | skip)
              obtain ⟨hx9_0, hf9_0⟩ := Kd.R_celln 0 HO_5.out (x13_1 : Int) p9 q9
              replace p9 := eq_true p9
              replace q9 := eq_true q9
              have HP11 := Kd.R_putg HO_5.out (x13_1 : Int) (wrap64 ((rd x5_1 x13_1) - (rd l1 x13_1)))
              go_wp2_with (first | ((with_reducible refine gate_store (t := 3) (p := 24) rfl ?_); refine store_event (t := 3) (p := 24) (v := ?vo_w12) (w1 := (wr.setCell ⟨go9, (x13_1 : Int).toNat, none⟩ (.int .i64 (wrap64 ((rd x5_1 x13_1) - (rd l1 x13_1)))))) ?hg ?ho ?hn ?hr ?_; (case ho => rfl); (case hg => rfl); (case hn => rfl); (case hr => first | (go_simp; done) | (go_simp; rfl)); intro w12 hw; have hg : wr.grownBy w12 (some go9) := (by rw [hw]; exact HP11.2); have hp_ : Kd.R (Kd.int .i64) 3 w12 w.heap.size (fun k_ => (w.heap.size ≤ k_)) (.slice (some ⟨go9, 0, none⟩) x5_1.length co10) y358 := (by rw [hw, Ny358.out]; exact HP11.1); clear HP11; have n0_ := Aside0.mk (hp_); have n1_ := Aside0.mk ((by rw [hw]; exact below_set (HB.out) GB9.out : Below w.heap.size w w12)); clear HO_5; clear HB; have HO_5 := n0_; have HB := n1_; clear n0_ n1_; clear hg hw hp_))
              go_roundg k1
              case measure => have := HK1.out; omega
              case rel => exact ⟨(y358), (wrap64 (x13_1 + 1)), (by first | rfl | (simp; done) | (simp [*]; done)), H', ⟨by have := HK1.out; omega⟩, ⟨by (with_reducible repeat (first | apply Kd.R_alloc | apply Kd.R_drewN | apply Kd.R_drew)); exact HO_5.out⟩, ⟨zb⟩⟩
            · rw [if_neg c8] at H
              exact absurd H (by simp)
          · rw [if_neg c7] at H
            exact absurd H (by simp)
        · rw [if_neg c6] at H
          exact absurd H (by simp)
      · rw [if_neg c5] at H
        have c5b0 : decide (x13_1 < (l1.length : Int)) = false := decide_eq_false c5
        clear c5
        have H' := Aside0.mk H
        clear H
        obtain ⟨Ao13, co13, eo13⟩ := Kd.R_slice HO_5.out
        subst eo13
        go_wp2
        go_loopg [28] k1 (fun kq v28 w' => ∃ (x5_2 : List Int) (x28_2 : Int), v28 = .int .i64 x28_2 ∧ Aside0 (impl_limbs_sub.l1 kq x5_2 (x5_1.length : Int) x28_2 = some r) ∧ Aside0 (kq ≤ k1) ∧ Aside0 (Kd.R (Kd.int .i64) 3 w' w.heap.size (fun k_ => (w.heap.size ≤ k_)) (.slice Ao13 x5_1.length co13) x5_2) ∧ Aside0 (Below w.heap.size w w'))
        case atStart => exact ⟨(x5_1), (0), (by first | rfl | (simp; done) | (simp [*]; done)), H', ⟨Nat.le_refl _⟩, ⟨by (with_reducible repeat (first | apply Kd.R_alloc | apply Kd.R_drewN | apply Kd.R_drew)); exact HO_5.out⟩, ⟨zb⟩⟩
        case round =>
          clear H'
          try clear c1
          try clear p2
          try clear p3
          try clear q3
          try clear hx3
          try clear c5
          try clear c5b0
          try clear c6
          try clear c6b0
          try clear p6
          try clear c7
          try clear c7b0
          try clear c8
          try clear c8b0
          try clear p9
          try clear q9
          try clear hx9
          try clear hf9
          try clear c10
          try clear hx356_0
          try clear hx357_0
          try clear hx9_0
          try clear p2
          try clear p356
          try clear p357
          try clear p9
          try clear q356
          try clear q357
          try clear q9
          obtain ⟨x5_2, x28_2, rfl, HA, HK2, HO_5, HB⟩ := hrel
          have hl5_2 := (Kd.R_reads' HO_5.out).1
          rw [hl5_2] at HO_5
          (try simp only [hl5_2])
          cases gk with
          | zero => exact absurd HA.out (by simp [impl_limbs_sub.l1])
          | succ k2 =>
            have H := HA.out
            clear HA
            simp only [impl_limbs_sub.l1] at H
            by_cases c14 : x28_2 < (x5_1.length : Int)
            · rw [if_pos c14] at H
              have c14b0 : decide (x28_2 < (x5_1.length : Int)) = true := decide_eq_true c14
              clear c14
              (try rw [hl5_2] at c14b0)
              (try rw [hl5_2] at c14b1)
              by_cases c15 : 0 ≤ x28_2
              · rw [if_pos c15] at H
                have c15b0 : decide (0 ≤ x28_2) = true := decide_eq_true c15
                clear c15
                by_cases c16 : x28_2 < (x5_2.length : Int)
                · rw [if_pos c16] at H
                  have c16b0 : decide (x28_2 < (x5_2.length : Int)) = true := decide_eq_true c16
                  clear c16
                  by_cases c17 : (rd x5_2 x28_2) < 0
                  · rw [if_pos c17] at H
                    have c17b0 : decide ((rd x5_2 x28_2) < 0) = true := decide_eq_true c17
                    clear c17
                    obtain ⟨y361, hy361⟩ : ∃ y_ : List Int, y_ = (x5_2.set (x28_2 : Int).toNat (wrap64 ((rd x5_2 x28_2) + 10000))) := ⟨_, rfl⟩
                    replace H : (if 0 ≤ (wrap64 (x28_2 + 1)) then (if (wrap64 (x28_2 + 1)) < (x5_2.length : Int) then (impl_limbs_sub.l1 k2 (y361.set ((wrap64 (x28_2 + 1)) : Int).toNat (wrap64 ((rd y361 (wrap64 (x28_2 + 1))) - 1))) (x5_1.length : Int) (wrap64 (x28_2 + 1))) else (none)) else (none)) = some r := by first | (rw [hy361]; with_reducible exact H) | (have H2_ := (Option.bind_some _ _).symm.trans H; rw [hy361]; with_reducible exact H2_) | (have H2_ := (Option.bind_some _ _).symm.trans H; with_reducible exact H2_) | with_reducible exact H | (rw [hy361]; exact H) | exact H
                    have Ny361 := Aside0.mk hy361
                    clear hy361
                    obtain ⟨ji19, hji19⟩ : ∃ j_ : Int, (wrap64 (x28_2 + 1)) = j_ := ⟨_, rfl⟩
                    replace H : (if 0 ≤ (ji19) then (if (ji19) < (x5_2.length : Int) then (impl_limbs_sub.l1 k2 (y361.set ((ji19) : Int).toNat (wrap64 ((rd y361 (ji19)) - 1))) (x5_1.length : Int) ji19) else (none)) else (none)) = some r := by first | (rw [hji19] at H; exact H) | (simp only [hji19] at H ⊢; exact H)
                    have hji19w : (IntKind.i64.wrap (x28_2 + 1)) = ji19 := (i64_w _).trans hji19
                    by_cases c20 : 0 ≤ (ji19)
                    · rw [if_pos c20] at H
                      have c20b0 : decide (0 ≤ (ji19)) = true := decide_eq_true c20
                      clear c20
                      by_cases c21 : (ji19) < (x5_2.length : Int)
                      · rw [if_pos c21] at H
                        have c21b0 : decide ((ji19) < (x5_2.length : Int)) = true := decide_eq_true c21
                        clear c21
                        obtain ⟨y363, hy363⟩ : ∃ y_ : List Int, y_ = (y361.set ((ji19) : Int).toNat (wrap64 ((rd y361 (ji19)) - 1))) := ⟨_, rfl⟩
                        replace H : (impl_limbs_sub.l1 k2 y363 (x5_1.length : Int) ji19) = some r := by first | (rw [hy363]; with_reducible exact H) | (have H2_ := (Option.bind_some _ _).symm.trans H; rw [hy363]; with_reducible exact H2_) | (have H2_ := (Option.bind_some _ _).symm.trans H; with_reducible exact H2_) | with_reducible exact H | (rw [hy363]; exact H) | exact H
                        have Ny363 := Aside0.mk hy363
                        clear hy363
                        have H' := Aside0.mk H
                        clear H
                        have p359 : 0 ≤ (x28_2 : Int) := of_decide_eq_true (by first | (with_reducible assumption) | assumption)
                        have q359 : x28_2 < (x5_2.length : Int) := of_decide_eq_true (by first | (with_reducible assumption) | assumption)
                        obtain ⟨ad359, e359, hx359_0⟩ := Kd.at_int (Kd.R_reads' HO_5.out).2.2 x28_2 p359 q359
                        cases e359
                        replace p359 := eq_true p359
                        replace q359 := eq_true q359
                        have p360 : 0 ≤ (x28_2 : Int) := of_decide_eq_true (by first | (with_reducible assumption) | assumption)
                        have q360 : x28_2 < (x5_2.length : Int) := of_decide_eq_true (by first | (with_reducible assumption) | assumption)
                        obtain ⟨ad360, e360, hx360_0⟩ := Kd.at_int (Kd.R_reads' HO_5.out).2.2 x28_2 p360 q360
                        obtain rfl : ad359 = ad360 := (by injection e360)
                        replace p360 := eq_true p360
                        replace q360 := eq_true q360
                        have p18 : 0 ≤ (x28_2 : Int) := of_decide_eq_true (by first | (with_reducible assumption) | assumption)
                        have q18 : (x28_2 : Int) < ((x5_2.length : Int) : Int) := of_decide_eq_true (by first | (with_reducible assumption) | assumption)
                        obtain ⟨go18, co18, eo18, gb18, gl18, cl18, HG18⟩ := Kd.R_form HO_5.out (by omega)
                        (first | cases eo18 | (injection eo18 with ea_ en_ ec_; (first | subst ea_ | (injection ea_ with ea_; subst ea_)); subst ec_; clear en_))
                        have GB18 := Aside0.mk gb18
                        have GG18 := Aside0.mk HG18
                        clear gb18 gl18 HG18
                        (first | simp only [add_plain] at hx359_0 | skip)
                        (first | simp only [add_plain] at hx360_0 | skip)
                        obtain ⟨hx18_0, hf18_0⟩ := Kd.R_celln 0 HO_5.out (x28_2 : Int) p18 q18
                        replace p18 := eq_true p18
                        replace q18 := eq_true q18
                        have HP23 := Kd.R_putg HO_5.out (x28_2 : Int) (wrap64 ((rd x5_2 x28_2) + 10000))
                        go_wp2_with (first | ((with_reducible refine gate_store (t := 3) (p := 41) rfl ?_); refine store_event (t := 3) (p := 41) (v := ?vo_w24) (w1 := (wr.setCell ⟨go18, (x28_2 : Int).toNat, none⟩ (.int .i64 (wrap64 ((rd x5_2 x28_2) + 10000))))) ?hg ?ho ?hn ?hr ?_; (case ho => rfl); (case hg => rfl); (case hn => rfl); (case hr => first | (go_simp; done) | (go_simp; rfl)); intro w24 hw; have hg : wr.grownBy w24 (some go18) := (by rw [hw]; exact HP23.2); have hp_ : Kd.R (Kd.int .i64) 3 w24 w.heap.size (fun k_ => (w.heap.size ≤ k_)) (.slice (some ⟨go18, 0, none⟩) x5_2.length co13) y361 := (by rw [hw, Ny361.out]; exact HP23.1); clear HP23; have n0_ := Aside0.mk (hp_); have n1_ := Aside0.mk ((by rw [hw]; exact below_set (HB.out) GB18.out : Below w.heap.size w w24)); clear HO_5; clear HB; have HO_5 := n0_; have HB := n1_; clear n0_ n1_; clear hg hw hp_; have p362 : 0 ≤ ((ji19) : Int) := of_decide_eq_true (by first | (with_reducible assumption) | assumption); have q362 : (ji19) < (y361.length : Int) := (by have h_ : ((ji19) : Int) < ((x5_2.length : Int) : Int) := of_decide_eq_true (by first | (with_reducible assumption) | assumption); first | (have e_ := (Kd.R_reads' HO_5.out).1; omega) | simpa only [Ny361.out, List.length_set] using h_); have ql362 : (((ji19) : Int) < ((x5_2.length : Int) : Int)) = True := eq_true (of_decide_eq_true (by first | (with_reducible assumption) | assumption)); obtain ⟨ad362, e362, hx362_0⟩ := Kd.at_int (Kd.R_reads' HO_5.out).2.2 (ji19) p362 q362; obtain rfl : (⟨go18, 0, none⟩ : Addr) = ad362 := (by injection e362); (first | simp only [add_plain] at hx362_0 | simp only [add_at] at hx362_0 | simp only [Addr.add, Nat.zero_add] at hx362_0 | skip); replace p362 := eq_true p362; replace q362 := eq_true q362; have p22 : 0 ≤ ((ji19) : Int) := of_decide_eq_true (by first | (with_reducible assumption) | assumption); have q22 : ((ji19) : Int) < ((x5_2.length : Int) : Int) := of_decide_eq_true (by first | (with_reducible assumption) | assumption); obtain ⟨hx22_0, hf22_0⟩ := Kd.R_celln 0 HO_5.out ((ji19) : Int) p22 q22; replace p22 := eq_true p22; replace q22 := eq_true q22; obtain ⟨hy25_, hz25_⟩ := Kd.R_celln 0 HO_5.out ((ji19) : Int) (of_decide_eq_true (by first | (with_reducible assumption) | assumption)) (of_decide_eq_true (by first | (with_reducible assumption) | assumption)); have HP25 := Kd.R_putg HO_5.out ((ji19) : Int) (wrap64 ((rd y361 (ji19)) - 1))) | ((with_reducible refine gate_store (t := 3) (p := 48) rfl ?_); refine store_event (t := 3) (p := 48) (v := ?vo_w26) (w1 := (w24.setCell ⟨go18, ((ji19) : Int).toNat, none⟩ (.int .i64 (wrap64 ((rd y361 (ji19)) - 1))))) ?hg ?ho ?hn ?hr ?_; (case ho => rfl); (case hg => rfl); (case hn => rfl); (case hr => first | (go_simp; done) | (go_simp; rfl)); intro w26 hw; have hg : w24.grownBy w26 (some go18) := (by rw [hw]; exact HP25.2); have hp_ : Kd.R (Kd.int .i64) 3 w26 w.heap.size (fun k_ => (w.heap.size ≤ k_)) (.slice (some ⟨go18, 0, none⟩) x5_2.length co13) y363 := (by rw [hw, Ny363.out]; exact HP25.1); clear HP25; have n0_ := Aside0.mk (hp_); have n1_ := Aside0.mk ((by rw [hw]; exact below_set (HB.out) GB18.out : Below w.heap.size w w26)); clear HO_5; clear HB; have HO_5 := n0_; have HB := n1_; clear n0_ n1_; clear hg hw hp_))
                        (try simp only [← hl5_2])
                        go_roundg k2
                        case measure => have := HK1.out; have := HK2.out; omega
                        case rel => exact ⟨(y363), (ji19), (by first | rfl | (simp; done) | (simp only [← hji19] <;> (first | rfl | simp)) | (simp [*]; done)), H', ⟨by have := HK1.out; have := HK2.out; omega⟩, ⟨by (try simp only [hl5_2]); (with_reducible repeat (first | apply Kd.R_alloc | apply Kd.R_drewN | apply Kd.R_drew)); exact HO_5.out⟩, ⟨zb⟩⟩
                      · rw [if_neg c21] at H
                        exact absurd H (by simp)
                    · rw [if_neg c20] at H
                      exact absurd H (by simp)
                  · rw [if_neg c17] at H
                    have c17b0 : decide ((rd x5_2 x28_2) < 0) = false := decide_eq_false c17
                    clear c17
                    have H' := Aside0.mk H
                    clear H
                    have p359 : 0 ≤ (x28_2 : Int) := of_decide_eq_true (by first | (with_reducible assumption) | assumption)
                    have q359 : x28_2 < (x5_2.length : Int) := of_decide_eq_true (by first | (with_reducible assumption) | assumption)
                    obtain ⟨ad359, e359, hx359_0⟩ := Kd.at_int (Kd.R_reads' HO_5.out).2.2 x28_2 p359 q359
                    cases e359
                    replace p359 := eq_true p359
                    replace q359 := eq_true q359
                    go_wp2
                    (try simp only [← hl5_2])
                    go_roundg k2
                    case measure => have := HK1.out; have := HK2.out; omega
                    case rel => exact ⟨(x5_2), (wrap64 (x28_2 + 1)), (by first | rfl | (simp; done) | (simp [*]; done)), H', ⟨by have := HK1.out; have := HK2.out; omega⟩, ⟨by (try simp only [hl5_2]); (with_reducible repeat (first | apply Kd.R_alloc | apply Kd.R_drewN | apply Kd.R_drew)); exact HO_5.out⟩, ⟨zb⟩⟩
                · rw [if_neg c16] at H
                  exact absurd H (by simp)
              · rw [if_neg c15] at H
                exact absurd H (by simp)
            · rw [if_neg c14] at H
              have c14b0 : decide (x28_2 < (x5_1.length : Int)) = false := decide_eq_false c14
              clear c14
              (try rw [hl5_2] at c14b0)
              (try rw [hl5_2] at c14b1)
              replace H := Option.bind_eq_some_iff.mp H
              obtain ⟨t364, A270, H⟩ := H
              replace H : (some t364) = some r := H
              have A27 := Aside0.mk A270
              clear A270
              obtain rfl := Option.some.inj H
              go_wp2_with (first | ((with_reducible refine gate_callee (f := 82) rfl ?_); refine goesL_ (some 51) rfl rfl Try.func82 (by kernel_rfl) rfl #[.slice Ao13 x5_2.length co13] rfl za ?_; (with_reducible refine (impl_limbs_trim.calls k2 (fun k_ => some k_ = (.slice Ao13 x5_2.length co13 : Value).ownBlock) _ _ x5_2 t364 _ ?side1 A27.out).mono ?_); (case side1 => exact Kd.R_V (Kd.R_tight rfl (HO_5.out))); rintro e w28 ⟨v365, rfl, ho0, hb⟩; refine ⟨_, rfl, ?_⟩; have n0_ := Aside0.mk (Kd.R_below (zR HO_5.out) hb); have n1_ := Aside0.mk (Kd.V_lower (Kd.V_mono (ok' := fun k_ => (w.heap.size ≤ k_)) ho0 (fun k_ hk_ => Or.elim hk_ (fun hs_ => ((HO_5.out).1 k_ hs_.symm)) (fun hn_ => (Nat.le_trans (below_size zb) hn_)))) (below_size zb)); have n2_ := Aside0.mk (below_step zb hb); clear HO_5; clear HB; have HO_5 := n0_; have HO366 := n1_; have HB := n2_; clear n0_ n1_ n2_; (try clear hb); (try clear hb2); (try clear hk); (try clear hi); (try clear ho0)))
              go_ret
              exact ⟨_, by first | rfl | (simp [errW_none, errW_some] <;> rfl) | (simp [*, errW_none, errW_some] <;> rfl), by (with_reducible repeat (first | apply Kd.V_alloc | apply Kd.V_drewN | apply Kd.V_drew)); exact HO366.out, zb⟩
end Go.Proofs.Ytdemeoncjcbojaa.Pr
end
section
namespace Go.Proofs.Ytdemeoncjcbojaa.Pr
open Go.RowKit Go.Proofs.YtdemeoncjcbojaaW.PrintWords Go.Proofs.YtdemeoncjcbojaaW.PrintLast Go.Proofs.Ytdemeoncjcbojaa.Ext Go.Proofs.YtdemeoncjcbojaaW.PrintMore
attribute [local go_sem] max2_int min2_int max_two min_two max_three min_three max_four min_four
set_option linter.unusedVariables false
set_option linter.unusedSimpArgs false
def impl_BigOf.f (k : Nat) (a0 : Int) : Option (Bool × List Int) := if a0 < 0 then ((impl_limbsOf.f k (IntKind.u64.wrap (-(IntKind.u64.wrap (a0))))).bind fun t179 => ((impl_big.f k (decide (a0 < 0)) t179).bind fun bt182 => (some (bt182.1, bt182.2.1)))) else ((impl_limbsOf.f k (IntKind.u64.wrap (a0))).bind fun t188 => ((impl_big.f k (decide (a0 < 0)) t188).bind fun bt191 => (some (bt191.1, bt191.2.1))))
def impl_Big_signed.f (a0_0 : Bool) (l0_1 : List Int) : Option (Bool × List Int) := some (a0_0, l0_1)
def impl_signed_add.f (k : Nat) (a0_0 : Bool) (l0_1 : List Int) (a1_0 : Bool) (l1_1 : List Int) : Option (Bool × List Int) := if (a0_0 == a1_0) = true then ((impl_limbs_add.f k l0_1 l1_1).bind fun t370 => (some (a0_0, t370))) else ((impl_limbs_cmp.f k l0_1 l1_1).bind fun t373 => (if t373 ≥ 0 then ((impl_limbs_sub.f k l0_1 l1_1).bind fun t374 => (some (a0_0, t374))) else ((impl_limbs_sub.f k l1_1 l0_1).bind fun t377 => (some (a1_0, t377)))))
def impl_BigAdd.f (k : Nat) (a0_0 : Bool) (l0_1 : List Int) (a1_0 : Bool) (l1_1 : List Int) : Option (Bool × List Int × Bool) := (impl_bigs.f a0_0 l0_1 a1_0 l1_1).bind fun t383 => (if t383 = true then ((impl_Big_signed.f a0_0 l0_1).bind fun bt384 => ((impl_Big_signed.f a1_0 l1_1).bind fun bt388 => ((impl_signed_add.f k bt384.1 bt384.2 bt388.1 bt388.2).bind fun bt392 => ((impl_big.f k bt392.1 bt392.2).bind fun bt397 => (some (bt397.1, bt397.2.1, bt397.2.2)))))) else (some (false, ([] : List Int), false)))
def impl_signed_minus.f (a0_0 : Bool) (l0_1 : List Int) : Option (Bool × List Int) := some (!a0_0, l0_1)
def impl_signed_sign.f (a0_0 : Bool) (l0_1 : List Int) : Option (Int) := if (l0_1.length : Int) = 0 then (some 0) else (if a0_0 = true then (some (-1)) else (some 1))
def impl_BigCmp.f (k : Nat) (a0_0 : Bool) (l0_1 : List Int) (a1_0 : Bool) (l1_1 : List Int) : Option (Int) := (impl_bigs.f a0_0 l0_1 a1_0 l1_1).bind fun t499 => (if t499 = true then ((impl_Big_signed.f a0_0 l0_1).bind fun bt500 => ((impl_Big_signed.f a1_0 l1_1).bind fun bt504 => ((impl_signed_minus.f bt504.1 bt504.2).bind fun bt508 => ((impl_signed_add.f k bt500.1 bt500.2 bt508.1 bt508.2).bind fun bt512 => ((impl_signed_sign.f bt512.1 bt512.2).bind fun t516 => (some t516)))))) else (some 2))
end Go.Proofs.Ytdemeoncjcbojaa.Pr
end
section
namespace Go.Proofs.Ytdemeoncjcbojaa.Pr
open Go.RowKit Go.Proofs.YtdemeoncjcbojaaW.PrintWords Go.Proofs.YtdemeoncjcbojaaW.PrintLast Go.Proofs.Ytdemeoncjcbojaa.Ext Go.Proofs.YtdemeoncjcbojaaW.PrintMore
attribute [local go_sem] max2_int min2_int max_two min_two max_three min_three max_four min_four
set_option linter.unusedVariables false
set_option linter.unusedSimpArgs false
mutual
def impl_limbs_mul.l0 : Nat → List Int → List Int → List Int → Int → Int → Option (List Int)
  | 0, _, _, _, _, _ => none
  | k + 1, x1, x5, x19, x20, x21 => if x21 < x20 then (if 0 ≤ x21 then (if x21 < (x19.length : Int) then (impl_limbs_mul.l1 k x1 x5 x21 (rd x19 x21) 0 x19 x20 x21 x1 (x1.length : Int) 0) else (none)) else (none)) else ((impl_limbs_trim.f k x5).bind fun t256 => (some t256))
def impl_limbs_mul.l1 : Nat → List Int → List Int → Int → Int → Int → List Int → Int → Int → List Int → Int → Int → Option (List Int)
  | 0, _, _, _, _, _, _, _, _, _, _, _ => none
  | k + 1, x1, x5, x6, x7, x8, x19, x20, x21, x26, x27, x28 => if x28 < x27 then (if 0 ≤ x28 then (if x28 < (x26.length : Int) then (if 0 ≤ (wrap64 (x6 + x28)) then (if (wrap64 (x6 + x28)) < (x5.length : Int) then (impl_limbs_mul.l1 k x1 (x5.set ((wrap64 (x6 + x28)) : Int).toNat (Int.tmod (wrap64 ((wrap64 ((rd x5 (wrap64 (x6 + x28))) + (wrap64 (x7 * (rd x26 x28))))) + x8)) 10000)) x6 x7 (wrap64 (Int.tdiv (wrap64 ((wrap64 ((rd x5 (wrap64 (x6 + x28))) + (wrap64 (x7 * (rd x26 x28))))) + x8)) 10000)) x19 x20 x21 x26 x27 (wrap64 (x28 + 1))) else (none)) else (none)) else (none)) else (none)) else (if 0 ≤ (wrap64 (x6 + (x1.length : Int))) then (if (wrap64 (x6 + (x1.length : Int))) < (x5.length : Int) then (impl_limbs_mul.l0 k x1 (x5.set ((wrap64 (x6 + (x1.length : Int))) : Int).toNat (wrap64 ((rd x5 (wrap64 (x6 + (x1.length : Int)))) + x8))) x19 x20 (wrap64 (x21 + 1))) else (none)) else (none))
end
def impl_limbs_mul.f (k : Nat) (l0 : List Int) (l1 : List Int) : Option (List Int) := if 0 ≤ (wrap64 ((wrap64 ((l0.length : Int) + (l1.length : Int))) + 1)) then (if (wrap64 ((wrap64 ((l0.length : Int) + (l1.length : Int))) + 1) : Int).toNat ≤ 35184372088832 then (impl_limbs_mul.l0 k l1 (List.replicate (wrap64 ((wrap64 ((l0.length : Int) + (l1.length : Int))) + 1) : Int).toNat 0) l0 (l0.length : Int) 0) else (none)) else (none)
set_option maxHeartbeats 8000000 in
set_option maxRecDepth 100000 in
theorem impl_limbs_mul.calls (k : Nat) (A0 : Option Addr) (c0 : Nat) (l0 : List Int) (A1 : Option Addr) (c1 : Nat) (l1 : List Int) (r : List Int) (w : World) (hr0 : Kd.C (Kd.int .i64) w A0 l0.length l0) (hc0 : l0.length ≤ c0) (hr1 : Kd.C (Kd.int .i64) w A1 l1.length l1) (hc1 : l1.length ≤ c1) (h : impl_limbs_mul.f k l0 l1 = some r) :
    Calls Try.prog 85 #[.slice A0 l0.length c0, .slice A1 l1.length c1] w fun e w' => ∃ v0_ : Value, e = .returned (v0_) ∧ Kd.V (Kd.int .i64) 3 w' w.heap.size (fun k_ => (w.heap.size ≤ k_)) v0_ r ∧ Below w.heap.size w w' := by
  have HR0 := Aside0.mk hr0
  have HC0 := Aside0.mk hc0
  clear hr0 hc0
  have HR1 := Aside0.mk hr1
  have HC1 := Aside0.mk hc1
  clear hr1 hc1
  have HB := Aside0.mk (Below.refl w.heap.size w)
  have H : (if 0 ≤ (wrap64 ((wrap64 ((l0.length : Int) + (l1.length : Int))) + 1)) then (if (wrap64 ((wrap64 ((l0.length : Int) + (l1.length : Int))) + 1) : Int).toNat ≤ 35184372088832 then (impl_limbs_mul.l0 k l1 (List.replicate (wrap64 ((wrap64 ((l0.length : Int) + (l1.length : Int))) + 1) : Int).toNat 0) l0 (l0.length : Int) 0) else (none)) else (none)) = some r := h
  clear h
  obtain ⟨ji3, hji3⟩ : ∃ j_ : Int, (wrap64 ((wrap64 ((l0.length : Int) + (l1.length : Int))) + 1)) = j_ := ⟨_, rfl⟩
  replace H : (if 0 ≤ (ji3) then (if (ji3 : Int).toNat ≤ 35184372088832 then (impl_limbs_mul.l0 k l1 (List.replicate (ji3 : Int).toNat 0) l0 (l0.length : Int) 0) else (none)) else (none)) = some r := by first | (rw [hji3] at H; exact H) | (simp only [hji3] at H ⊢; exact H)
  have hji3w : (IntKind.i64.wrap ((wrap64 ((l0.length : Int) + (l1.length : Int))) + 1)) = ji3 := (i64_w _).trans hji3
  by_cases c4 : 0 ≤ (ji3)
  · rw [if_pos c4] at H
    have c4b0 := eq_true c4
    have c4b1 : decide (0 ≤ (ji3)) = true := decide_eq_true c4
    clear c4
    by_cases c5 : (ji3 : Int).toNat ≤ 35184372088832
    · rw [if_pos c5] at H
      have c5b0 := eq_true c5
      have c5b1 : decide ((ji3 : Int).toNat ≤ 35184372088832) = true := decide_eq_true c5
      clear c5
      obtain ⟨y253, hy253⟩ : ∃ y_ : List Int, y_ = (List.replicate (ji3 : Int).toNat 0) := ⟨_, rfl⟩
      replace H : (impl_limbs_mul.l0 k l1 y253 l0 (l0.length : Int) 0) = some r := by first | (rw [hy253]; with_reducible exact H) | (have H2_ := (Option.bind_some _ _).symm.trans H; rw [hy253]; with_reducible exact H2_) | (have H2_ := (Option.bind_some _ _).symm.trans H; with_reducible exact H2_) | with_reducible exact H | (rw [hy253]; exact H) | exact H
      have Ny253 := Aside0.mk hy253
      clear hy253
      have H' := Aside0.mk H
      clear H
      go_enter Try.func85, Try.ntmps85
      go_wp2_with (first | ((with_reducible refine gate_dst (N := 18) rfl ?_); refine Kd.R_make (Kd.int .i64) _ 3 rfl (N := 18) rfl 54 _ _ rfl ji3 rfl rfl Try.underlying54 (.int .i64 0) 8 info3 rfl (by decide) (by omega) 0 (ok := fun _ => True) (okp := fun _ => True) rfl (fun _ hk => hk) trivial (of_decide_eq_true (by first | (with_reducible assumption) | assumption)) (Nat.le_trans (Nat.mul_le_mul_right _ (of_decide_eq_true (by first | (with_reducible assumption) | assumption) : ji3.toNat ≤ 35184372088832)) (by omega)) (Below.refl _ _) (Nat.le_refl _) ?_; intro v254 w6 ho7 hb hg_ hnew_; clear hg_ hnew_; (first | rw [← Ny253.out] at ho7 | (simp only [Int.reduceToNat] at ho7; rw [← Ny253.out] at ho7)); have n0_ := Aside0.mk (Kd.R_lower (Kd.R_newM (M := fun k_ => (w.heap.size ≤ k_)) ho7 (below_size zb) (fun k_ h_ => h_)) (below_size zb)); have n1_ := Aside0.mk (below_step zb hb); clear HB; have HO255 := n0_; have HB := n1_; clear n0_ n1_; clear hb ho7))
      go_loopg [21] k (fun kq v21 w' => ∃ (x5_1 : List Int) (x21_1 : Int), v21 = .int .i64 x21_1 ∧ Aside0 (impl_limbs_mul.l0 kq l1 x5_1 l0 (l0.length : Int) x21_1 = some r) ∧ Aside0 (kq ≤ k) ∧ Aside0 (Kd.R (Kd.int .i64) 3 w' w.heap.size (fun k_ => (w.heap.size ≤ k_)) v254 x5_1) ∧ Aside0 (Below w.heap.size w w'))
      case atStart => exact ⟨(y253), (0), (by first | rfl | (simp; done) | (simp [*]; done)), H', ⟨Nat.le_refl _⟩, ⟨by (with_reducible repeat (first | apply Kd.R_alloc | apply Kd.R_drewN | apply Kd.R_drew)); exact Kd.R_mono HO255.out (fun _ hk => hk.1)⟩, ⟨zb⟩⟩
      case round =>
        clear H'
        try clear c1
        try clear p2
        try clear c4
        try clear c4b0
        try clear c4b1
        try clear c5
        try clear c5b0
        try clear c5b1
        try clear p6
        obtain ⟨x5_1, x21_1, rfl, HA, HK1, HO_5, HB⟩ := hrel
        cases gk with
        | zero => exact absurd HA.out (by simp [impl_limbs_mul.l0])
        | succ k1 =>
          have H := HA.out
          clear HA
          simp only [impl_limbs_mul.l0] at H
          by_cases c8 : x21_1 < (l0.length : Int)
          · rw [if_pos c8] at H
            have c8b0 : decide (x21_1 < (l0.length : Int)) = true := decide_eq_true c8
            clear c8
            by_cases c9 : 0 ≤ x21_1
            · rw [if_pos c9] at H
              have c9b0 : decide (0 ≤ x21_1) = true := decide_eq_true c9
              clear c9
              by_cases c10 : x21_1 < (l0.length : Int)
              · rw [if_pos c10] at H
                have c10b0 : decide (x21_1 < (l0.length : Int)) = true := decide_eq_true c10
                clear c10
                have H' := Aside0.mk H
                clear H
                have p259 : 0 ≤ (x21_1 : Int) := of_decide_eq_true (by first | (with_reducible assumption) | assumption)
                have q259 : x21_1 < (l0.length : Int) := of_decide_eq_true (by first | (with_reducible assumption) | assumption)
                obtain ⟨ad259, e259, hx259_0⟩ := Kd.at_int HR0.out x21_1 p259 q259
                cases e259
                replace hx259_0 := (HB.out.cell (World.block_lt_of_cell? w _ hx259_0)).trans hx259_0
                replace p259 := eq_true p259
                replace q259 := eq_true q259
                go_wp2
                go_loopg [8, 28] k1 (fun kq v8 v28 w' => ∃ (x5_2 : List Int) (x8_2 : Int) (x28_2 : Int), v8 = .int .i64 x8_2 ∧ v28 = .int .i64 x28_2 ∧ Aside0 (impl_limbs_mul.l1 kq l1 x5_2 x21_1 (rd l0 x21_1) x8_2 l0 (l0.length : Int) x21_1 l1 (l1.length : Int) x28_2 = some r) ∧ Aside0 (kq ≤ k1) ∧ Aside0 (Kd.R (Kd.int .i64) 3 w' w.heap.size (fun k_ => (w.heap.size ≤ k_)) v254 x5_2) ∧ Aside0 (Below w.heap.size w w'))
                case atStart => exact ⟨(x5_1), (0), (0), (by first | rfl | (simp; done) | (simp [*]; done)), (by first | rfl | (simp; done) | (simp [*]; done)), H', ⟨Nat.le_refl _⟩, ⟨by (with_reducible repeat (first | apply Kd.R_alloc | apply Kd.R_drewN | apply Kd.R_drew)); exact HO_5.out⟩, ⟨zb⟩⟩
                case round =>
                  clear H'
                  try clear c1
                  try clear p2
                  try clear q2
                  try clear hx2
                  try clear c4
                  try clear c4b0
                  try clear c4b1
                  try clear c5
                  try clear c5b0
                  try clear c5b1
                  try clear p6
                  try clear c8
                  try clear c8b0
                  try clear c9
                  try clear c9b0
                  try clear c10
                  try clear c10b0
                  try clear hx259_0
                  try clear p2
                  try clear p259
                  try clear p6
                  try clear q259
                  obtain ⟨x5_2, x8_2, x28_2, rfl, rfl, HA, HK2, HO_5, HB⟩ := hrel
                  cases gk with
                  | zero => exact absurd HA.out (by simp [impl_limbs_mul.l1])
                  | succ k2 =>
                    have H := HA.out
                    clear HA
                    simp only [impl_limbs_mul.l1] at H
                    by_cases c11 : x28_2 < (l1.length : Int)
                    · rw [if_pos c11] at H
                      have c11b0 : decide (x28_2 < (l1.length : Int)) = true := decide_eq_true c11
                      clear c11
                      by_cases c12 : 0 ≤ x28_2
                      · rw [if_pos c12] at H
                        have c12b0 : decide (0 ≤ x28_2) = true := decide_eq_true c12
                        clear c12
                        by_cases c13 : x28_2 < (l1.length : Int)
                        · rw [if_pos c13] at H
                          have c13b0 : decide (x28_2 < (l1.length : Int)) = true := decide_eq_true c13
                          clear c13
                          obtain ⟨ji14, hji14⟩ : ∃ j_ : Int, (wrap64 (x21_1 + x28_2)) = j_ := ⟨_, rfl⟩
                          replace H : (if 0 ≤ (ji14) then (if (ji14) < (x5_2.length : Int) then (impl_limbs_mul.l1 k2 l1 (x5_2.set ((ji14) : Int).toNat (Int.tmod (wrap64 ((wrap64 ((rd x5_2 (ji14)) + (wrap64 ((rd l0 x21_1) * (rd l1 x28_2))))) + x8_2)) 10000)) x21_1 (rd l0 x21_1) (wrap64 (Int.tdiv (wrap64 ((wrap64 ((rd x5_2 (ji14)) + (wrap64 ((rd l0 x21_1) * (rd l1 x28_2))))) + x8_2)) 10000)) l0 (l0.length : Int) x21_1 l1 (l1.length : Int) (wrap64 (x28_2 + 1))) else (none)) else (none)) = some r := by first | (rw [hji14] at H; exact H) | (simp only [hji14] at H ⊢; exact H)
                          have hji14w : (IntKind.i64.wrap (x21_1 + x28_2)) = ji14 := (i64_w _).trans hji14
                          by_cases c15 : 0 ≤ (ji14)
                          · rw [if_pos c15] at H
                            have c15b0 : decide (0 ≤ (ji14)) = true := decide_eq_true c15
                            clear c15
                            by_cases c16 : (ji14) < (x5_2.length : Int)
                            · rw [if_pos c16] at H
                              have c16b0 : decide ((ji14) < (x5_2.length : Int)) = true := decide_eq_true c16
                              clear c16
                              obtain ⟨y262, hy262⟩ : ∃ y_ : List Int, y_ = (x5_2.set ((ji14) : Int).toNat (Int.tmod (wrap64 ((wrap64 ((rd x5_2 (ji14)) + (wrap64 ((rd l0 x21_1) * (rd l1 x28_2))))) + x8_2)) 10000)) := ⟨_, rfl⟩
                              replace H : (impl_limbs_mul.l1 k2 l1 y262 x21_1 (rd l0 x21_1) (wrap64 (Int.tdiv (wrap64 ((wrap64 ((rd x5_2 (ji14)) + (wrap64 ((rd l0 x21_1) * (rd l1 x28_2))))) + x8_2)) 10000)) l0 (l0.length : Int) x21_1 l1 (l1.length : Int) (wrap64 (x28_2 + 1))) = some r := by first | (rw [hy262]; with_reducible exact H) | (have H2_ := (Option.bind_some _ _).symm.trans H; rw [hy262]; with_reducible exact H2_) | (have H2_ := (Option.bind_some _ _).symm.trans H; with_reducible exact H2_) | with_reducible exact H | (rw [hy262]; exact H) | exact H
                              have Ny262 := Aside0.mk hy262
                              clear hy262
                              have H' := Aside0.mk H
                              clear H
                              have p260 : 0 ≤ (x28_2 : Int) := of_decide_eq_true (by first | (with_reducible assumption) | assumption)
                              have q260 : x28_2 < (l1.length : Int) := of_decide_eq_true (by first | (with_reducible assumption) | assumption)
                              obtain ⟨ad260, e260, hx260_0⟩ := Kd.at_int HR1.out x28_2 p260 q260
                              cases e260
                              replace hx260_0 := (HB.out.cell (World.block_lt_of_cell? w _ hx260_0)).trans hx260_0
                              replace p260 := eq_true p260
                              replace q260 := eq_true q260
                              obtain ⟨Ao18, co18, eo18⟩ := Kd.R_slice HO_5.out
                              subst eo18
                              have p261 : 0 ≤ ((ji14) : Int) := of_decide_eq_true (by first | (with_reducible assumption) | assumption)
                              have q261 : (ji14) < (x5_2.length : Int) := of_decide_eq_true (by first | (with_reducible assumption) | assumption)
                              obtain ⟨ad261, e261, hx261_0⟩ := Kd.at_int (Kd.R_reads' HO_5.out).2.2 (ji14) p261 q261
                              cases e261
                              replace p261 := eq_true p261
                              replace q261 := eq_true q261
                              have p17 : 0 ≤ ((ji14) : Int) := of_decide_eq_true (by first | (with_reducible assumption) | assumption)
                              have q17 : ((ji14) : Int) < ((x5_2.length : Int) : Int) := of_decide_eq_true (by first | (with_reducible assumption) | assumption)
                              obtain ⟨go17, co17, eo17, gb17, gl17, cl17, HG17⟩ := Kd.R_form HO_5.out (by omega)
                              (first | cases eo17 | (injection eo17 with ea_ en_ ec_; (first | subst ea_ | (injection ea_ with ea_; subst ea_)); subst ec_; clear en_))
                              have GB17 := Aside0.mk gb17
                              have GG17 := Aside0.mk HG17
                              clear gb17 gl17 HG17
                              (first | simp only [add_plain] at hx261_0 | skip)
                              obtain ⟨hx17_0, hf17_0⟩ := Kd.R_celln 0 HO_5.out ((ji14) : Int) p17 q17
                              replace p17 := eq_true p17
                              replace q17 := eq_true q17
                              have HP19 := Kd.R_putg HO_5.out ((ji14) : Int) (Int.tmod (wrap64 ((wrap64 ((rd x5_2 (ji14)) + (wrap64 ((rd l0 x21_1) * (rd l1 x28_2))))) + x8_2)) 10000)
                              go_wp2_with (first | ((with_reducible refine gate_store (t := 3) (p := 53) rfl ?_); refine store_event (t := 3) (p := 53) (v := ?vo_w20) (w1 := (wr.setCell ⟨go17, ((ji14) : Int).toNat, none⟩ (.int .i64 (Int.tmod (wrap64 ((wrap64 ((rd x5_2 (ji14)) + (wrap64 ((rd l0 x21_1) * (rd l1 x28_2))))) + x8_2)) 10000)))) ?hg ?ho ?hn ?hr ?_; (case ho => rfl); (case hg => rfl); (case hn => rfl); (case hr => first | (go_simp; done) | (go_simp; rfl)); intro w20 hw; have hg : wr.grownBy w20 (some go17) := (by rw [hw]; exact HP19.2); have hp_ : Kd.R (Kd.int .i64) 3 w20 w.heap.size (fun k_ => (w.heap.size ≤ k_)) (.slice (some ⟨go17, 0, none⟩) x5_2.length co18) y262 := (by rw [hw, Ny262.out]; exact HP19.1); clear HP19; have n0_ := Aside0.mk (hp_); have n1_ := Aside0.mk ((by rw [hw]; exact below_set (HB.out) GB17.out : Below w.heap.size w w20)); clear HO_5; clear HB; have HO_5 := n0_; have HB := n1_; clear n0_ n1_; clear hg hw hp_))
                              go_roundg k2
                              case measure => have := HK1.out; have := HK2.out; omega
                              case rel => exact ⟨(y262), (wrap64 (Int.tdiv (wrap64 ((wrap64 ((rd x5_2 (ji14)) + (wrap64 ((rd l0 x21_1) * (rd l1 x28_2))))) + x8_2)) 10000)), (wrap64 (x28_2 + 1)), (by first | rfl | (simp; done) | (simp only [← hji14] <;> (first | rfl | simp)) | (simp [*]; done)), (by first | rfl | (simp; done) | (simp [*]; done)), H', ⟨by have := HK1.out; have := HK2.out; omega⟩, ⟨by (with_reducible repeat (first | apply Kd.R_alloc | apply Kd.R_drewN | apply Kd.R_drew)); exact HO_5.out⟩, ⟨zb⟩⟩
                            · rw [if_neg c16] at H
                              exact absurd H (by simp)
                          · rw [if_neg c15] at H
                            exact absurd H (by simp)
                        · rw [if_neg c13] at H
                          exact absurd H (by simp)
                      · rw [if_neg c12] at H
                        exact absurd H (by simp)
                    · rw [if_neg c11] at H
                      have c11b0 : decide (x28_2 < (l1.length : Int)) = false := decide_eq_false c11
                      clear c11
                      obtain ⟨ji21, hji21⟩ : ∃ j_ : Int, (wrap64 (x21_1 + (l1.length : Int))) = j_ := ⟨_, rfl⟩
                      replace H : (if 0 ≤ (ji21) then (if (ji21) < (x5_2.length : Int) then (impl_limbs_mul.l0 k2 l1 (x5_2.set ((ji21) : Int).toNat (wrap64 ((rd x5_2 (ji21)) + x8_2))) l0 (l0.length : Int) (wrap64 (x21_1 + 1))) else (none)) else (none)) = some r := by first | (rw [hji21] at H; exact H) | (simp only [hji21] at H ⊢; exact H)
                      have hji21w : (IntKind.i64.wrap (x21_1 + (l1.length : Int))) = ji21 := (i64_w _).trans hji21
                      by_cases c22 : 0 ≤ (ji21)
                      · rw [if_pos c22] at H
                        have c22b0 : decide (0 ≤ (ji21)) = true := decide_eq_true c22
                        clear c22
                        by_cases c23 : (ji21) < (x5_2.length : Int)
                        · rw [if_pos c23] at H
                          have c23b0 : decide ((ji21) < (x5_2.length : Int)) = true := decide_eq_true c23
                          clear c23
                          obtain ⟨y264, hy264⟩ : ∃ y_ : List Int, y_ = (x5_2.set ((ji21) : Int).toNat (wrap64 ((rd x5_2 (ji21)) + x8_2))) := ⟨_, rfl⟩
                          replace H : (impl_limbs_mul.l0 k2 l1 y264 l0 (l0.length : Int) (wrap64 (x21_1 + 1))) = some r := by first | (rw [hy264]; with_reducible exact H) | (have H2_ := (Option.bind_some _ _).symm.trans H; rw [hy264]; with_reducible exact H2_) | (have H2_ := (Option.bind_some _ _).symm.trans H; with_reducible exact H2_) | with_reducible exact H | (rw [hy264]; exact H) | exact H
                          have Ny264 := Aside0.mk hy264
                          clear hy264
                          have H' := Aside0.mk H
                          clear H
                          obtain ⟨Ao25, co25, eo25⟩ := Kd.R_slice HO_5.out
                          subst eo25
                          have p263 : 0 ≤ ((ji21) : Int) := of_decide_eq_true (by first | (with_reducible assumption) | assumption)
                          have q263 : (ji21) < (x5_2.length : Int) := of_decide_eq_true (by first | (with_reducible assumption) | assumption)
                          obtain ⟨ad263, e263, hx263_0⟩ := Kd.at_int (Kd.R_reads' HO_5.out).2.2 (ji21) p263 q263
                          cases e263
                          replace p263 := eq_true p263
                          replace q263 := eq_true q263
                          have p24 : 0 ≤ ((ji21) : Int) := of_decide_eq_true (by first | (with_reducible assumption) | assumption)
                          have q24 : ((ji21) : Int) < ((x5_2.length : Int) : Int) := of_decide_eq_true (by first | (with_reducible assumption) | assumption)
                          obtain ⟨go24, co24, eo24, gb24, gl24, cl24, HG24⟩ := Kd.R_form HO_5.out (by omega)
                          (first | cases eo24 | (injection eo24 with ea_ en_ ec_; (first | subst ea_ | (injection ea_ with ea_; subst ea_)); subst ec_; clear en_))
                          have GB24 := Aside0.mk gb24
                          have GG24 := Aside0.mk HG24
                          clear gb24 gl24 HG24
                          (first | simp only [add_plain] at hx263_0 | skip)
                          obtain ⟨hx24_0, hf24_0⟩ := Kd.R_celln 0 HO_5.out ((ji21) : Int) p24 q24
                          replace p24 := eq_true p24
                          replace q24 := eq_true q24
                          have HP26 := Kd.R_putg HO_5.out ((ji21) : Int) (wrap64 ((rd x5_2 (ji21)) + x8_2))
                          go_wp2_with (first | ((with_reducible refine gate_store (t := 3) (p := 64) rfl ?_); refine store_event (t := 3) (p := 64) (v := ?vo_w27) (w1 := (wr.setCell ⟨go24, ((ji21) : Int).toNat, none⟩ (.int .i64 (wrap64 ((rd x5_2 (ji21)) + x8_2))))) ?hg ?ho ?hn ?hr ?_; (case ho => rfl); (case hg => rfl); (case hn => rfl); (case hr => first | (go_simp; done) | (go_simp; rfl)); intro w27 hw; have hg : wr.grownBy w27 (some go24) := (by rw [hw]; exact HP26.2); have hp_ : Kd.R (Kd.int .i64) 3 w27 w.heap.size (fun k_ => (w.heap.size ≤ k_)) (.slice (some ⟨go24, 0, none⟩) x5_2.length co25) y264 := (by rw [hw, Ny264.out]; exact HP26.1); clear HP26; have n0_ := Aside0.mk (hp_); have n1_ := Aside0.mk ((by rw [hw]; exact below_set (HB.out) GB24.out : Below w.heap.size w w27)); clear HO_5; clear HB; have HO_5 := n0_; have HB := n1_; clear n0_ n1_; clear hg hw hp_))
                          go_roundg k2
                          case measure => have := HK1.out; have := HK2.out; omega
                          case rel => exact ⟨(y264), (wrap64 (x21_1 + 1)), (by first | rfl | (simp; done) | (simp [*]; done)), H', ⟨by have := HK1.out; have := HK2.out; omega⟩, ⟨by (with_reducible repeat (first | apply Kd.R_alloc | apply Kd.R_drewN | apply Kd.R_drew)); exact HO_5.out⟩, ⟨zb⟩⟩
                        · rw [if_neg c23] at H
                          exact absurd H (by simp)
                      · rw [if_neg c22] at H
                        exact absurd H (by simp)
              · rw [if_neg c10] at H
                exact absurd H (by simp)
            · rw [if_neg c9] at H
              exact absurd H (by simp)
          · rw [if_neg c8] at H
            have c8b0 : decide (x21_1 < (l0.length : Int)) = false := decide_eq_false c8
            clear c8
            replace H := Option.bind_eq_some_iff.mp H
            obtain ⟨t256, A280, H⟩ := H
            replace H : (some t256) = some r := H
            have A28 := Aside0.mk A280
            clear A280
            obtain rfl := Option.some.inj H
            obtain ⟨Ao29, co29, eo29⟩ := Kd.R_slice HO_5.out
            subst eo29
            go_wp2_with (first | ((with_reducible refine gate_callee (f := 82) rfl ?_); refine goesL_ (some 67) rfl rfl Try.func82 (by kernel_rfl) rfl #[.slice Ao29 x5_1.length co29] rfl za ?_; (with_reducible refine (impl_limbs_trim.calls k1 (fun k_ => some k_ = (.slice Ao29 x5_1.length co29 : Value).ownBlock) _ _ x5_1 t256 _ ?side1 A28.out).mono ?_); (case side1 => exact Kd.R_V (Kd.R_tight rfl (HO_5.out))); rintro e w30 ⟨v257, rfl, ho0, hb⟩; refine ⟨_, rfl, ?_⟩; have n0_ := Aside0.mk (Kd.R_below (zR HO_5.out) hb); have n1_ := Aside0.mk (Kd.V_lower (Kd.V_mono (ok' := fun k_ => (w.heap.size ≤ k_)) ho0 (fun k_ hk_ => Or.elim hk_ (fun hs_ => ((HO_5.out).1 k_ hs_.symm)) (fun hn_ => (Nat.le_trans (below_size zb) hn_)))) (below_size zb)); have n2_ := Aside0.mk (below_step zb hb); clear HO_5; clear HB; have HO_5 := n0_; have HO258 := n1_; have HB := n2_; clear n0_ n1_ n2_; (try clear hb); (try clear hb2); (try clear hk); (try clear hi); (try clear ho0)))
            go_ret
            exact ⟨_, by first | rfl | (simp [errW_none, errW_some] <;> rfl) | (simp only [← hji3]; first | rfl | (simp [errW_none, errW_some] <;> rfl)) | (simp [*, errW_none, errW_some] <;> rfl), by (with_reducible repeat (first | apply Kd.V_alloc | apply Kd.V_drewN | apply Kd.V_drew)); exact HO258.out, zb⟩
    · rw [if_neg c5] at H
      exact absurd H (by simp)
  · rw [if_neg c4] at H
    exact absurd H (by simp)
def impl_ten.l0 : Nat → List Int → Int → Int → Option (List Int)
  | 0, _, _, _ => none
  | k + 1, x3, x5, x6 => if x6 < x5 then ((impl_limbs_mul.f k x3 (([10] : List Int))).bind fun t271 => (impl_ten.l0 k t271 x5 (wrap64 (x6 + 1)))) else (some x3)
def impl_ten.f (k : Nat) (a0 : Int) : Option (List Int) := impl_ten.l0 k (([1] : List Int)) a0 0
def impl_BigTen.f (k : Nat) (a0 : Int) : Option (Bool × List Int × Bool) := (impl_in.f a0 0 63).bind fun t275 => (if t275 = true then ((impl_ten.f k a0).bind fun t276 => ((impl_big.f k false t276).bind fun bt279 => (some (bt279.1, bt279.2.1, bt279.2.2)))) else (some (false, ([] : List Int), false)))
def impl_signed_mul.f (k : Nat) (a0_0 : Bool) (l0_1 : List Int) (a1_0 : Bool) (l1_1 : List Int) : Option (Bool × List Int) := (impl_limbs_mul.f k l0_1 l1_1).bind fun t405 => (some ((a0_0 != a1_0), t405))
def impl_BigMul.f (k : Nat) (a0_0 : Bool) (l0_1 : List Int) (a1_0 : Bool) (l1_1 : List Int) : Option (Bool × List Int × Bool) := (impl_bigs.f a0_0 l0_1 a1_0 l1_1).bind fun t411 => (if t411 = true then ((impl_Big_signed.f a0_0 l0_1).bind fun bt412 => ((impl_Big_signed.f a1_0 l1_1).bind fun bt416 => ((impl_signed_mul.f k bt412.1 bt412.2 bt416.1 bt416.2).bind fun bt420 => ((impl_big.f k bt420.1 bt420.2).bind fun bt425 => (some (bt425.1, bt425.2.1, bt425.2.2)))))) else (some (false, ([] : List Int), false)))
end Go.Proofs.Ytdemeoncjcbojaa.Pr
end
section
namespace Go.Proofs.Ytdemeoncjcbojaa.Pr
open Go.RowKit Go.Proofs.YtdemeoncjcbojaaW.PrintWords Go.Proofs.YtdemeoncjcbojaaW.PrintLast Go.Proofs.Ytdemeoncjcbojaa.Ext Go.Proofs.YtdemeoncjcbojaaW.PrintMore
attribute [local go_sem] max2_int min2_int max_two min_two max_three min_three max_four min_four
set_option linter.unusedVariables false
set_option linter.unusedSimpArgs false
def spec_l1Open.f (l0 : List Int) : Option (List Int × Int) := if (l0.length : Int) > 2000 then (if 2000 ≤ (l0.length : Int) then (some (l0.take 2000, 0)) else (none)) else (some (l0, 0))
def spec_l1Rd_pick.j0 : Nat → Int → Bool → List Int → Int → Option (Int × Int)
  | 0, _, _, _, _ => none
  | k + 1, x1, x24, x1000, x1001 => if x24 = true then (some (0, x1001)) else (if (wrap64 (x1001 - 1)) < (x1000.length : Int) then (if 0 ≤ (wrap64 (x1001 - 1)) then (if x1 = 0 then (none) else (some (Int.tmod (wrap64 (rd x1000 (wrap64 (x1001 - 1)))) x1, x1001))) else (none)) else (if (x1000.length : Int) = 0 then (none) else (if 0 ≤ (Int.tmod (wrap64 (x1001 - 1)) (x1000.length : Int)) then (if (Int.tmod (wrap64 (x1001 - 1)) (x1000.length : Int)) < (x1000.length : Int) then (if 0 ≤ (Int.tmod (wrap64 ((wrap64 ((wrap64 (x1001 - 1)) * 7)) + 3)) (x1000.length : Int)) then (if (Int.tmod (wrap64 ((wrap64 ((wrap64 (x1001 - 1)) * 7)) + 3)) (x1000.length : Int)) < (x1000.length : Int) then (if x1 = 0 then (none) else (some (Int.tmod (Go.bits .xor .i64 (wrap64 ((wrap64 ((wrap64 ((wrap64 ((wrap64 (rd x1000 (Int.tmod (wrap64 (x1001 - 1)) (x1000.length : Int)))) * 131)) + (wrap64 ((wrap64 (rd x1000 (Int.tmod (wrap64 ((wrap64 ((wrap64 (x1001 - 1)) * 7)) + 3)) (x1000.length : Int)))) * 1117)))) + (wrap64 ((wrap64 (x1001 - 1)) * 29)))) + (wrap64 ((wrap64 (Int.tdiv (wrap64 (x1001 - 1)) (x1000.length : Int))) * 53)))) (wrap64 (Int.tdiv (wrap64 ((wrap64 ((wrap64 ((wrap64 ((wrap64 (rd x1000 (Int.tmod (wrap64 (x1001 - 1)) (x1000.length : Int)))) * 131)) + (wrap64 ((wrap64 (rd x1000 (Int.tmod (wrap64 ((wrap64 ((wrap64 (x1001 - 1)) * 7)) + 3)) (x1000.length : Int)))) * 1117)))) + (wrap64 ((wrap64 (x1001 - 1)) * 29)))) + (wrap64 ((wrap64 (Int.tdiv (wrap64 (x1001 - 1)) (x1000.length : Int))) * 53)))) 64))) x1, x1001))) else (none)) else (none)) else (none)) else (none))))
def spec_l1Rd_pick.f (k : Nat) (s0_0 : List Int) (s0_1 : Int) (a1 : Int) : Option (Int × Int) := if a1 < 1 then (spec_l1Rd_pick.j0 k a1 true s0_0 (wrap64 (s0_1 + 1))) else (spec_l1Rd_pick.j0 k a1 ((s0_0.length : Int) == 0) s0_0 (wrap64 (s0_1 + 1)))
def spec_l1Rd_one.f (k : Nat) (s0_0 : List Int) (s0_1 : Int) (l1 : List Int) : Option (Int × Int) := (spec_l1Rd_pick.f k s0_0 s0_1 (l1.length : Int)).bind fun bt303 => (if 0 ≤ bt303.1 then (if bt303.1 < (l1.length : Int) then (some (rd l1 bt303.1, bt303.2)) else (none)) else (none))
def spec_DrawBigOf.f (k : Nat) (l0 : List Int) : Option (Int) := (spec_l1Open.f l0).bind fun bt306 => ((spec_l1Rd_pick.f k bt306.1 bt306.2 256).bind fun bt309 => ((spec_l1Rd_pick.f k bt306.1 bt309.2 256).bind fun bt311 => ((spec_l1Rd_pick.f k bt306.1 bt311.2 256).bind fun bt313 => ((spec_l1Rd_pick.f k bt306.1 bt313.2 256).bind fun bt315 => ((spec_l1Rd_pick.f k bt306.1 bt315.2 1000).bind fun bt317 => ((spec_l1Rd_one.f k bt306.1 bt317.2 (([0, 1, (-1), 9999, 10000, (-10000), 99999999, 9223372036854775807, (-9223372036854775808), wrap64 ((wrap64 ((wrap64 ((wrap64 (bt309.1 * 16777216)) + (wrap64 (bt311.1 * 65536)))) + (wrap64 (bt313.1 * 256)))) + bt315.1), wrap64 (-(wrap64 ((wrap64 ((wrap64 ((wrap64 (bt309.1 * 16777216)) + (wrap64 (bt311.1 * 65536)))) + (wrap64 (bt313.1 * 256)))) + bt315.1))), wrap64 ((wrap64 ((wrap64 ((wrap64 ((wrap64 (bt309.1 * 16777216)) + (wrap64 (bt311.1 * 65536)))) + (wrap64 (bt313.1 * 256)))) + bt315.1)) * 1000000), bt317.1] : List Int))).bind fun bt322 => (some bt322.1)))))))
end Go.Proofs.Ytdemeoncjcbojaa.Pr
end
section
namespace Go.Proofs.Ytdemeoncjcbojaa.Pr
open Go.RowKit Go.Proofs.YtdemeoncjcbojaaW.PrintWords Go.Proofs.YtdemeoncjcbojaaW.PrintLast Go.Proofs.Ytdemeoncjcbojaa.Ext Go.Proofs.YtdemeoncjcbojaaW.PrintMore
attribute [local go_sem] max2_int min2_int max_two min_two max_three min_three max_four min_four
set_option linter.unusedVariables false
set_option linter.unusedSimpArgs false
def spec_l14Figs.l0 : Nat → Int → ByteArray → List Int → Int → Option (ByteArray × Int)
  | 0, _, _, _, _ => none
  | k + 1, x1, x5, x1000, x1001 => if (x5.size : Int) < x1 then ((spec_l1Rd_pick.f k x1000 x1001 10).bind fun bt634 => ((spec_l1Rd_one.f k x1000 bt634.2 (([0, 0, 9, 9, 5, 1, bt634.1] : List Int))).bind fun bt639 => ((some (([(wrap64 (48 + bt639.1)) % 256] : List Int) : List Int)).bind fun y641 => (if x5.size + (strOfNums y641).size ≤ 9223372036854775807 then (spec_l14Figs.l0 k x1 (x5 ++ (strOfNums y641)) x1000 bt639.2) else (none))))) else (some (x5, x1001))
def spec_l14Figs.f (k : Nat) (s0_0 : List Int) (s0_1 : Int) (a1 : Int) : Option (ByteArray × Int) := if a1 < 1 then (some ((⟨#[48]⟩ : ByteArray), s0_1)) else ((spec_l1Rd_pick.f k s0_0 s0_1 9).bind fun bt629 => (spec_l14Figs.l0 k a1 (strOfNums (([(wrap64 (49 + bt629.1)) % 256] : List Int))) s0_0 bt629.2))
def spec_l1Many.l0 : Nat → ByteArray → Int → ByteArray → Option (ByteArray)
  | 0, _, _, _ => none
  | k + 1, x0, x1, x5 => if x1 > 0 then (if x5.size + x0.size ≤ 9223372036854775807 then (spec_l1Many.l0 k x0 (wrap64 (x1 - 1)) (x5 ++ x0)) else (none)) else (some x5)
def spec_l1Many.f (k : Nat) (a0 : ByteArray) (a1 : Int) : Option (ByteArray) := spec_l1Many.l0 k a0 a1 (⟨#[]⟩ : ByteArray)
mutual
def spec_l1FromFigures.l0 : Nat → ByteArray → List Int → Option (List Int)
  | 0, _, _ => none
  | k + 1, x0, x3 => if (x0.size : Int) > 0 then (if (wrap64 ((x0.size : Int) - 4)) < 0 then (spec_l1FromFigures.j1 k x0 x3 0) else (spec_l1FromFigures.j1 k x0 x3 (wrap64 ((x0.size : Int) - 4)))) else ((spec_l1Trim.f k x3).bind fun t647 => (some t647))
def spec_l1FromFigures.j1 : Nat → ByteArray → List Int → Int → Option (List Int)
  | 0, _, _, _ => none
  | k + 1, x0, x3, x4 => spec_l1FromFigures.l1 k x0 x3 x4 0 x4
def spec_l1FromFigures.l1 : Nat → ByteArray → List Int → Int → Int → Int → Option (List Int)
  | 0, _, _, _, _, _ => none
  | k + 1, x0, x3, x4, x5, x6 => if x6 < (x0.size : Int) then (if 0 ≤ x6 then (spec_l1FromFigures.l1 k x0 x3 x4 (wrap64 ((wrap64 (x5 * 10)) + (((bt x0 x6) - 48) % 256))) (wrap64 (x6 + 1))) else (none)) else (if x3.length < 17592186044416 then (if 0 ≤ x4 then (if x4 ≤ (x0.size : Int) then (spec_l1FromFigures.l0 k (x0.extract 0 (x4 : Int).toNat) (x3 ++ [x5])) else (none)) else (none)) else (none))
end
def spec_l1FromFigures.f (k : Nat) (a0 : ByteArray) : Option (List Int) := spec_l1FromFigures.l0 k a0 (([] : List Int))
mutual
def spec_l14Big.j0 : Nat → Int → List Int → Int → Option (Bool × List Int × Int)
  | 0, _, _, _ => none
  | k + 1, x5, x1000, x1001 => (spec_l14Figs.f k x1000 x1001 x5).bind fun bt663 => ((spec_l1Rd_pick.f k x1000 bt663.2 6).bind fun bt665 => (if bt665.1 = 0 then ((spec_l1Many.f k (⟨#[48]⟩ : ByteArray) (wrap64 (x5 - 1))).bind fun t667 => (if 1 + t667.size ≤ 9223372036854775807 then (spec_l14Big.j1 k x5 ((⟨#[49]⟩ : ByteArray) ++ t667) x1000 bt665.2) else (none))) else (spec_l14Big.j1 k x5 bt663.1 x1000 bt665.2)))
def spec_l14Big.j1 : Nat → Int → ByteArray → List Int → Int → Option (Bool × List Int × Int)
  | 0, _, _, _, _ => none
  | k + 1, x5, x6, x1000, x1001 => (spec_l1Rd_pick.f k x1000 x1001 6).bind fun bt668 => (if bt668.1 = 0 then ((spec_l1Many.f k (⟨#[57]⟩ : ByteArray) x5).bind fun t670 => ((spec_l1Rd_pick.f k x1000 bt668.2 3).bind fun bt671 => ((spec_l1FromFigures.f k t670).bind fun t673 => ((spec_l1Big.f k (bt671.1 == 0) t673).bind fun bt676 => (some (bt676.1, bt676.2.1, bt671.2)))))) else ((spec_l1Rd_pick.f k x1000 bt668.2 3).bind fun bt682 => ((spec_l1FromFigures.f k x6).bind fun t684 => ((spec_l1Big.f k (bt682.1 == 0) t684).bind fun bt687 => (some (bt687.1, bt687.2.1, bt682.2))))))
end
def spec_l14Big.f (k : Nat) (s0_0 : List Int) (s0_1 : Int) (a1 : Int) : Option (Bool × List Int × Int) := (spec_l1Rd_pick.f k s0_0 s0_1 64).bind fun bt654 => ((spec_l1Rd_one.f k s0_0 bt654.2 (([0, 1, 1, 2, 3, 4, 5, 8, 9, 12, 17, 29, 30, 31, 33, 63, 64, wrap64 (1 + bt654.1)] : List Int))).bind fun bt659 => (if bt659.1 > a1 then ((spec_l1Rd_pick.f k s0_0 bt659.2 a1).bind fun bt661 => (spec_l14Big.j0 k (wrap64 (1 + bt661.1)) s0_0 bt661.2)) else (spec_l14Big.j0 k bt659.1 s0_0 bt659.2)))
def spec_l14AnyBig.l0 : Nat → List Int → Int → Bool → List Int → Option (Bool × List Int × Int)
  | 0, _, _, _, _ => none
  | k + 1, x1000, x1001, x700000, x700001 => if (x700001.length : Int) < 17 then (if x700001.length < 17592186044416 then (spec_l14AnyBig.l0 k x1000 x1001 x700000 (x700001 ++ [1])) else (none)) else (some (x700000, x700001, x1001))
def spec_l14AnyBig.f (k : Nat) (s0_0 : List Int) (s0_1 : Int) : Option (Bool × List Int × Int) := (spec_l14Big.f k s0_0 s0_1 64).bind fun bt694 => ((spec_l1Rd_pick.f k s0_0 bt694.2.2 30).bind fun bt700 => (if bt700.1 = 0 then (if bt694.2.1.length < 17592186044416 then (some (bt694.1, (bt694.2.1 ++ [0]), bt700.2)) else (none)) else (if bt700.1 = 1 then ((spec_l1Rd_one.f k s0_0 bt700.2 (([10000, (-1)] : List Int))).bind fun bt708 => (if bt694.2.1.length < 17592186044416 then (some (bt694.1, (bt694.2.1 ++ [bt708.1]), bt708.2)) else (none))) else (if bt700.1 = 2 then (some (true, ([] : List Int), bt700.2)) else (if bt700.1 = 3 then (spec_l14AnyBig.l0 k s0_0 bt700.2 bt694.1 bt694.2.1) else (some (bt694.1, bt694.2.1, bt700.2)))))))
end Go.Proofs.Ytdemeoncjcbojaa.Pr
end
section
namespace Go.Proofs.Ytdemeoncjcbojaa.Pr
open Go.RowKit Go.Proofs.YtdemeoncjcbojaaW.PrintWords Go.Proofs.YtdemeoncjcbojaaW.PrintLast Go.Proofs.Ytdemeoncjcbojaa.Ext Go.Proofs.YtdemeoncjcbojaaW.PrintMore
attribute [local go_sem] max2_int min2_int max_two min_two max_three min_three max_four min_four
set_option linter.unusedVariables false
set_option linter.unusedSimpArgs false
def spec_l14TwoBigs.f (k : Nat) (l0 : List Int) : Option (Bool × List Int × Bool × List Int) := (spec_l1Open.f l0).bind fun bt718 => ((spec_l14AnyBig.f k bt718.1 bt718.2).bind fun bt721 => ((spec_l14AnyBig.f k bt718.1 bt721.2.2).bind fun bt727 => ((spec_l1Rd_pick.f k bt718.1 bt727.2.2 6).bind fun bt733 => (if bt733.1 = 0 then (if bt721.1 = true then ((some (([] : List Int) : List Int)).bind fun y735 => (if y735.length + bt721.2.1.length < 17592186044416 then (some (bt721.1, bt721.2.1, false, (y735 ++ bt721.2.1))) else (none))) else ((some (([] : List Int) : List Int)).bind fun y741 => (if y741.length + bt721.2.1.length < 17592186044416 then (some (bt721.1, bt721.2.1, decide (0 < bt721.2.1.length), (y741 ++ bt721.2.1))) else (none)))) else (some (bt721.1, bt721.2.1, bt727.1, bt727.2.1))))))
def spec_DrawBigCmp.f (k : Nat) (l0 : List Int) : Option (Bool × List Int × Bool × List Int) := (spec_l14TwoBigs.f k l0).bind fun bt749 => (some (bt749.1, bt749.2.1, bt749.2.2.1, bt749.2.2.2))
def spec_DrawBigMul.f (k : Nat) (l0 : List Int) : Option (Bool × List Int × Bool × List Int) := (spec_l1Open.f l0).bind fun bt788 => ((spec_l1Rd_pick.f k bt788.1 bt788.2 3).bind fun bt791 => (if bt791.1 = 0 then ((spec_l14Big.f k bt788.1 bt791.2 64).bind fun bt793 => ((spec_l14Big.f k bt788.1 bt793.2.2 64).bind fun bt798 => (some (bt793.1, bt793.2.1, bt798.1, bt798.2.1)))) else ((spec_l14Big.f k bt788.1 bt791.2 33).bind fun bt803 => ((spec_l14Big.f k bt788.1 bt803.2.2 33).bind fun bt808 => (some (bt803.1, bt803.2.1, bt808.1, bt808.2.1))))))
def spec_DrawBigAdd.f (k : Nat) (l0 : List Int) : Option (Bool × List Int × Bool × List Int) := (spec_l14TwoBigs.f k l0).bind fun bt1218 => (some (bt1218.1, bt1218.2.1, bt1218.2.2.1, bt1218.2.2.2))
def spec_DrawBigSub.f (k : Nat) (l0 : List Int) : Option (Bool × List Int × Bool × List Int) := (spec_l14TwoBigs.f k l0).bind fun bt1266 => (some (bt1266.1, bt1266.2.1, bt1266.2.2.1, bt1266.2.2.2))
end Go.Proofs.Ytdemeoncjcbojaa.Pr
end
section
namespace Go.Proofs.Ytdemeoncjcbojaa.Pr
open Go.RowKit Go.Proofs.YtdemeoncjcbojaaW.PrintWords Go.Proofs.YtdemeoncjcbojaaW.PrintLast Go.Proofs.Ytdemeoncjcbojaa.Ext Go.Proofs.YtdemeoncjcbojaaW.PrintMore
attribute [local go_sem] max2_int min2_int max_two min_two max_three min_three max_four min_four
set_option linter.unusedVariables false
set_option linter.unusedSimpArgs false
def impl_BigSub.f (k : Nat) (a0_0 : Bool) (l0_1 : List Int) (a1_0 : Bool) (l1_1 : List Int) : Option (Bool × List Int × Bool) := (impl_bigs.f a0_0 l0_1 a1_0 l1_1).bind fun t988 => (if t988 = true then ((impl_Big_signed.f a0_0 l0_1).bind fun bt989 => ((impl_Big_signed.f a1_0 l1_1).bind fun bt993 => ((impl_signed_minus.f bt993.1 bt993.2).bind fun bt997 => ((impl_signed_add.f k bt989.1 bt989.2 bt997.1 bt997.2).bind fun bt1001 => ((impl_big.f k bt1001.1 bt1001.2).bind fun bt1006 => (some (bt1006.1, bt1006.2.1, bt1006.2.2))))))) else (some (false, ([] : List Int), false)))
end Go.Proofs.Ytdemeoncjcbojaa.Pr
end
section
namespace Go.Proofs.Ytdemeoncjcbojaa.Rng
open Go.RowKit Go.Shelf
set_option linter.unusedVariables false
set_option linter.unusedSimpArgs false
attribute [local go_sem] Oper.semAt_some
def down (zs : List Int) (len k : Nat) : List (Nat × Int) := (List.range k).map fun j => (len - 1 - j, zs[len - 1 - j]?.getD 0)
theorem down_length (zs : List Int) (len k : Nat) : (down zs len k).length = k := by simp [down]
theorem down_step (zs : List Int) {len m : Nat} (h : m < len) : down zs len (len - m) = down zs len (len - (m + 1)) ++ [(m, zs[m]?.getD 0)] := by
  unfold down
  rw [show len - m = len - (m + 1) + 1 by omega, List.range_succ, List.map_append]
  congr 1
  simp only [List.map_cons, List.map_nil]
  rw [show len - 1 - (len - (m + 1)) = m by omega]
theorem add_blk (a : Addr) (m : Nat) : (a.add m).block = a.block := by unfold Addr.add; split <;> rfl
abbrev El (zs : List Int) (len : Nat) := { x : Nat × Int // x.1 < len ∧ x.2 = zs[x.1]?.getD 0 }
def SameIn (S : Nat → Prop) (W W' : World) : Prop := ∀ p : Addr, S p.block → W'.cell? p = W.cell? p
theorem SameIn.refl (S : Nat → Prop) (W : World) : SameIn S W W := fun _ _ => rfl
theorem SameIn.trans {S : Nat → Prop} {A B C : World} (h : SameIn S A B) (k : SameIn S B C) : SameIn S A C := fun p hp => (k p hp).trans (h p hp)
theorem sameIn_b {S : Nat → Prop} {w : World} (hS : ∀ x, S x → x < w.heap.size) (W : World) (l : Nat) (o o' : Obj) (hl : w.heap.size ≤ l) (h : W.heap[l]? = some o) (h1 : o.isCells = false) (h2 : o.isWalk = false) : SameIn S W (W.putObj l o') :=
  fun p hp => (belowK_b (n₀ := w.heap.size) (Nat.le_refl _) W l o o' hl h h1 h2).cell (hS _ hp)
theorem back1_in (F : Fence) (n : Nat) (h88 : F.fn 101) (hro : F.round = none) (hn : 1 ≤ n) (l Bs : Nat) (ad : Addr) (len cap : Nat) (zs : List Int) (hreach : len * 8 ≤ 140737488351232) (S : Nat → Prop) (hSb : S ad.block) (hSB : S Bs) (J Jx : List (El zs len) → World → Prop)
    (hY : ∀ pre x W, J pre W → pre.length < len → YieldAt F (n - 1) Try.prog l #[.int .i64 (x.1.1 : Int), .int .i64 x.1.2] W fun e W' =>
      (e = .returned (.bool true) ∧ J (pre ++ [x]) W' ∧ SameIn S W W') ∨ (e = .returned (.bool false) ∧ Jx (pre ++ [x]) W'))
    (W : World) (hBs : W.cell? ⟨Bs, 0, none⟩ = some (.slice (some ad) len cap)) (hc : ∀ j, j < len → W.cell? (ad.add j) = some (.int .i64 (zs[j]?.getD 0))) (h0 : J [] W) :
    CallsIn F n Try.prog 101 #[.func (.yield l) #[] #[], .pointer (some ⟨Bs, 0, none⟩)] W fun e W' => (∃ v, e = .returned v) ∧
      ((∃ ys, ys.map Subtype.val = down zs len len ∧ J ys W') ∨ (∃ pre, (∃ k, k ≤ len ∧ pre.map Subtype.val = down zs len k) ∧ Jx pre W')) := by
  refine callsIn_of_wp Try.func101 rfl h88 ?_ hro
  simp only [Try.ntmps101, List.size_toArray, List.length_cons, List.length_nil, Nat.reduceAdd, Nat.reduceSub, Array.replicate_succ, Array.replicate_zero, List.push_toArray, List.append_toArray, List.nil_append, List.cons_append]
  have hw0 : wrap64 ((len : Int) - 1) = (len : Int) - 1 := by unfold wrap64; omega
  gi_wp2
  gi_loopw [3] (fun i wr => ∃ m : Nat, m ≤ len ∧ i = .int .i64 ((m : Int) - 1) ∧ (∃ ys : List (El zs len), ys.map Subtype.val = down zs len (len - m) ∧ J ys wr) ∧ SameIn S W wr)
    (fun i _ => (intOf i + 1).toNat)
  case atStart => exact ⟨len, Nat.le_refl _, by simp [hw0], ⟨[], by rw [Nat.sub_self]; rfl, h0⟩, SameIn.refl _ _⟩
  case round =>
    obtain ⟨m, hm, rfl, ⟨ys, hys, hJs⟩, hnx⟩ := hrel
    have hBx : wr.cell? ⟨Bs, 0, none⟩ = some (.slice (some ad) len cap) := (hnx ⟨Bs, 0, none⟩ hSB).trans hBs
    cases m with
    | zero =>
      gi_wp2
      go_end0
      exact ⟨⟨_, rfl⟩, .inl ⟨_, hys, hJs⟩⟩
    | succ m =>
      have e1 : (((m + 1 : Nat) : Int) - 1) = (m : Int) := by omega
      rw [e1]
      have hcx : wr.cell? (ad.add m) = some (.int .i64 (zs[m]?.getD 0)) := (hnx (ad.add m) (by rw [add_blk]; exact hSb)).trans (hc m (by omega))
      obtain ⟨fn, tmps, assign, body, hy, hR⟩ := hY _ ⟨(m, zs[m]?.getD 0), hm, rfl⟩ wr hJs (by rw [← List.length_map (f := Subtype.val), hys, down_length]; omega)
      dsimp only at hy
      have hlt : m < len := hm
      have h00 : (0 : Int) ≤ (m : Int) := by omega
      have h01 : (m : Int) < (len : Int) := by omega
      have hw1 : wrap64 ((m : Int) - 1) = (m : Int) - 1 := by unfold wrap64; omega
      gi_wp2
      refine hR.mono ?_
      rintro e W3 (⟨rfl, hJ3, hk3⟩ | ⟨rfl, hJx3⟩)
      · gi_wp2
        go_roundw
        case rel => exact ⟨m, by omega, by simp [hw1], ⟨_, by rw [List.map_append, hys, down_step zs hlt]; rfl, hJ3⟩, hnx.trans hk3⟩
        case measure => simp [intOf, hw1]
      · gi_wp2
        refine bodyPost_ret (results_none rfl _ _ _) rfl ?_
        exact ⟨⟨_, rfl⟩, .inr ⟨_, ⟨len - m, by omega, by rw [List.map_append, hys, down_step zs hlt]; rfl⟩, hJx3⟩⟩
theorem back1_nil_in (F : Fence) (n : Nat) (h88 : F.fn 101) (hro : F.round = none) (l Bs : Nat) (a : Option Addr) (cap : Nat) (zs : List Int) (len : Nat) (J : List (El zs len) → World → Prop) (W : World) (hBs : W.cell? ⟨Bs, 0, none⟩ = some (.slice a 0 cap)) (h0 : J [] W) :
    CallsIn F n Try.prog 101 #[.func (.yield l) #[] #[], .pointer (some ⟨Bs, 0, none⟩)] W fun e W' => (∃ v, e = .returned v) ∧ J [] W' := by
  refine callsIn_of_wp Try.func101 rfl h88 ?_ hro
  simp only [Try.ntmps101, List.size_toArray, List.length_cons, List.length_nil, Nat.reduceAdd, Nat.reduceSub, Array.replicate_succ, Array.replicate_zero, List.push_toArray, List.append_toArray, List.nil_append, List.cons_append]
  gi_wp2
  gi_loopw [3] (fun i wr => i = .int .i64 (-1) ∧ J [] wr) (fun _ _ => 0)
  case atStart => exact ⟨rfl, h0⟩
  case round =>
    obtain ⟨rfl, hJs⟩ := hrel
    gi_wp2
    go_end0
    exact ⟨⟨_, rfl⟩, hJs⟩
theorem back_in (F : Fence) (n : Nat) (h68 : F.fn 96) (hro : F.round = none) (a : Option Addr) (len cap : Nat) (w : World) :
    CallsIn F n Try.prog 96 #[.slice a len cap] w fun e w' => e = .returned (.func (.func 101) #[] #[.pointer (some ⟨w.heap.size, 0, none⟩)]) ∧ w' = w.alloc (.cells #[.slice a len cap] 54) := by
  refine callsIn_of_wp Try.func96 rfl h68 ?_ hro
  simp only [Try.ntmps96, List.size_toArray, List.length_cons, List.length_nil, Nat.reduceAdd, Nat.reduceSub, Array.replicate_succ, Array.replicate_zero, List.push_toArray, List.append_toArray, List.nil_append, List.cons_append]
  gi_wp2
  go_ret
  exact ⟨rfl, rfl⟩
def RowIn (S : Nat → Prop) (W : World) (a : Option Addr) (len : Nat) (zs : List Int) : Prop :=
  len = 0 ∨ ∃ ad, a = some ad ∧ S ad.block ∧ ∀ j, j < len → W.cell? (ad.add j) = some (.int .i64 (zs[j]?.getD 0))
theorem RowIn.same {S : Nat → Prop} {A B : World} (h : SameIn S A B) {a : Option Addr} {len : Nat} {zs : List Int} : RowIn S A a len zs → RowIn S B a len zs
  | .inl e => .inl e
  | .inr ⟨ad, e, hb, hc⟩ => .inr ⟨ad, e, hb, fun j hj => (h (ad.add j) (by rw [add_blk]; exact hb)).trans (hc j hj)⟩
theorem SameIn.of_below {S : Nat → Prop} {n : Nat} {A B : World} (h : Below n A B) (hS : ∀ x, S x → x < n) : SameIn S A B := fun p hp => h.cell (hS _ hp)
theorem back_stops (F : Fence) (n : Nat) (h88 : F.fn 101) (hro : F.round = none) (hn : 1 ≤ n) (Bs : Nat) (a : Option Addr) (len cap : Nat) (zs : List Int) (hreach : len * 8 ≤ 140737488351232) (S : Nat → Prop) (hSB : S Bs) (w : World) (hSw : ∀ x, S x → x < w.heap.size)
    (hc : w.cell? ⟨Bs, 0, none⟩ = some (.slice a len cap)) (hI : RowIn S w a len zs) :
    SeqStopsK F n Try.prog 101 #[.pointer (some ⟨Bs, 0, none⟩)] (fun x : El zs len => #[Value.int .i64 (x.1.1 : Int), Value.int .i64 x.1.2]) (SameIn S) (fun ys => ys.map Subtype.val = down zs len len)
      (fun pre => ∃ k, k ≤ len ∧ pre.map Subtype.val = down zs len k) len w := fun l J Jx W hW _ _ hY h0 => by
  have hs := SameIn.of_below hW hSw
  have hc' := (hs ⟨Bs, 0, none⟩ hSB).trans hc
  rcases hI.same hs with rfl | ⟨ad, rfl, hb, hcs⟩
  · exact (back1_nil_in F n h88 hro l Bs a cap zs 0 J W hc' h0).mono fun e W' ⟨he, hj⟩ => ⟨he, .inl ⟨_, rfl, hj⟩⟩
  · exact back1_in F n h88 hro hn l Bs ad len cap zs hreach S hb hSB J Jx hY W hc' hcs h0
end Go.Proofs.Ytdemeoncjcbojaa.Rng
end
section
namespace Go.Proofs.Ytdemeoncjcbojaa.Cv
open Go.RowKit Go.Proofs.YtdemeoncjcbojaaW.PrintWords Go.Proofs.YtdemeoncjcbojaaW.PrintLast
set_option linter.unusedVariables false
variable {P : Program} {ops : Array Oper} {Q : Exit → Act → World → Prop} {lo n : Nat}
def calm (o : Oper) : Bool := match o.op with
  | .defer _ => false
  | _ => true
theorem calm_ne {o : Oper} (h : calm o = true) (c) : o.op ≠ .defer c := by
  intro e
  unfold calm at h
  rw [e] at h
  cases h
theorem rows_in {row : String} {args : Array Value} {w : World} {R : Value → World → Prop} (h : Rows P row args w R) : RowsIn (Fence.wide.inRound lo) n P row args w R :=
  fun c cs _ => let ⟨v, w', r, s⟩ := h c cs; ⟨v, w', r, stepsIn_wide.2 s⟩
theorem op_in {o : Oper} {a : Act} {w : World} {K : Act → World → Prop} (hn : calm o = true) (h : o.wp P a w K Q) : o.wpIn (Fence.wide.inRound lo) n P a w K Q := by
  refine ⟨fun _ _ => trivial, ?_⟩
  rw [show (Fence.wide.inRound lo).round = some lo from rfl, Oper.semAt_some _ _ _ (calm_ne hn)]
  unfold Oper.wp at h
  generalize (execOp a.eval o).run P w = r at h ⊢
  cases r with
  | ok x w' =>
    cases x with
    | value v => exact h
    | skip => exact h
    | defer d => exact h
    | enter f args => exact ⟨fun e => (by cases e), (CallsIn.inRound lo (callsIn_wide.2 h)).mono (fun e w'' he => by cases e <;> exact he)⟩
    | row row args => exact ⟨fun e => (by cases e), rows_in h⟩
    | _ => exact h.elim
  | halt x w' => cases x <;> first | exact h | exact h.elim
theorem list_in (hQ : ¬ LetsOut Q) : ∀ (l : List Oper) (a : Act) (w : World), l.all calm = true → wpList P ops Q l a w → wpListIn (Fence.wide.inRound lo) n P ops Q l a w
  | [], _, _, _, h => h
  | o :: r, a, w, hn, h => by
    rw [List.all_cons, Bool.and_eq_true] at hn
    unfold wpList at h
    unfold wpListIn
    split
    · rename_i hw
      rw [if_pos hw] at h
      rcases h with h | h
      · refine op_in hn.1 ?_
        exact Oper.wp_mono (fun a w => list_in hQ r a w hn.2) h
      · exact absurd h.2 hQ
    · rename_i hw
      rw [if_neg hw] at h
      exact ⟨fun _ _ => trivial, list_in hQ r _ _ hn.2 h⟩
theorem any_in (hQ : ¬ LetsOut Q) (hn : ∀ (i : Nat) (o : Oper), ops[i]? = some o → calm o = true) {md : Region.Mode} : ∀ (fuel : Nat) (listed : Array Bool) (a : Act) (w : World), wpAny P md ops Q fuel listed a w → wpAnyIn (Fence.wide.inRound lo) n P md ops Q fuel listed a w
  | 0, _, _, _, h => h
  | fuel + 1, listed, a, w, h => by
    refine ⟨h.1, fun i hi => ?_⟩
    have h2 := h.2 i hi
    unfold wpOp at h2
    unfold wpOpIn
    cases ho : ops[i]? with
    | none =>
      simp only [ho] at h2 ⊢
      exact any_in hQ hn fuel _ a w h2
    | some o =>
      simp only [ho] at h2 ⊢
      split
      · rename_i hw
        rw [if_pos hw] at h2
        rcases h2 with h2 | h2
        · exact op_in (hn i o ho) (Oper.wp_mono (fun a w => any_in hQ hn fuel _ a w) h2)
        · exact absurd h2.2 hQ
      · rename_i hw
        rw [if_neg hw] at h2
        exact ⟨fun _ _ => trivial, any_in hQ hn fuel _ _ _ h2⟩
theorem region_in {id : Nat} {l : List Oper} {a : Act} {w : World} (hn : l.all calm = true) (hQ : ¬ LetsOut Q) (h : wpList P l.toArray Q l a w) : (Code.region id l.toArray false).wpIn (Fence.wide.inRound lo) n P Q a w :=
  wpIn_region_lit (list_in hQ l a w hn h)
theorem calm_all {ops : Array Oper} (h : ops.toList.all calm = true) (i : Nat) (o : Oper) (ho : ops[i]? = some o) : calm o = true :=
  List.all_eq_true.1 h o (Array.mem_toList_iff.2 (Array.mem_of_getElem? ho))
theorem start_in {id m : Nat} {a : Act} {w : World} {S : World → Prop} {ds : List Nat} (l : Array Bool) (hm : P.follows .mixedOrders = true) (hk : ops.size = m) (hl : Array.replicate m false = l) (hn : ops.toList.all calm = true) (hQ : ¬ LetsOut Q) (hS : S w.drew)
    (h : S w.drew → wpAnyLast P .any ops Q S ds m l a w.drew) : (Code.region id ops true).wpIn (Fence.wide.inRound lo) n P Q a w := by
  subst hk
  subst hl
  exact wpIn_region_any hm (any_in hQ (calm_all hn) _ _ _ _ (wpAny_of_last _ _ _ _ (h hS)))
end Go.Proofs.Ytdemeoncjcbojaa.Cv
end
section
namespace Go.Proofs.Ytdemeoncjcbojaa.Jt
def pw (n : Nat) : Int := 10000 ^ n
theorem pw_zero : pw 0 = 1 := rfl
theorem pw_succ (n : Nat) : pw (n + 1) = 10000 * pw n := by unfold pw; rw [Int.pow_succ]; omega
theorem pw_pos (n : Nat) : 1 ≤ pw n := by
  induction n with
  | zero => decide
  | succ n ih => rw [pw_succ]; omega
theorem pw_mono {m n : Nat} (h : m ≤ n) : pw m ≤ pw n := by
  obtain ⟨d, rfl⟩ := Nat.exists_eq_add_of_le h
  induction d with
  | zero => exact Int.le_refl _
  | succ d ih =>
    have h1 := ih (by omega)
    have h2 := pw_pos (m + d)
    rw [show m + (d + 1) = (m + d) + 1 from rfl, pw_succ]
    omega
def val : List Int → Int
  | [] => 0
  | x :: xs => x + 10000 * val xs
def Dig (l : List Int) : Prop := ∀ x ∈ l, 0 ≤ x ∧ x ≤ 9999
def Nz (l : List Int) : Prop := l.length = 0 ∨ l.getD (l.length - 1) 0 ≠ 0
theorem getD_lt {l : List Int} {i : Nat} (h : i < l.length) : l.getD i 0 = l[i] := by rw [List.getD_eq_getElem?_getD, List.getElem?_eq_getElem h]; rfl
theorem getD_ge {l : List Int} {i : Nat} (h : l.length ≤ i) : l.getD i 0 = 0 := by rw [List.getD_eq_getElem?_getD, List.getElem?_eq_none h]; rfl
theorem val_nil : val [] = 0 := rfl
theorem val_append (a b : List Int) : val (a ++ b) = val a + pw a.length * val b := by
  induction a with
  | nil => simp [val, pw_zero]
  | cons x xs ih => simp only [List.cons_append, val, ih, List.length_cons, pw_succ]; rw [Int.mul_add, Int.mul_assoc]; omega
theorem Dig.nil : Dig [] := fun x h => by cases h
theorem Dig.cons {x : Int} {xs : List Int} (h0 : 0 ≤ x) (h1 : x ≤ 9999) (h : Dig xs) : Dig (x :: xs) := by
  intro y hy
  rcases List.mem_cons.1 hy with rfl | hy
  · exact ⟨h0, h1⟩
  · exact h y hy
theorem Dig.head {x : Int} {xs : List Int} (h : Dig (x :: xs)) : 0 ≤ x ∧ x ≤ 9999 := h x (by simp)
theorem Dig.tail {x : Int} {xs : List Int} (h : Dig (x :: xs)) : Dig xs := fun y hy => h y (by simp [hy])
theorem Dig.take {l : List Int} (h : Dig l) (n : Nat) : Dig (l.take n) := fun x hx => h x (List.mem_of_mem_take hx)
theorem Dig.append {a b : List Int} (ha : Dig a) (hb : Dig b) : Dig (a ++ b) := by
  intro x hx
  rcases List.mem_append.1 hx with h | h
  · exact ha x h
  · exact hb x h
theorem Dig.getD {l : List Int} (h : Dig l) (i : Nat) : 0 ≤ l.getD i 0 ∧ l.getD i 0 ≤ 9999 := by
  by_cases hi : i < l.length
  · rw [getD_lt hi]; exact h _ (List.getElem_mem hi)
  · rw [getD_ge (by omega)]; omega
theorem dig_of_getD {l : List Int} (h : ∀ i, i < l.length → 0 ≤ l.getD i 0 ∧ l.getD i 0 ≤ 9999) : Dig l := by
  intro x hx
  obtain ⟨i, hi, rfl⟩ := List.getElem_of_mem hx
  have := h i hi
  rwa [getD_lt hi] at this
theorem val_nonneg {l : List Int} (h : Dig l) : 0 ≤ val l := by
  induction l with
  | nil => exact Int.le_refl _
  | cons x xs ih =>
    have h1 := ih h.tail
    have h2 := h.head
    simp only [val]; omega
theorem val_lt {l : List Int} (h : Dig l) : val l < pw l.length := by
  induction l with
  | nil => decide
  | cons x xs ih =>
    have h1 := ih h.tail
    have h2 := h.head
    simp only [val, List.length_cons, pw_succ]; omega
theorem val_set (l : List Int) : ∀ (i : Nat) (v : Int), i < l.length → val (l.set i v) = val l + pw i * (v - l.getD i 0) := by
  induction l with
  | nil => intro i v h; simp at h
  | cons x xs ih =>
    intro i v h
    cases i with
    | zero => simp only [List.set_cons_zero, val, List.getD_cons_zero, pw_zero]; omega
    | succ i =>
      simp only [List.set_cons_succ, val, List.getD_cons_succ, pw_succ]
      rw [ih i v (by simpa using h), Int.mul_add, Int.mul_assoc]
      omega
theorem getD_set (l : List Int) (i j : Nat) (v : Int) (h : i < l.length) : (l.set i v).getD j 0 = if j = i then v else l.getD j 0 := by
  by_cases hj : j = i
  · subst hj
    rw [if_pos rfl, List.getD_eq_getElem?_getD, List.getElem?_set_self h]; rfl
  · rw [if_neg hj, List.getD_eq_getElem?_getD, List.getElem?_set_ne (Ne.symm hj), List.getD_eq_getElem?_getD]
theorem val_split (l : List Int) {n : Nat} (h : n ≤ l.length) : val l = val (l.take n) + pw n * val (l.drop n) := by
  have := val_append (l.take n) (l.drop n)
  rw [List.take_append_drop, List.length_take, Nat.min_eq_left h] at this
  exact this
theorem drop_cons {l : List Int} {n : Nat} (h : n < l.length) : l.drop n = l.getD n 0 :: l.drop (n + 1) := by
  rw [List.drop_eq_getElem_cons h, getD_lt h]
theorem val_zeros {l : List Int} (h : ∀ i, i < l.length → l.getD i 0 = 0) : val l = 0 := by
  induction l with
  | nil => rfl
  | cons x xs ih =>
    have h0 := h 0 (by simp)
    have h1 := ih (fun i hi => by have := h (i + 1) (by simpa using hi); simpa using this)
    simp at h0
    simp only [val, h0, h1]; decide
theorem val_replicate (n : Nat) : val (List.replicate n 0) = 0 := val_zeros fun i hi => by
  rw [List.length_replicate] at hi
  rw [getD_lt (by simpa using hi), List.getElem_replicate]
theorem val_ge {l : List Int} (h : Dig l) (hz : Nz l) (hne : 0 < l.length) : pw (l.length - 1) ≤ val l := by
  have hs := val_split l (n := l.length - 1) (by omega)
  rw [drop_cons (by omega), show l.length - 1 + 1 = l.length from by omega, List.drop_length] at hs
  have h1 := val_nonneg (h.take (l.length - 1))
  have h2 := h.getD (l.length - 1)
  have h3 : l.getD (l.length - 1) 0 ≠ 0 := hz.resolve_left (by omega)
  have hp := pw_pos (l.length - 1)
  simp only [val] at hs
  have h4 : pw (l.length - 1) * 1 ≤ pw (l.length - 1) * (l.getD (l.length - 1) 0 + 10000 * 0) := Int.mul_le_mul_of_nonneg_left (by omega) (by omega)
  omega
theorem uniq {a : List Int} : ∀ {b : List Int}, Dig a → Dig b → Nz a → Nz b → val a = val b → a = b := by
  induction a with
  | nil =>
    intro b _ hb _ zb e
    cases b with
    | nil => rfl
    | cons y ys =>
      have := val_ge hb zb (by simp)
      have := pw_pos ((y :: ys).length - 1)
      rw [val_nil] at e
      omega
  | cons x xs ih =>
    intro b ha hb za zb e
    cases b with
    | nil =>
      have := val_ge ha za (by simp)
      have := pw_pos ((x :: xs).length - 1)
      rw [val_nil] at e
      omega
    | cons y ys =>
      have hx := ha.head
      have hy := hb.head
      simp only [val] at e
      have e1 : x = y := by omega
      have e2 : val xs = val ys := by omega
      have zt : ∀ {z : Int} {zs : List Int}, Nz (z :: zs) → Nz zs := by
        intro z zs h
        cases zs with
        | nil => left; rfl
        | cons u us =>
          right
          have h' := h.resolve_left (by simp)
          simpa using h'
      rw [e1, ih ha.tail hb.tail (zt za) (zt zb) e2]
def repN (n : Nat) : List Int := if h : n = 0 then [] else ((n % 10000 : Nat) : Int) :: repN (n / 10000)
termination_by n
decreasing_by omega
def rep (v : Int) : List Int := repN v.toNat
theorem repN_zero : repN 0 = [] := by rw [repN]; simp
theorem repN_pos {n : Nat} (h : n ≠ 0) : repN n = ((n % 10000 : Nat) : Int) :: repN (n / 10000) := by rw [repN]; simp [h]
theorem repN_ok (n : Nat) : Dig (repN n) ∧ val (repN n) = n ∧ Nz (repN n) := by
  induction n using Nat.strongRecOn with
  | ind n ih =>
    by_cases h : n = 0
    · subst h; rw [repN_zero]; exact ⟨Dig.nil, rfl, .inl rfl⟩
    · obtain ⟨h1, h2, h3⟩ := ih (n / 10000) (by omega)
      rw [repN_pos h]
      refine ⟨Dig.cons (by omega) (by omega) h1, by simp only [val, h2]; omega, .inr ?_⟩
      by_cases hq : n / 10000 = 0
      · rw [hq, repN_zero]; simp; omega
      · have hne : (repN (n / 10000)).length ≠ 0 := by rw [repN_pos hq]; simp
        have := h3.resolve_left hne
        rw [List.length_cons, show (repN (n / 10000)).length + 1 - 1 = ((repN (n / 10000)).length - 1) + 1 from by omega, List.getD_cons_succ]
        exact this
theorem rep_dig (v : Int) : Dig (rep v) := (repN_ok _).1
theorem rep_nz (v : Int) : Nz (rep v) := (repN_ok _).2.2
theorem rep_val {v : Int} (h : 0 ≤ v) : val (rep v) = v := by unfold rep; rw [(repN_ok _).2.1]; omega
theorem rep_of {l : List Int} (hd : Dig l) (hz : Nz l) : rep (val l) = l := uniq (rep_dig _) hd (rep_nz _) hz (rep_val (val_nonneg hd))
theorem is_rep {l : List Int} {v : Int} (hd : Dig l) (hz : Nz l) (hv : val l = v) : l = rep v := by rw [← hv, rep_of hd hz]
theorem rep_zero : rep 0 = [] := repN_zero
theorem rep_nil {v : Int} (h : 0 ≤ v) : rep v = [] ↔ v = 0 := by
  constructor
  · intro e
    have := rep_val h
    rw [e] at this
    exact this.symm
  · rintro rfl; exact rep_zero
theorem rep_len {v : Int} (h : 0 ≤ v) (n : Nat) : (rep v).length ≤ n ↔ v < pw n := by
  have hv := rep_val h
  have hl := val_lt (rep_dig v)
  constructor
  · intro hle
    have := pw_mono hle
    omega
  · intro hlt
    apply Nat.le_of_not_lt
    intro hgt
    have hg := val_ge (rep_dig v) (rep_nz v) (by omega)
    have := pw_mono (show n ≤ (rep v).length - 1 by omega)
    omega
def TrimOf (l r : List Int) : Prop := ∃ n, n ≤ l.length ∧ r = l.take n ∧ (∀ j, n ≤ j → j < l.length → l.getD j 0 = 0) ∧ (0 < n → l.getD (n - 1) 0 ≠ 0)
theorem TrimOf.dig {l r : List Int} (h : TrimOf l r) (hd : Dig l) : Dig r := by obtain ⟨n, _, rfl, _, _⟩ := h; exact hd.take n
theorem TrimOf.val {l r : List Int} (h : TrimOf l r) : Jt.val r = Jt.val l := by
  obtain ⟨n, hn, rfl, hz, _⟩ := h
  have hs := val_split l hn
  have : Jt.val (l.drop n) = 0 := val_zeros fun i hi => by
    rw [List.length_drop] at hi
    have := hz (n + i) (by omega) (by omega)
    rw [List.getD_eq_getElem?_getD] at this ⊢
    rw [List.getElem?_drop]; exact this
  rw [this] at hs
  omega
theorem getD_take (l : List Int) {i n : Nat} (h : i < n) : (l.take n).getD i 0 = l.getD i 0 := by
  rw [List.getD_eq_getElem?_getD, List.getD_eq_getElem?_getD, List.getElem?_take_of_lt h]
theorem TrimOf.nz {l r : List Int} (h : TrimOf l r) : Nz r := by
  obtain ⟨n, hn, rfl, _, hlast⟩ := h
  by_cases h0 : n = 0
  · left; simp [h0]
  · right
    rw [List.length_take, Nat.min_eq_left hn, getD_take l (by omega)]
    exact hlast (by omega)
theorem TrimOf.rep {l r : List Int} (h : TrimOf l r) (hd : Dig l) {v : Int} (hv : Jt.val l = v) : r = Jt.rep v := is_rep (h.dig hd) h.nz (h.val.trans hv)
theorem TrimOf.len {l r : List Int} (h : TrimOf l r) : r.length ≤ l.length := by obtain ⟨n, hn, rfl, _, _⟩ := h; rw [List.length_take]; omega
theorem val_lt_of_len {a b : List Int} (ha : Dig a) (hb : Dig b) (zb : Nz b) (h : a.length < b.length) : val a < val b := by
  have h1 := val_lt ha
  have h2 := val_ge hb zb (by omega)
  have := pw_mono (show a.length ≤ b.length - 1 by omega)
  omega
theorem val_lt_at {a b : List Int} (ha : Dig a) (hb : Dig b) {i : Nat} (h1 : i < a.length) (h2 : i < b.length) (hd : a.drop (i + 1) = b.drop (i + 1)) (hlt : a.getD i 0 < b.getD i 0) : val a < val b := by
  have ea := val_split a (n := i) (by omega)
  have eb := val_split b (n := i) (by omega)
  rw [drop_cons h1] at ea
  rw [drop_cons h2, ← hd] at eb
  simp only [val] at ea eb
  have la := val_lt (ha.take i)
  have nb := val_nonneg (hb.take i)
  rw [List.length_take, Nat.min_eq_left (by omega)] at la
  have hp := pw_pos i
  have hm : pw i * (a.getD i 0 + 1) ≤ pw i * b.getD i 0 := Int.mul_le_mul_of_nonneg_left (by omega) (by omega)
  rw [Int.mul_add] at ea eb hm
  omega
def bigv (neg : Bool) (l : List Int) : Int := if neg = true then -val l else val l
def BOk (neg : Bool) (l : List Int) : Prop := l.length ≤ 16 ∧ Dig l ∧ Nz l ∧ (neg = true → l.length ≠ 0)
def mkN (x : Int) : Bool := decide (x < 0)
def mkL (x : Int) : List Int := rep (if x < 0 then -x else x)
theorem nz_pos {l : List Int} (hd : Dig l) (hz : Nz l) (h : l.length ≠ 0) : 0 < val l := by
  have := val_ge hd hz (by omega)
  have := pw_pos (l.length - 1)
  omega
theorem mk_ok {x : Int} (h1 : -pw 16 < x) (h2 : x < pw 16) : BOk (mkN x) (mkL x) := by
  have h0 : 0 ≤ (if x < 0 then -x else x) := by split <;> omega
  refine ⟨(rep_len h0 16).2 (by split <;> omega), rep_dig _, rep_nz _, ?_⟩
  intro hn hl
  have := of_decide_eq_true hn
  have e := rep_val h0
  unfold mkL at hl
  rw [List.length_eq_zero_iff.1 hl, val_nil] at e
  split at e <;> omega
end Go.Proofs.Ytdemeoncjcbojaa.Jt
end
section
namespace Go.Proofs.Ytdemeoncjcbojaa.Val
open Go.RowKit Go.Proofs.Ytdemeoncjcbojaa.Pr Go.Proofs.Ytdemeoncjcbojaa.Ext Go.Proofs.Ytdemeoncjcbojaa.Jt Go.Proofs.YtdemeoncjcbojaaW.PrintWords Go.Proofs.YtdemeoncjcbojaaW.PrintLast Go.Proofs.YtdemeoncjcbojaaW.PrintMore
set_option linter.unusedVariables false
set_option linter.unusedSimpArgs false
theorem w64 {x : Int} (h : -9223372036854775808 ≤ x) (h' : x ≤ 9223372036854775807) : wrap64 x = x := by unfold wrap64; omega
theorem rdn (l : List Int) (i : Int) : rd l i = l.getD i.toNat 0 := rfl
def okD (x : Int) : Bool := decide (0 ≤ x) && decide (x ≤ 9999)
def okB (neg : Bool) (l : List Int) : Bool := decide (l.length ≤ 16) && l.all okD && (decide (l.length = 0) || decide (l.getD (l.length - 1) 0 ≠ 0)) && (!neg || decide (l.length ≠ 0))
theorem okB_iff (neg : Bool) (l : List Int) : okB neg l = true ↔ BOk neg l := by
  unfold okB BOk Dig Nz
  simp only [Bool.and_eq_true, decide_eq_true_eq, List.all_eq_true, okD, Bool.or_eq_true, Bool.not_eq_true']
  constructor
  · rintro ⟨⟨⟨a, b⟩, c⟩, d⟩
    exact ⟨a, b, c, fun h => d.resolve_left (by simp [h])⟩
  · rintro ⟨a, b, c, d⟩
    refine ⟨⟨⟨a, b⟩, c⟩, ?_⟩
    cases neg
    · exact .inl rfl
    · exact .inr (d rfl)
theorem in_ge (x : Int) : spec_l1In.f x 0 9999 = some (okD x) := by
  unfold spec_l1In.f okD
  by_cases h : x ≥ 0
  · rw [if_pos h, decide_eq_true h, Bool.true_and]
  · rw [if_neg h, decide_eq_false h, Bool.false_and]
theorem bne_d (x : Int) : (x != 0) = decide (x ≠ 0) := by by_cases h : x = 0 <;> simp [h]
theorem l1Ok_l0 (neg : Bool) (l : List Int) (hl : l.length ≤ 16) : ∀ (m k i : Nat), i + m = l.length → m + 1 ≤ k →
    spec_l1Ok.l0 k (i : Int) neg l = some ((l.drop i).all okD && (decide (l.length = 0) || decide (l.getD (l.length - 1) 0 ≠ 0))) := by
  intro m
  induction m with
  | zero =>
    intro k i hi hk
    obtain ⟨k, rfl⟩ : ∃ j, k = j + 1 := ⟨k - 1, by omega⟩
    rw [spec_l1Ok.l0, if_neg (by omega), List.drop_eq_nil_of_le (by omega)]
    by_cases h0 : l.length = 0
    · rw [if_pos (by omega)]; simp [h0]
    · rw [if_neg (by omega), w64 (by omega) (by omega), if_pos (by omega), if_pos (by omega), rdn, show ((l.length : Int) - 1).toNat = l.length - 1 from by omega, bne_d, decide_eq_false h0]
      rfl
  | succ m ih =>
    intro k i hi hk
    obtain ⟨k, rfl⟩ : ∃ j, k = j + 1 := ⟨k - 1, by omega⟩
    have hlt : i < l.length := by omega
    rw [spec_l1Ok.l0, if_pos (by omega), if_pos (by omega), in_ge]
    simp only [Option.bind_some]
    rw [rdn, Int.toNat_natCast, drop_cons hlt, List.all_cons]
    by_cases hb : okD (l.getD i 0) = true
    · rw [if_pos hb, w64 (by omega) (by omega), show ((i : Int) + 1) = ((i + 1 : Nat) : Int) from by omega, ih k (i + 1) (by omega) (by omega), hb, Bool.true_and]
    · rw [if_neg hb, Bool.eq_false_iff.mpr hb]; simp
theorem l1Ok_ge (neg : Bool) (l : List Int) (k : Nat) (hk : 30 ≤ k) : spec_l1Ok.f k neg l = some (okB neg l) := by
  obtain ⟨k, rfl⟩ : ∃ j, k = j + 1 := ⟨k - 1, by omega⟩
  unfold spec_l1Ok.f okB
  by_cases h16 : (l.length : Int) > 16
  · rw [if_pos h16, spec_l1Ok.j0, if_pos rfl, decide_eq_false (show ¬ l.length ≤ 16 by omega)]; simp
  · have e := l1Ok_l0 neg l (by omega) l.length k 0 (by omega) (by omega)
    rw [List.drop_zero] at e
    rw [if_neg h16, decide_eq_true (show l.length ≤ 16 by omega), Bool.true_and]
    cases neg
    · rw [if_neg (by decide), spec_l1Ok.j0, if_neg (by decide)]
      refine e.trans ?_
      simp
    · rw [if_pos rfl, spec_l1Ok.j0]
      by_cases h0 : l.length = 0
      · rw [if_pos (by simp [h0])]; simp [h0]
      · rw [if_neg (by simp; intro hn; simp [hn] at h0)]
        refine e.trans ?_
        rw [decide_eq_true (show l.length ≠ 0 from h0)]
        simp
theorem any_bad (l : List Int) : l.any bad = !(l.all okD) := by
  induction l with
  | nil => rfl
  | cons x xs ih => rw [List.any_cons, List.all_cons, ih, Bool.not_and]; rfl
theorem bigOk_f (neg : Bool) (l : List Int) : impl_BigOk.f neg l = some (okB neg l) := by
  unfold impl_BigOk.f okB containsBad.f
  simp only [any_bad, Option.bind_some, Bool.not_not]
  by_cases h16 : (l.length : Int) ≤ 16
  · rw [if_pos h16, decide_eq_true (show l.length ≤ 16 by omega), Bool.true_and]
    by_cases h0 : (l.length : Int) = 0
    · rw [if_pos h0]
      have h0' : l.length = 0 := by omega
      cases neg
      · rw [if_neg (by decide)]; simp [h0']
      · rw [if_pos rfl, if_neg (by omega)]; simp [h0']
    · have h0' : l.length ≠ 0 := by omega
      rw [if_neg h0, if_pos (by omega), w64 (by omega) (by omega), if_pos (by omega), if_pos (by omega), rdn, show ((l.length : Int) - 1).toNat = l.length - 1 from by omega, decide_eq_false h0', decide_eq_true (show l.length ≠ 0 from h0'), Bool.false_or, Bool.or_true, Bool.and_true]
      by_cases hz : l.getD (l.length - 1) 0 = 0
      · rw [if_pos hz, decide_eq_false (by simpa using hz)]; simp
      · rw [if_neg hz, decide_eq_true hz]; simp
  · rw [if_neg h16, decide_eq_false (show ¬ l.length ≤ 16 by omega)]; simp
def trimN (l : List Int) : Nat → Nat
  | 0 => 0
  | n + 1 => if l.getD n 0 = 0 then trimN l n else n + 1
def trimL (l : List Int) : List Int := l.take (trimN l l.length)
theorem trimN_le (l : List Int) (n : Nat) : trimN l n ≤ n := by
  induction n with
  | zero => exact Nat.le_refl _
  | succ n ih => unfold trimN; split <;> omega
theorem trimN_hi (l : List Int) (n : Nat) : ∀ j, trimN l n ≤ j → j < n → l.getD j 0 = 0 := by
  induction n with
  | zero => intro j _ h; omega
  | succ n ih =>
    intro j h1 h2
    unfold trimN at h1
    split at h1
    · rename_i h
      by_cases hj : j = n
      · rw [hj]; exact h
      · exact ih j h1 (by omega)
    · omega
theorem trimN_nz (l : List Int) (n : Nat) : 0 < trimN l n → l.getD (trimN l n - 1) 0 ≠ 0 := by
  induction n with
  | zero => intro h; simp [trimN] at h
  | succ n ih =>
    unfold trimN
    split
    · exact ih
    · rename_i h; intro _; rw [Nat.add_sub_cancel]; exact h
theorem trimL_of (l : List Int) : TrimOf l (trimL l) := ⟨trimN l l.length, trimN_le _ _, rfl, trimN_hi _ _, trimN_nz _ _⟩
theorem trimL_len (l : List Int) : (trimL l).length ≤ l.length := (trimL_of l).len
theorem trimL_rep {l : List Int} (hd : Dig l) : trimL l = rep (val l) := (trimL_of l).rep hd rfl
theorem sTrim_l0 (l : List Int) (hl : l.length < 1000000) : ∀ (n k : Nat), n ≤ l.length → n + 1 ≤ k → spec_l1Trim.l0 k l (n : Int) = some (l.take (trimN l n)) := by
  intro n
  induction n with
  | zero =>
    intro k hn hk
    obtain ⟨k, rfl⟩ : ∃ j, k = j + 1 := ⟨k - 1, by omega⟩
    rw [spec_l1Trim.l0, if_neg (by omega)]
    simp only [Option.bind_some]
    rw [if_pos (by omega), if_pos (by omega), if_pos (by simp)]
    simp [trimN]
  | succ n ih =>
    intro k hn hk
    obtain ⟨k, rfl⟩ : ∃ j, k = j + 1 := ⟨k - 1, by omega⟩
    rw [spec_l1Trim.l0, if_pos (by omega), w64 (by omega) (by omega), show (((n + 1 : Nat) : Int) - 1) = (n : Int) from by omega, if_pos (by omega), if_pos (by omega), rdn, Int.toNat_natCast]
    unfold trimN
    by_cases h : l.getD n 0 = 0
    · rw [if_pos h, if_pos h]; exact ih k (by omega) (by omega)
    · rw [if_neg h, if_neg h]
      simp only [Option.bind_some]
      rw [if_pos (by omega), if_pos (by omega), Int.toNat_natCast, if_pos (by rw [List.length_take]; simp; omega)]
      simp
theorem sTrim_ge (l : List Int) (hl : l.length < 1000000) (k : Nat) (hk : l.length + 1 ≤ k) : spec_l1Trim.f k l = some (trimL l) := sTrim_l0 l hl l.length k (Nat.le_refl _) hk
theorem iTrim_l0 (l : List Int) (hl : l.length < 1000000) : ∀ (n k : Nat), n ≤ l.length → n + 1 ≤ k → impl_limbs_trim.l0 k (l.take n) = some (l.take (trimN l n)) := by
  intro n
  induction n with
  | zero =>
    intro k hn hk
    obtain ⟨k, rfl⟩ : ∃ j, k = j + 1 := ⟨k - 1, by omega⟩
    rw [impl_limbs_trim.l0, if_neg (by simp)]
    rfl
  | succ n ih =>
    intro k hn hk
    obtain ⟨k, rfl⟩ : ∃ j, k = j + 1 := ⟨k - 1, by omega⟩
    have hlen : (l.take (n + 1)).length = n + 1 := by rw [List.length_take]; omega
    rw [impl_limbs_trim.l0, hlen, if_pos (by omega), w64 (by omega) (by omega), show (((n + 1 : Nat) : Int) - 1) = (n : Int) from by omega, if_pos (by omega), if_pos (by omega), rdn, Int.toNat_natCast, getD_take l (by omega)]
    unfold trimN
    by_cases h : l.getD n 0 = 0
    · rw [if_pos h, if_pos h, if_pos (by omega), List.take_take, Nat.min_eq_left (by omega)]; exact ih k (by omega) (by omega)
    · rw [if_neg h, if_neg h]
theorem iTrim_ge (l : List Int) (hl : l.length < 1000000) (k : Nat) (hk : l.length + 1 ≤ k) : impl_limbs_trim.f k l = some (trimL l) := by
  have e := iTrim_l0 l hl l.length k (Nat.le_refl _) hk
  rw [List.take_length] at e
  exact e
def bigR (x : Int) : Bool × List Int × Bool := if -pw 16 < x ∧ x < pw 16 then (mkN x, mkL x, true) else (false, [], false)
theorem bigR_of {neg : Bool} {l : List Int} (hd : Dig l) :
    (if ((rep (val l)).length : Int) > 16 then (false, ([] : List Int), false) else if neg = true then (decide (0 < (rep (val l)).length), rep (val l), true) else (false, rep (val l), true)) = bigR (bigv neg l) := by
  have h0 := val_nonneg hd
  have hr := rep_len h0 16
  have hp := pw_pos 16
  unfold bigR
  by_cases h : ((rep (val l)).length : Int) > 16
  · have hv : ¬ val l < pw 16 := fun hc => by have := hr.2 hc; omega
    rw [if_pos h, if_neg]
    unfold bigv
    split <;> omega
  · have hv : val l < pw 16 := hr.1 (by omega)
    have hin : -pw 16 < bigv neg l ∧ bigv neg l < pw 16 := by unfold bigv; split <;> omega
    rw [if_neg h, if_pos hin]
    cases neg
    · rw [if_neg (by decide)]
      unfold bigv mkN mkL
      rw [if_neg (by decide), if_neg (by omega), decide_eq_false (by omega)]
    · rw [if_pos rfl]
      unfold bigv mkN mkL
      rw [if_pos rfl]
      have hz := rep_nil h0
      by_cases hv0 : val l = 0
      · rw [hv0, rep_zero]; simp [rep_zero]
      · rw [if_pos (by omega), Int.neg_neg, decide_eq_true (show -val l < 0 by omega)]
        have : 0 < (rep (val l)).length := by
          apply Nat.pos_of_ne_zero
          intro hc
          exact hv0 (hz.1 (List.length_eq_zero_iff.1 hc))
        rw [decide_eq_true this]
theorem l1Big_ge {l : List Int} (hd : Dig l) (hl : l.length ≤ 1000) (neg : Bool) (k : Nat) (hk : 1010 ≤ k) : spec_l1Big.f k neg l = some (bigR (bigv neg l)) := by
  unfold spec_l1Big.f
  rw [sTrim_ge l (by omega) k (by omega), ← bigR_of hd, trimL_rep hd]
  simp only [Option.bind_some]
  (repeat' split) <;> simp_all
theorem big_ge {l : List Int} (hd : Dig l) (hl : l.length ≤ 1000) (neg : Bool) (k : Nat) (hk : 1010 ≤ k) : impl_big.f k neg l = some (bigR (bigv neg l)) := by
  unfold impl_big.f impl_clone_int.f clone99.f
  rw [iTrim_ge l (by omega) k (by omega), ← bigR_of hd]
  have := trimL_len l
  simp only [Option.bind_some]
  rw [if_pos (show (trimL l).length < 17592186044416 by omega), trimL_rep hd]
  simp only [Option.bind_some]
  (repeat' split) <;> simp_all
def sgn (x : Int) : Int := if x < 0 then -1 else if x = 0 then 0 else 1
theorem sgn_neg {x : Int} (h : x < 0) : sgn x = -1 := if_pos h
theorem sgn_zero : sgn 0 = 0 := rfl
theorem sgn_pos {x : Int} (h : 0 < x) : sgn x = 1 := by unfold sgn; rw [if_neg (by omega), if_neg (by omega)]
theorem drop_eq_of {a b : List Int} {i : Nat} (ha : i < a.length) (hb : i < b.length) (hd : a.drop (i + 1) = b.drop (i + 1)) (he : a.getD i 0 = b.getD i 0) : a.drop i = b.drop i := by
  rw [drop_cons ha, drop_cons hb, hd, he]
theorem sCmp_l0 {a b : List Int} (ha : Dig a) (hb : Dig b) (hl : a.length = b.length) (hb' : a.length < 1000000) : ∀ (i k : Nat), i ≤ a.length → a.drop i = b.drop i → i + 1 ≤ k →
    spec_l1CmpAbs.l0 k a b ((i : Int) - 1) = some (sgn (val a - val b)) := by
  intro i
  induction i with
  | zero =>
    intro k hi hd hk
    obtain ⟨k, rfl⟩ : ∃ j, k = j + 1 := ⟨k - 1, by omega⟩
    rw [List.drop_zero, List.drop_zero] at hd
    rw [spec_l1CmpAbs.l0, if_neg (by omega), hd, Int.sub_self, sgn_zero]
  | succ i ih =>
    intro k hi hd hk
    obtain ⟨k, rfl⟩ : ∃ j, k = j + 1 := ⟨k - 1, by omega⟩
    rw [spec_l1CmpAbs.l0, show (((i + 1 : Nat) : Int) - 1) = (i : Int) from by omega, if_pos (by omega), if_pos (by omega), if_pos (by omega), if_pos (by omega), rdn, rdn, Int.toNat_natCast]
    by_cases h1 : a.getD i 0 < b.getD i 0
    · have := val_lt_at ha hb (by omega) (by omega) hd h1
      rw [if_pos h1, sgn_neg (by omega)]
    · rw [if_neg h1]
      by_cases h2 : a.getD i 0 > b.getD i 0
      · have := val_lt_at hb ha (by omega) (by omega) hd.symm h2
        rw [if_pos h2, sgn_pos (by omega)]
      · rw [if_neg h2, w64 (by omega) (by omega)]
        exact ih k (by omega) (drop_eq_of (by omega) (by omega) hd (by omega)) (by omega)
theorem iCmp_l0 {a b : List Int} (ha : Dig a) (hb : Dig b) (hl : a.length = b.length) (hb' : a.length < 1000000) : ∀ (i k : Nat), i ≤ a.length → a.drop i = b.drop i → i + 1 ≤ k →
    impl_limbs_cmp.l0 k a b ((i : Int) - 1) = some (sgn (val a - val b)) := by
  intro i
  induction i with
  | zero =>
    intro k hi hd hk
    obtain ⟨k, rfl⟩ : ∃ j, k = j + 1 := ⟨k - 1, by omega⟩
    rw [List.drop_zero, List.drop_zero] at hd
    rw [impl_limbs_cmp.l0, if_neg (by omega), hd, Int.sub_self, sgn_zero]
  | succ i ih =>
    intro k hi hd hk
    obtain ⟨k, rfl⟩ : ∃ j, k = j + 1 := ⟨k - 1, by omega⟩
    rw [impl_limbs_cmp.l0, show (((i + 1 : Nat) : Int) - 1) = (i : Int) from by omega, if_pos (by omega), if_pos (by omega), if_pos (by omega), if_pos (by omega), rdn, rdn, Int.toNat_natCast]
    have b1 := ha.getD i
    have b2 := hb.getD i
    by_cases h1 : a.getD i 0 = b.getD i 0
    · rw [if_pos h1, w64 (by omega) (by omega)]
      exact ih k (by omega) (drop_eq_of (by omega) (by omega) hd h1) (by omega)
    · rw [if_neg h1, w64 (by omega) (by omega)]
      unfold mx mn
      by_cases h2 : a.getD i 0 < b.getD i 0
      · have := val_lt_at ha hb (by omega) (by omega) hd h2
        rw [sgn_neg (by omega), if_pos (show a.getD i 0 - b.getD i 0 < 1 by omega), if_neg (by omega)]
      · have := val_lt_at hb ha (by omega) (by omega) hd.symm (show b.getD i 0 < a.getD i 0 by omega)
        rw [sgn_pos (by omega), if_neg (show ¬ a.getD i 0 - b.getD i 0 < 1 by omega), if_pos (by omega)]
theorem sCmpAbs_ge {a b : List Int} (ha : Dig a) (hb : Dig b) (za : Nz a) (zb : Nz b) (la : a.length ≤ 1000) (lb : b.length ≤ 1000) (k : Nat) (hk : 1010 ≤ k) : spec_l1CmpAbs.f k a b = some (sgn (val a - val b)) := by
  unfold spec_l1CmpAbs.f
  by_cases h : (a.length : Int) = (b.length : Int)
  · rw [if_pos h, w64 (by omega) (by omega)]
    exact sCmp_l0 ha hb (by omega) (by omega) a.length k (Nat.le_refl _) (by rw [List.drop_length, List.drop_eq_nil_of_le (by omega)]) (by omega)
  · rw [if_neg h]
    by_cases h2 : (a.length : Int) < (b.length : Int)
    · have := val_lt_of_len ha hb zb (by omega)
      rw [if_pos h2, sgn_neg (by omega)]
    · have := val_lt_of_len hb ha za (by omega)
      rw [if_neg h2, sgn_pos (by omega)]
theorem iCmp_ge {a b : List Int} (ha : Dig a) (hb : Dig b) (za : Nz a) (zb : Nz b) (la : a.length ≤ 1000) (lb : b.length ≤ 1000) (k : Nat) (hk : 1010 ≤ k) : impl_limbs_cmp.f k a b = some (sgn (val a - val b)) := by
  unfold impl_limbs_cmp.f
  by_cases h : (a.length : Int) = (b.length : Int)
  · rw [if_pos h, w64 (by omega) (by omega)]
    exact iCmp_l0 ha hb (by omega) (by omega) a.length k (Nat.le_refl _) (by rw [List.drop_length, List.drop_eq_nil_of_le (by omega)]) (by omega)
  · rw [if_neg h, w64 (by omega) (by omega)]
    unfold mx mn
    by_cases h2 : (a.length : Int) < (b.length : Int)
    · have := val_lt_of_len ha hb zb (by omega)
      rw [sgn_neg (by omega), if_pos (show (a.length : Int) - (b.length : Int) < 1 by omega), if_neg (by omega)]
    · have := val_lt_of_len hb ha za (by omega)
      rw [sgn_pos (by omega), if_neg (show ¬ (a.length : Int) - (b.length : Int) < 1 by omega), if_pos (by omega)]
end Go.Proofs.Ytdemeoncjcbojaa.Val
end
section
namespace Go.Proofs.Ytdemeoncjcbojaa.Val
open Go.RowKit Go.Proofs.Ytdemeoncjcbojaa.Pr Go.Proofs.Ytdemeoncjcbojaa.Ext Go.Proofs.Ytdemeoncjcbojaa.Jt Go.Proofs.YtdemeoncjcbojaaW.PrintWords Go.Proofs.YtdemeoncjcbojaaW.PrintLast Go.Proofs.YtdemeoncjcbojaaW.PrintMore
set_option linter.unusedVariables false
set_option linter.unusedSimpArgs false
theorem rdN (l : List Int) (i : Nat) : rd l (i : Int) = l.getD i 0 := by unfold rd; rw [Int.toNat_natCast]
theorem getD_set_ne {l : List Int} {i j : Nat} (v : Int) (h : i < l.length) (hne : j ≠ i) : (l.set i v).getD j 0 = l.getD j 0 := by rw [getD_set l i j v h, if_neg hne]
theorem getD_set_eq {l : List Int} {i : Nat} (v : Int) (h : i < l.length) : (l.set i v).getD i 0 = v := by rw [getD_set l i i v h, if_pos rfl]
theorem val_drop (l : List Int) (i : Nat) : val (l.drop i) = l.getD i 0 + 10000 * val (l.drop (i + 1)) := by
  by_cases h : i < l.length
  · rw [drop_cons h]; rfl
  · rw [List.drop_eq_nil_of_le (by omega), List.drop_eq_nil_of_le (by omega), getD_ge (by omega)]; rfl
theorem limb_ge (l : List Int) (i : Nat) : spec_l1Limb.f l (i : Int) = some (l.getD i 0) := by
  unfold spec_l1Limb.f
  by_cases h : (i : Int) < (l.length : Int)
  · rw [if_pos h, if_pos (by omega), rdn, Int.toNat_natCast]
  · rw [if_neg h, getD_ge (by omega)]
theorem dig_push {l : List Int} (h : Dig l) {x : Int} (h0 : 0 ≤ x) (h1 : x ≤ 9999) : Dig (l ++ [x]) := h.append (Dig.cons h0 h1 Dig.nil)
theorem val_push (l : List Int) (x : Int) : val (l ++ [x]) = val l + pw l.length * x := by rw [val_append]; simp [val]
theorem iSub_l1 (v : Int) (hv : 0 ≤ v) : ∀ (m k i : Nat) (x : List Int), i + m = x.length → x.length ≤ 1000 → m + 1100 ≤ k → val x = v →
    (∀ j, j < i → 0 ≤ x.getD j 0 ∧ x.getD j 0 ≤ 9999) → (∀ j, i < j → -9999 ≤ x.getD j 0 ∧ x.getD j 0 ≤ 9999) → (-10000 ≤ x.getD i 0 ∧ x.getD i 0 ≤ 9999) →
    impl_limbs_sub.l1 k x (x.length : Int) (i : Int) = some (rep v) := by
  intro m
  induction m with
  | zero =>
    intro k i x hi hl hk hx h1 h2 h3
    obtain ⟨k, rfl⟩ : ∃ j, k = j + 1 := ⟨k - 1, by omega⟩
    have hd : Dig x := dig_of_getD fun j hj => h1 j (by omega)
    rw [impl_limbs_sub.l1, if_neg (by omega), iTrim_ge x (by omega) k (by omega), trimL_rep hd, hx]
    rfl
  | succ m ih =>
    intro k i x hi hl hk hx h1 h2 h3
    obtain ⟨k, rfl⟩ : ∃ j, k = j + 1 := ⟨k - 1, by omega⟩
    have hlt : i < x.length := by omega
    have hdt : Dig (x.take i) := dig_of_getD fun j hj => by
      rw [List.length_take] at hj
      rw [getD_take x (by omega)]; exact h1 j (by omega)
    rw [impl_limbs_sub.l1, if_pos (by omega), if_pos (by omega), if_pos (by omega)]
    simp only [rdN]
    rw [Int.toNat_natCast, w64 (x := (i : Int) + 1) (by omega) (by omega)]
    by_cases hneg : x.getD i 0 < 0
    · have hlt1 : i + 1 < x.length := by
        apply Nat.lt_of_not_le
        intro hc
        have es := val_split x (n := i) (by omega)
        rw [val_drop x i, List.drop_eq_nil_of_le (show x.length ≤ i + 1 by omega), val_nil] at es
        have hlt2 := val_lt hdt
        rw [List.length_take, Nat.min_eq_left (by omega)] at hlt2
        have hp := pw_pos i
        have : pw i * (x.getD i 0 + 10000 * 0) ≤ pw i * (-1) := Int.mul_le_mul_of_nonneg_left (by omega) (by omega)
        omega
      have n1 := h2 (i + 1) (by omega)
      rw [if_pos hneg]
      simp only [Option.bind_some]
      rw [if_pos (by omega), if_pos (by omega), rdn, show ((i : Int) + 1).toNat = i + 1 from by omega, w64 (x := x.getD i 0 + 10000) (by omega) (by omega), getD_set_ne _ hlt (by omega), w64 (by omega) (by omega), show ((i : Int) + 1) = ((i + 1 : Nat) : Int) from by omega]
      have hlen : ((x.set i (x.getD i 0 + 10000)).set (i + 1) (x.getD (i + 1) 0 - 1)).length = x.length := by simp
      have e := ih k (i + 1) ((x.set i (x.getD i 0 + 10000)).set (i + 1) (x.getD (i + 1) 0 - 1)) (by rw [hlen]; omega) (by rw [hlen]; omega) (by omega) ?_ ?_ ?_ ?_
      · rw [hlen] at e; exact e
      · rw [val_set _ _ _ (by rw [List.length_set]; omega), val_set _ _ _ hlt, getD_set_ne _ hlt (by omega), pw_succ, hx]
        grind
      · intro j hj
        rw [getD_set_ne _ (by rw [List.length_set]; omega) (by omega)]
        by_cases hji : j = i
        · rw [hji, getD_set_eq _ hlt]; omega
        · rw [getD_set_ne _ hlt hji]; exact h1 j (by omega)
      · intro j hj
        rw [getD_set_ne _ (by rw [List.length_set]; omega) (by omega), getD_set_ne _ hlt (by omega)]; exact h2 j (by omega)
      · rw [getD_set_eq _ (by rw [List.length_set]; omega)]; omega
    · rw [if_neg hneg, show ((i : Int) + 1) = ((i + 1 : Nat) : Int) from by omega]
      exact ih k (i + 1) x (by omega) hl (by omega) hx (fun j hj => by
        by_cases hji : j = i
        · rw [hji]; omega
        · exact h1 j (by omega)) (fun j hj => h2 j (by omega)) (by have := h2 (i + 1) (by omega); omega)
theorem iSub_l0 {b : List Int} (hb : Dig b) : ∀ (m k i : Nat) (x : List Int), i + m = b.length → b.length ≤ x.length → x.length ≤ 1000 → m + 2200 ≤ k → 0 ≤ val x - pw i * val (b.drop i) →
    (∀ j, j < i → -9999 ≤ x.getD j 0 ∧ x.getD j 0 ≤ 9999) → (∀ j, i ≤ j → 0 ≤ x.getD j 0 ∧ x.getD j 0 ≤ 9999) →
    impl_limbs_sub.l0 k x b (b.length : Int) (i : Int) = some (rep (val x - pw i * val (b.drop i))) := by
  intro m
  induction m with
  | zero =>
    intro k i x hi hx hl hk hv h1 h2
    obtain ⟨k, rfl⟩ : ∃ j, k = j + 1 := ⟨k - 1, by omega⟩
    rw [List.drop_eq_nil_of_le (by omega), val_nil, Int.mul_zero, Int.sub_zero] at hv
    rw [impl_limbs_sub.l0, if_neg (by omega), List.drop_eq_nil_of_le (by omega), val_nil, Int.mul_zero, Int.sub_zero]
    have hall : ∀ j, -9999 ≤ x.getD j 0 ∧ x.getD j 0 ≤ 9999 := fun j => by
      by_cases hj : j < i
      · exact h1 j hj
      · have := h2 j (by omega); omega
    exact iSub_l1 (val x) hv x.length k 0 x (by omega) hl (by omega) rfl (fun j hj => by omega) (fun j _ => hall j) (by have := hall 0; omega)
  | succ m ih =>
    intro k i x hi hx hl hk hv h1 h2
    obtain ⟨k, rfl⟩ : ∃ j, k = j + 1 := ⟨k - 1, by omega⟩
    have hlt : i < b.length := by omega
    have hltx : i < x.length := by omega
    have b1 := hb.getD i
    have b2 := h2 i (by omega)
    rw [impl_limbs_sub.l0, if_pos (by omega), if_pos (by omega), if_pos (by omega), if_pos (by omega), w64 (x := (i : Int) + 1) (by omega) (by omega)]
    simp only [rdn]
    rw [Int.toNat_natCast, w64 (by omega) (by omega), show ((i : Int) + 1) = ((i + 1 : Nat) : Int) from by omega]
    have hval : val (x.set i (x.getD i 0 - b.getD i 0)) - pw (i + 1) * val (b.drop (i + 1)) = val x - pw i * val (b.drop i) := by
      rw [val_set _ _ _ hltx, val_drop b i, pw_succ]
      grind
    have e := ih k (i + 1) (x.set i (x.getD i 0 - b.getD i 0)) (by omega) (by simp; omega) (by simp; omega) (by omega) (by rw [hval]; exact hv) ?_ ?_
    · rw [e, hval]
    · intro j hj
      by_cases hji : j = i
      · rw [hji, getD_set_eq _ hltx]; omega
      · rw [getD_set_ne _ hltx hji]; exact h1 j (by omega)
    · intro j hj
      rw [getD_set_ne _ hltx (by omega)]; exact h2 j (by omega)
theorem len_le_of_val {a b : List Int} (ha : Dig a) (hb : Dig b) (zb : Nz b) (h : val b ≤ val a) : b.length ≤ a.length := by
  apply Nat.le_of_not_lt
  intro hc
  have := val_lt_of_len ha hb zb hc
  omega
theorem iSub_ge {a b : List Int} (ha : Dig a) (hb : Dig b) (zb : Nz b) (la : a.length ≤ 1000) (h : val b ≤ val a) (k : Nat) (hk : 4000 ≤ k) : impl_limbs_sub.f k a b = some (rep (val a - val b)) := by
  unfold impl_limbs_sub.f clone100.f
  have hlen := len_le_of_val ha hb zb h
  rw [if_pos (by omega)]
  simp only [Option.bind_some]
  have e := iSub_l0 hb b.length k 0 a (by omega) hlen la (by omega) (by rw [List.drop_zero, pw_zero]; omega) (fun j hj => by omega) (fun j _ => ha.getD j)
  rw [List.drop_zero, pw_zero, Int.one_mul] at e
  exact e
theorem sSub_step {a b : List Int} (ha : Dig a) (hb : Dig b) (hab : b.length ≤ a.length) (la : a.length ≤ 1000) (v : Int) (hv : 0 ≤ v) : ∀ (m k : Nat) (acc : List Int) (c : Int), Dig acc → acc.length + m = a.length → 0 ≤ c → c ≤ 1 → m + 1100 ≤ k →
    val acc + pw acc.length * (val (a.drop acc.length) - val (b.drop acc.length) - c) = v →
    spec_l1SubAbs.l0 k a b acc c (acc.length : Int) = some (rep v) := by
  intro m
  induction m with
  | zero =>
    intro k acc c hd hm h0 h1 hk he
    obtain ⟨k, rfl⟩ : ∃ j, k = j + 1 := ⟨k - 1, by omega⟩
    rw [List.drop_eq_nil_of_le (by omega), List.drop_eq_nil_of_le (by omega), val_nil] at he
    have hc : c = 0 := by
      have := val_lt hd
      have hc2 : c = 0 ∨ c = 1 := by omega
      rcases hc2 with h | h
      · exact h
      · subst h; omega
    subst hc
    rw [spec_l1SubAbs.l0, if_neg (by omega), sTrim_ge acc (by omega) k (by omega), trimL_rep hd, ← he]
    simp
  | succ m ih =>
    intro k acc c hd hm h0 h1 hk he
    obtain ⟨k, rfl⟩ : ∃ j, k = j + 1 := ⟨k - 1, by omega⟩
    have b1 := ha.getD acc.length
    have b2 := hb.getD acc.length
    rw [val_drop a acc.length, val_drop b acc.length] at he
    rw [spec_l1SubAbs.l0, if_pos (by omega), if_pos (by omega), limb_ge]
    simp only [Option.bind_some, rdN]
    rw [w64 (x := a.getD acc.length 0 - b.getD acc.length 0) (by omega) (by omega), w64 (x := a.getD acc.length 0 - b.getD acc.length 0 - c) (by omega) (by omega), w64 (x := (acc.length : Int) + 1) (by omega) (by omega)]
    by_cases hn : a.getD acc.length 0 - b.getD acc.length 0 - c < 0
    · rw [if_pos hn, if_pos (by omega), w64 (by omega) (by omega)]
      have e := ih k (acc ++ [a.getD acc.length 0 - b.getD acc.length 0 - c + 10000]) 1 (dig_push hd (by omega) (by omega)) (by simp; omega) (by omega) (by omega) (by omega)
        (by rw [val_push, List.length_append, List.length_cons, List.length_nil, Nat.zero_add, pw_succ, ← he]; grind)
      rw [List.length_append, List.length_cons, List.length_nil, Nat.zero_add] at e
      rw [show ((acc.length : Int) + 1) = ((acc.length + 1 : Nat) : Int) from by omega]
      exact e
    · rw [if_neg hn, if_pos (by omega)]
      have e := ih k (acc ++ [a.getD acc.length 0 - b.getD acc.length 0 - c]) 0 (dig_push hd (by omega) (by omega)) (by simp; omega) (by omega) (by omega) (by omega)
        (by rw [val_push, List.length_append, List.length_cons, List.length_nil, Nat.zero_add, pw_succ, ← he]; grind)
      rw [List.length_append, List.length_cons, List.length_nil, Nat.zero_add] at e
      rw [show ((acc.length : Int) + 1) = ((acc.length + 1 : Nat) : Int) from by omega]
      exact e
theorem sSub_ge {a b : List Int} (ha : Dig a) (hb : Dig b) (zb : Nz b) (la : a.length ≤ 1000) (h : val b ≤ val a) (k : Nat) (hk : 4000 ≤ k) : spec_l1SubAbs.f k a b = some (rep (val a - val b)) := by
  have hlen := len_le_of_val ha hb zb h
  exact sSub_step ha hb hlen la (val a - val b) (by omega) a.length k [] 0 Dig.nil (by simp) (by omega) (by omega) (by omega) (by rw [List.length_nil, List.drop_zero, List.drop_zero, pw_zero, val_nil]; omega)
end Go.Proofs.Ytdemeoncjcbojaa.Val
end
section
namespace Go.Proofs.Ytdemeoncjcbojaa.Val
open Go.RowKit Go.Proofs.Ytdemeoncjcbojaa.Pr Go.Proofs.Ytdemeoncjcbojaa.Ext Go.Proofs.Ytdemeoncjcbojaa.Jt Go.Proofs.YtdemeoncjcbojaaW.PrintWords Go.Proofs.YtdemeoncjcbojaaW.PrintLast Go.Proofs.YtdemeoncjcbojaaW.PrintMore
set_option linter.unusedVariables false
set_option linter.unusedSimpArgs false
def sv (q : Bool) (v : Int) : Int := if q = true then -v else v
theorem sv_rep {q : Bool} {v : Int} (h : 0 ≤ v) : bigv q (rep v) = sv q v := by unfold bigv sv; rw [rep_val h]
theorem rep_len_le {v : Int} (h0 : 0 ≤ v) {n : Nat} (h : v < pw n) : (rep v).length ≤ n := (rep_len h0 n).2 h
abbrev No : Bool × List Int × Bool := (false, [], false)
theorem bigs_f (n : Bool) (l : List Int) (n' : Bool) (l' : List Int) : impl_bigs.f n l n' l' = some (okB n l && okB n' l') := by
  unfold impl_bigs.f
  rw [bigOk_f, bigOk_f]
  simp only [Option.bind_some]
  cases okB n l <;> simp
end Go.Proofs.Ytdemeoncjcbojaa.Val
end
section
namespace Go.Proofs.Ytdemeoncjcbojaa.Val
open Go.RowKit Go.Proofs.Ytdemeoncjcbojaa.Pr Go.Proofs.Ytdemeoncjcbojaa.Ext Go.Proofs.Ytdemeoncjcbojaa.Jt Go.Proofs.YtdemeoncjcbojaaW.PrintWords Go.Proofs.YtdemeoncjcbojaaW.PrintLast Go.Proofs.YtdemeoncjcbojaaW.PrintMore
set_option linter.unusedVariables false
set_option linter.unusedSimpArgs false
theorem mul_bd {x y : Int} (hx : 0 ≤ x ∧ x ≤ 9999) (hy : 0 ≤ y ∧ y ≤ 9999) : 0 ≤ x * y ∧ x * y ≤ 99980001 := by
  constructor
  · exact Int.mul_nonneg hx.1 hy.1
  · have h1 : x * y ≤ 9999 * y := Int.mul_le_mul_of_nonneg_right hx.2 hy.1
    have h2 : 9999 * y ≤ 9999 * 9999 := Int.mul_le_mul_of_nonneg_left hy.2 (by omega)
    omega
theorem dig_set {l : List Int} (hd : Dig l) {i : Nat} {v : Int} (h0 : 0 ≤ v) (h1 : v ≤ 9999) : Dig (l.set i v) := by
  intro x hx
  rcases List.mem_or_eq_of_mem_set hx with h | h
  · exact hd x h
  · subst h; exact ⟨h0, h1⟩
theorem mul_cell {out : List Int} {p : Nat} {d e c R V : Int} (hp : p < out.length) (x : Int) (hx : x = out.getD p 0 + d * e + c) :
    val (out.set p (x % 10000)) + pw (p + 1) * (d * V + x / 10000) + R = val out + pw p * (d * (e + 10000 * V) + c) + R := by
  rw [val_set _ _ _ hp, pw_succ]
  have e1 : x = 10000 * (x / 10000) + x % 10000 := by omega
  generalize x / 10000 = q at e1 ⊢
  generalize x % 10000 = r at e1 ⊢
  generalize out.getD p 0 = o at *
  have e2 : r = o + d * e + c - 10000 * q := by omega
  subst e2
  grind
theorem iMul_l1 {a b : List Int} (hb : Dig b) (lb : b.length ≤ 50) {i : Nat} (hi : i < a.length) (la : a.length ≤ 50) {d : Int} (hd : 0 ≤ d ∧ d ≤ 9999) (K : Nat)
    (H : ∀ k out, K ≤ k → Dig out → out.length = a.length + b.length + 1 → (∀ q, i + 1 + b.length ≤ q → out.getD q 0 = 0) → impl_limbs_mul.l0 k b out a (a.length : Int) ((i + 1 : Nat) : Int) = some (rep (val out + pw (i + 1) * (val (a.drop (i + 1)) * val b)))) :
    ∀ (m k j : Nat) (out : List Int) (c : Int), j + m = b.length → K + m + 1 ≤ k → Dig out → out.length = a.length + b.length + 1 → 0 ≤ c → c ≤ 9999 → (∀ q, i + b.length ≤ q → out.getD q 0 = 0) →
      impl_limbs_mul.l1 k b out (i : Int) d c a (a.length : Int) (i : Int) b (b.length : Int) (j : Int) = some (rep (val out + pw (i + j) * (d * val (b.drop j) + c) + pw (i + 1) * (val (a.drop (i + 1)) * val b))) := by
  intro m
  induction m with
  | zero =>
    intro k j out c hj hk ho hL c0 c1 hz
    obtain ⟨k, rfl⟩ : ∃ q, k = q + 1 := ⟨k - 1, by omega⟩
    have hlt : i + b.length < out.length := by omega
    rw [impl_limbs_mul.l1, if_neg (by omega), w64 (x := (i : Int) + (b.length : Int)) (by omega) (by omega), if_pos (by omega), if_pos (by omega), rdn, show ((i : Int) + (b.length : Int)).toNat = i + b.length from by omega, hz _ (Nat.le_refl _),
      w64 (x := (0 : Int) + c) (by omega) (by omega), w64 (x := (i : Int) + 1) (by omega) (by omega), show ((i : Int) + 1) = ((i + 1 : Nat) : Int) from by omega]
    rw [H k _ (by omega) (dig_set ho (by omega) (by omega)) (by rw [List.length_set]; exact hL) (fun q hq => by rw [getD_set_ne _ hlt (by omega)]; exact hz q (by omega))]
    rw [val_set _ _ _ hlt, hz _ (Nat.le_refl _), List.drop_eq_nil_of_le (show b.length ≤ j by omega), val_nil, show i + j = i + b.length from by omega]
    congr 3
    grind
  | succ m ih =>
    intro k j out c hj hk ho hL c0 c1 hz
    obtain ⟨k, rfl⟩ : ∃ q, k = q + 1 := ⟨k - 1, by omega⟩
    have hlt : i + j < out.length := by omega
    have b1 := hb.getD j
    have b2 := ho.getD (i + j)
    have b3 := mul_bd hd b1
    rw [impl_limbs_mul.l1, if_pos (by omega), w64 (x := (i : Int) + (j : Int)) (by omega) (by omega), if_pos (by omega), if_pos (by omega), if_pos (by omega), if_pos (by omega)]
    simp only [rdn]
    rw [show ((i : Int) + (j : Int)).toNat = i + j from by omega, Int.toNat_natCast, w64 (x := d * b.getD j 0) (by omega) (by omega), w64 (x := out.getD (i + j) 0 + d * b.getD j 0) (by omega) (by omega), w64 (x := out.getD (i + j) 0 + d * b.getD j 0 + c) (by omega) (by omega),
      w64 (x := (j : Int) + 1) (by omega) (by omega), Int.tdiv_eq_ediv_of_nonneg (by omega), Int.tmod_eq_emod_of_nonneg (by omega)]
    rw [w64 (by omega) (by omega), show ((j : Int) + 1) = ((j + 1 : Nat) : Int) from by omega]
    rw [ih k (j + 1) _ _ (by omega) (by omega) (dig_set ho (by omega) (by omega)) (by rw [List.length_set]; exact hL) (by omega) (by omega) (fun q hq => by rw [getD_set_ne _ hlt (by omega)]; exact hz q hq)]
    rw [val_drop b j, show i + (j + 1) = i + j + 1 from by omega, mul_cell hlt _ rfl]
theorem iMul_l0 {a b : List Int} (ha : Dig a) (hb : Dig b) (la : a.length ≤ 50) (lb : b.length ≤ 50) : ∀ (m i : Nat), i + m = a.length → ∀ k out, 1200 + 60 * m ≤ k → Dig out → out.length = a.length + b.length + 1 → (∀ q, i + b.length ≤ q → out.getD q 0 = 0) →
    impl_limbs_mul.l0 k b out a (a.length : Int) (i : Int) = some (rep (val out + pw i * (val (a.drop i) * val b))) := by
  intro m
  induction m with
  | zero =>
    intro i hi k out hk ho hL hz
    obtain ⟨k, rfl⟩ : ∃ q, k = q + 1 := ⟨k - 1, by omega⟩
    rw [impl_limbs_mul.l0, if_neg (by omega), iTrim_ge out (by omega) k (by omega), trimL_rep ho, List.drop_eq_nil_of_le (by omega), val_nil]
    simp
  | succ m ih =>
    intro i hi k out hk ho hL hz
    obtain ⟨k, rfl⟩ : ∃ q, k = q + 1 := ⟨k - 1, by omega⟩
    have a1 := ha.getD i
    rw [impl_limbs_mul.l0, if_pos (by omega), if_pos (by omega), if_pos (by omega), rdn, Int.toNat_natCast]
    have e := iMul_l1 hb lb (i := i) (a := a) (by omega) la a1 (1200 + 60 * m) (fun k out hk h1 h2 h3 => ih (i + 1) (by omega) k out hk h1 h2 h3) b.length k 0 out 0 (by omega) (by omega) ho hL (by omega) (by omega) hz
    refine e.trans ?_
    rw [List.drop_zero, Nat.add_zero, val_drop a i, pw_succ]
    congr 2
    grind
theorem iMul_ge {a b : List Int} (ha : Dig a) (hb : Dig b) (la : a.length ≤ 50) (lb : b.length ≤ 50) (k : Nat) (hk : 5000 ≤ k) : impl_limbs_mul.f k a b = some (rep (val a * val b)) := by
  unfold impl_limbs_mul.f
  rw [w64 (x := (a.length : Int) + (b.length : Int)) (by omega) (by omega), w64 (by omega) (by omega), if_pos (by omega), if_pos (by omega), show ((a.length : Int) + (b.length : Int) + 1).toNat = a.length + b.length + 1 from by omega]
  have hz : ∀ q, (List.replicate (a.length + b.length + 1) (0 : Int)).getD q 0 = 0 := fun q => by
    rw [List.getD_eq_getElem?_getD, List.getElem?_replicate]; split <;> rfl
  have e := iMul_l0 ha hb la lb a.length 0 (by omega) k (List.replicate (a.length + b.length + 1) 0) (by omega) (dig_of_getD fun q _ => by rw [hz]; omega) (by simp) (fun q _ => hz q)
  rw [val_replicate, List.drop_zero, pw_zero] at e
  refine e.trans ?_
  congr 2
  omega
theorem sMul_l1 {a b : List Int} (ha : Dig a) (hb : Dig b) (lb : b.length ≤ 50) {i : Nat} (hi : i < a.length) (la : a.length ≤ 50) (K : Nat)
    (H : ∀ k out, K ≤ k → Dig out → out.length = a.length + b.length → (∀ q, i + 1 + b.length ≤ q → out.getD q 0 = 0) → spec_l1MulAbs.l0 k a b out ((i + 1 : Nat) : Int) = some (rep (val out + pw (i + 1) * (val (a.drop (i + 1)) * val b)))) :
    ∀ (m k j : Nat) (out : List Int) (c : Int), j + m = b.length → K + m + 3 ≤ k → Dig out → out.length = a.length + b.length → 0 ≤ c → c ≤ 9999 → (∀ q, i + b.length ≤ q → out.getD q 0 = 0) →
      spec_l1MulAbs.l1 k a b out (i : Int) c (j : Int) = some (rep (val out + pw (i + j) * (a.getD i 0 * val (b.drop j) + c) + pw (i + 1) * (val (a.drop (i + 1)) * val b))) := by
  intro m
  induction m with
  | zero =>
    intro k j out c hj hk ho hL c0 c1 hz
    obtain ⟨k, rfl⟩ : ∃ q, k = q + 2 := ⟨k - 2, by omega⟩
    have hlt : i + b.length < out.length := by omega
    have hjb : j = b.length := by omega
    subst hjb
    rw [spec_l1MulAbs.l1, if_neg (by omega)]
    by_cases hc : c > 0
    · rw [if_pos hc, w64 (x := (i : Int) + (b.length : Int)) (by omega) (by omega), if_pos (by omega), if_pos (by omega), if_pos (by omega), if_pos (by omega), limb_ge, Option.bind_some]
      have e1 : wrap64 (wrap64 (rd out ((i : Int) + (b.length : Int)) + wrap64 (rd a (i : Int) * b.getD b.length 0)) + c) = c := by
        rw [getD_ge (l := b) (Nat.le_refl _), Int.mul_zero, rdn, show ((i : Int) + (b.length : Int)).toNat = i + b.length from by omega, hz _ (Nat.le_refl _)]
        unfold wrap64; omega
      rw [e1, Int.tdiv_eq_ediv_of_nonneg (by omega), Int.tmod_eq_emod_of_nonneg (by omega), show c % 10000 = c from by omega, show c / 10000 = 0 from by omega, show wrap64 0 = 0 from by unfold wrap64; omega, w64 (x := (b.length : Int) + 1) (by omega) (by omega),
        show ((i : Int) + (b.length : Int)).toNat = i + b.length from by omega]
      rw [spec_l1MulAbs.l1, if_neg (by omega), if_neg (by omega), w64 (x := (i : Int) + 1) (by omega) (by omega), show ((i : Int) + 1) = ((i + 1 : Nat) : Int) from by omega]
      rw [H k _ (by omega) (dig_set ho (by omega) (by omega)) (by rw [List.length_set]; exact hL) (fun q hq => by rw [getD_set_ne _ hlt (by omega)]; exact hz q (by omega))]
      rw [val_set _ _ _ hlt, hz _ (Nat.le_refl _), List.drop_length, val_nil, Int.sub_zero, Int.mul_zero, Int.zero_add]
    · have hc0 : c = 0 := by omega
      subst hc0
      rw [if_neg hc, w64 (x := (i : Int) + 1) (by omega) (by omega), show ((i : Int) + 1) = ((i + 1 : Nat) : Int) from by omega]
      rw [H (k + 1) _ (by omega) ho hL (fun q hq => hz q (by omega)), List.drop_length, val_nil]
      simp
  | succ m ih =>
    intro k j out c hj hk ho hL c0 c1 hz
    obtain ⟨k, rfl⟩ : ∃ q, k = q + 1 := ⟨k - 1, by omega⟩
    have hlt : i + j < out.length := by omega
    have b1 := hb.getD j
    have b2 := ho.getD (i + j)
    have b3 := mul_bd (ha.getD i) b1
    rw [spec_l1MulAbs.l1, if_pos (by omega), w64 (x := (i : Int) + (j : Int)) (by omega) (by omega), if_pos (by omega), if_pos (by omega), if_pos (by omega), if_pos (by omega), limb_ge]
    simp only [Option.bind_some, rdn]
    rw [show ((i : Int) + (j : Int)).toNat = i + j from by omega, Int.toNat_natCast, w64 (x := a.getD i 0 * b.getD j 0) (by omega) (by omega), w64 (x := out.getD (i + j) 0 + a.getD i 0 * b.getD j 0) (by omega) (by omega), w64 (x := out.getD (i + j) 0 + a.getD i 0 * b.getD j 0 + c) (by omega) (by omega),
      w64 (x := (j : Int) + 1) (by omega) (by omega), Int.tdiv_eq_ediv_of_nonneg (by omega), Int.tmod_eq_emod_of_nonneg (by omega)]
    rw [w64 (by omega) (by omega), show ((j : Int) + 1) = ((j + 1 : Nat) : Int) from by omega]
    rw [ih k (j + 1) _ _ (by omega) (by omega) (dig_set ho (by omega) (by omega)) (by rw [List.length_set]; exact hL) (by omega) (by omega) (fun q hq => by rw [getD_set_ne _ hlt (by omega)]; exact hz q hq)]
    rw [val_drop b j, show i + (j + 1) = i + j + 1 from by omega, mul_cell hlt _ rfl]
theorem sMul_l0 {a b : List Int} (ha : Dig a) (hb : Dig b) (la : a.length ≤ 50) (lb : b.length ≤ 50) : ∀ (m i : Nat), i + m = a.length → ∀ k out, 1200 + 60 * m ≤ k → Dig out → out.length = a.length + b.length → (∀ q, i + b.length ≤ q → out.getD q 0 = 0) →
    spec_l1MulAbs.l0 k a b out (i : Int) = some (rep (val out + pw i * (val (a.drop i) * val b))) := by
  intro m
  induction m with
  | zero =>
    intro i hi k out hk ho hL hz
    obtain ⟨k, rfl⟩ : ∃ q, k = q + 1 := ⟨k - 1, by omega⟩
    rw [spec_l1MulAbs.l0, if_neg (by omega), sTrim_ge out (by omega) k (by omega), trimL_rep ho, List.drop_eq_nil_of_le (by omega), val_nil]
    simp
  | succ m ih =>
    intro i hi k out hk ho hL hz
    obtain ⟨k, rfl⟩ : ∃ q, k = q + 1 := ⟨k - 1, by omega⟩
    rw [spec_l1MulAbs.l0, if_pos (by omega)]
    have e := sMul_l1 ha hb lb (i := i) (by omega) la (1200 + 60 * m) (fun k out hk h1 h2 h3 => ih (i + 1) (by omega) k out hk h1 h2 h3) b.length k 0 out 0 (by omega) (by omega) ho hL (by omega) (by omega) hz
    refine e.trans ?_
    rw [List.drop_zero, Nat.add_zero, val_drop a i, pw_succ]
    congr 2
    grind
theorem sMul_ge {a b : List Int} (ha : Dig a) (hb : Dig b) (la : a.length ≤ 50) (lb : b.length ≤ 50) (k : Nat) (hk : 5000 ≤ k) : spec_l1MulAbs.f k a b = some (rep (val a * val b)) := by
  unfold spec_l1MulAbs.f
  rw [w64 (x := (a.length : Int) + (b.length : Int)) (by omega) (by omega), if_pos (by omega), if_pos (by omega), show ((a.length : Int) + (b.length : Int)).toNat = a.length + b.length from by omega]
  have hz : ∀ q, (List.replicate (a.length + b.length) (0 : Int)).getD q 0 = 0 := fun q => by
    rw [List.getD_eq_getElem?_getD, List.getElem?_replicate]; split <;> rfl
  have e := sMul_l0 ha hb la lb a.length 0 (by omega) k (List.replicate (a.length + b.length) 0) (by omega) (dig_of_getD fun q _ => by rw [hz]; omega) (by simp) (fun q _ => hz q)
  rw [val_replicate, List.drop_zero, pw_zero] at e
  refine e.trans ?_
  congr 2
  omega
theorem bS {α β : Type} (a : α) (f : α → Option β) : (some a).bind f = f a := by have h := Option.bind_some a f; rw [h]
theorem u64w {x : Int} (h0 : 0 ≤ x) (h1 : x ≤ 18446744073709551615) : IntKind.u64.wrap x = x := by
  have : IntKind.u64.wrap x = x % 18446744073709551616 := by simp [IntKind.wrap, IntKind.signed, IntKind.bits]
  rw [this]; omega
theorem limbsOf_l0 : ∀ (m k : Nat) (x : Int) (acc : List Int), 0 ≤ x → x ≤ 9223372036854775808 → x < pw m → acc.length + m ≤ 50 → m + 1 ≤ k → Dig acc → ∃ l, impl_limbsOf.l0 k x acc = some l ∧ Dig l ∧ val l = val acc + pw acc.length * x ∧ l.length ≤ 50 := by
  intro m
  induction m with
  | zero =>
    intro k x acc h0 h1 hx hl hk hd
    obtain ⟨k, rfl⟩ : ∃ j, k = j + 1 := ⟨k - 1, by omega⟩
    rw [pw_zero] at hx
    refine ⟨acc, by rw [impl_limbsOf.l0, if_neg (by omega)], hd, by rw [show x = 0 from by omega]; omega, by omega⟩
  | succ m ih =>
    intro k x acc h0 h1 hx hl hk hd
    obtain ⟨k, rfl⟩ : ∃ j, k = j + 1 := ⟨k - 1, by omega⟩
    rw [pw_succ] at hx
    by_cases hz : x > 0
    · obtain ⟨l, e, hd', hv, hl'⟩ := ih k (x / 10000) (acc ++ [x % 10000]) (by omega) (by omega) (by omega) (by simp; omega) (by omega) (dig_push hd (by omega) (by omega))
      refine ⟨l, ?_, hd', ?_, hl'⟩
      · rw [impl_limbsOf.l0, if_pos hz, if_pos (by omega), Int.tdiv_eq_ediv_of_nonneg h0, Int.tmod_eq_emod_of_nonneg h0, u64w (by omega) (by omega), w64 (by omega) (by omega)]
        exact e
      · rw [hv, val_push, List.length_append, List.length_cons, List.length_nil, Nat.zero_add, pw_succ]
        have e3 : x = 10000 * (x / 10000) + x % 10000 := by omega
        generalize x / 10000 = q at e3 ⊢
        generalize x % 10000 = r at e3 ⊢
        subst e3
        grind
    · refine ⟨acc, by rw [impl_limbsOf.l0, if_neg hz], hd, by rw [show x = 0 from by omega]; omega, by omega⟩
theorem pw5 : pw 5 = 100000000000000000000 := by decide
theorem limbsOf_ge {x : Int} (h0 : 0 ≤ x) (h1 : x ≤ 9223372036854775808) (k : Nat) (hk : 10 ≤ k) : ∃ l, impl_limbsOf.f k x = some l ∧ Dig l ∧ val l = x ∧ l.length ≤ 50 := by
  obtain ⟨l, e, hd, hv, hl⟩ := limbsOf_l0 5 k x [] h0 h1 (by rw [pw5]; omega) (by simp) (by omega) Dig.nil
  refine ⟨l, e, hd, ?_, hl⟩
  rw [hv, List.length_nil, pw_zero, val_nil]; omega
end Go.Proofs.Ytdemeoncjcbojaa.Val
end
section
namespace Go.Proofs.Ytdemeoncjcbojaa.Dv
open Go.RowKit Go.Proofs.Ytdemeoncjcbojaa.Jt Go.Proofs.Ytdemeoncjcbojaa.Val Go.Proofs.YtdemeoncjcbojaaW.PrintWords
set_option linter.unusedVariables false
def restV (l : List Int) (B : Int) (m : Nat) : Int := val (l.drop m) % B
def topV (l : List Int) (B : Int) (m : Nat) : Int := l.getD m 0 + 10000 * restV l B (m + 1)
def qd (l : List Int) (B : Int) (j : Nat) : Int := topV l B j / B
def outL (l : List Int) (B : Int) (m : Nat) : List Int := (List.range l.length).map fun j => if j < m then 0 else qd l B j
theorem outL_len (l : List Int) (B : Int) (m : Nat) : (outL l B m).length = l.length := by simp [outL]
theorem outL_get {l : List Int} {B : Int} {m j : Nat} (h : j < l.length) : (outL l B m).getD j 0 = if j < m then 0 else qd l B j := by
  unfold outL
  rw [List.getD_eq_getElem?_getD, List.getElem?_map, List.getElem?_range h]
  rfl
theorem ext_d {x y : List Int} (h : x.length = y.length) (hg : ∀ j, j < y.length → x.getD j 0 = y.getD j 0) : x = y := by
  apply List.ext_getElem h
  intro i h1 h2
  have := hg i h2
  rwa [getD_lt h1, getD_lt h2] at this
theorem outL_top (l : List Int) (B : Int) : outL l B l.length = List.replicate l.length 0 := by
  refine ext_d (by rw [outL_len, List.length_replicate]) (fun j hj => ?_)
  rw [List.length_replicate] at hj
  rw [outL_get hj, if_pos hj, getD_lt (by rw [List.length_replicate]; exact hj), List.getElem_replicate]
theorem outL_step {l : List Int} {B : Int} {m : Nat} (h : m < l.length) : (outL l B (m + 1)).set m (qd l B m) = outL l B m := by
  refine ext_d (by rw [List.length_set, outL_len, outL_len]) (fun j hj => ?_)
  rw [outL_len] at hj
  rw [getD_set _ m j _ (by rw [outL_len]; exact h), outL_get hj, outL_get hj]
  by_cases e : j = m
  · subst e
    rw [if_pos rfl, if_neg (Nat.lt_irrefl _)]
  · rw [if_neg e]
    by_cases h2 : j < m
    · rw [if_pos h2, if_pos (by omega)]
    · rw [if_neg h2, if_neg (by omega)]
section
variable {l : List Int} {B : Int} {m : Nat}
theorem rest_bd (hB : 0 < B) (m : Nat) : 0 ≤ restV l B m ∧ restV l B m < B := ⟨Int.emod_nonneg _ (by omega), Int.emod_lt_of_pos _ hB⟩
theorem top_bd (hd : Dig l) (hB : 0 < B) (m : Nat) : 0 ≤ topV l B m ∧ topV l B m < 10000 * B := by
  have h1 := rest_bd (l := l) hB (m + 1)
  have h2 := hd.getD m
  unfold topV
  omega
theorem top_val (m : Nat) (h : m < l.length) : val (l.drop m) = B * (10000 * (val (l.drop (m + 1)) / B)) + topV l B m := by
  have e1 := Int.mul_ediv_add_emod (val (l.drop (m + 1))) B
  have e2 : B * (10000 * (val (l.drop (m + 1)) / B)) = 10000 * (B * (val (l.drop (m + 1)) / B)) := by rw [← Int.mul_assoc, Int.mul_comm B 10000, Int.mul_assoc]
  rw [e2, drop_cons h]
  unfold topV restV
  show l.getD m 0 + 10000 * val (l.drop (m + 1)) = _
  omega
theorem top_mod (m : Nat) (h : m < l.length) : topV l B m % B = restV l B m := by
  unfold restV
  rw [top_val (B := B) m h, Int.mul_add_emod_self_left]
theorem top_div (hB : 0 < B) (m : Nat) (h : m < l.length) : val (l.drop m) / B = 10000 * (val (l.drop (m + 1)) / B) + qd l B m := by
  rw [top_val (B := B) m h, Int.mul_add_ediv_left _ _ (by omega)]
  rfl
theorem qd_bd (hd : Dig l) (hB : 0 < B) (m : Nat) : 0 ≤ qd l B m ∧ qd l B m ≤ 9999 := by
  obtain ⟨h0, h1⟩ := top_bd hd hB m
  refine ⟨Int.ediv_nonneg h0 (by omega), ?_⟩
  have : qd l B m < 10000 := Int.ediv_lt_of_lt_mul hB (by omega)
  omega
theorem outL_dig (hd : Dig l) (hB : 0 < B) (m : Nat) : Dig (outL l B m) := dig_of_getD fun i hi => by
  rw [outL_len] at hi
  rw [outL_get hi]
  split
  · omega
  · exact qd_bd hd hB i
theorem outL_val (hB : 0 < B) : ∀ (d m : Nat), m + d = l.length → val ((outL l B 0).drop m) = val (l.drop m) / B
  | 0, m, h => by
    rw [List.drop_eq_nil_of_le (by rw [outL_len]; omega), List.drop_eq_nil_of_le (by omega), val_nil, Int.zero_ediv]
  | d + 1, m, h => by
    rw [drop_cons (by rw [outL_len]; omega), top_div hB m (by omega), ← outL_val hB d (m + 1) (by omega), outL_get (by omega), if_neg (Nat.not_lt_zero _)]
    show qd l B m + 10000 * _ = _
    omega
theorem outL_all (hB : 0 < B) : val (outL l B 0) = val l / B := by
  have := outL_val (l := l) hB l.length 0 (by omega)
  rwa [List.drop_zero, List.drop_zero] at this
theorem rest_top : restV l B l.length = 0 := by
  unfold restV
  rw [List.drop_length, val_nil, Int.zero_emod]
theorem rest_all : restV l B 0 = val l % B := by unfold restV; rw [List.drop_zero]
end
def Srch (V B lo hi : Int) : Prop := 0 ≤ lo ∧ lo ≤ hi ∧ hi ≤ 9999 ∧ lo * B ≤ V ∧ V < (hi + 1) * B
theorem srch_start {V B : Int} (h0 : 0 ≤ V) (h1 : V < 10000 * B) : Srch V B 0 9999 := ⟨by omega, by omega, by omega, by omega, by omega⟩
theorem srch_end {V B lo hi : Int} (hB : 0 < B) (h : Srch V B lo hi) (hh : ¬ lo < hi) : lo = V / B ∧ V - B * lo = V % B ∧ lo * B ≤ V := by
  obtain ⟨a, b, c, d, e⟩ := h
  obtain rfl : lo = hi := by omega
  have e1 : lo = V / B := by
    refine Int.le_antisymm ((Int.le_ediv_iff_mul_le hB).2 d) ?_
    have : V / B < lo + 1 := Int.ediv_lt_of_lt_mul hB e
    omega
  have e2 := Int.mul_ediv_add_emod V B
  rw [← e1] at e2
  exact ⟨e1, by omega, d⟩
theorem srch_mid {V B lo hi : Int} (h : Srch V B lo hi) (hh : lo < hi) : lo < (lo + hi + 1) / 2 ∧ (lo + hi + 1) / 2 ≤ hi := by
  have := h.1
  omega
theorem srch_yes {V B lo hi m : Int} (h : Srch V B lo hi) (h1 : lo < m) (h2 : m ≤ hi) (hc : B * m - V ≤ 0) : Srch V B m hi := by
  obtain ⟨a, b, c, d, e⟩ := h
  exact ⟨by omega, h2, c, by rw [Int.mul_comm]; omega, e⟩
theorem srch_no {V B lo hi m : Int} (h : Srch V B lo hi) (h1 : lo < m) (h2 : m ≤ hi) (hc : ¬ (B * m - V ≤ 0)) : Srch V B lo (m - 1) := by
  obtain ⟨a, b, c, d, e⟩ := h
  exact ⟨a, by omega, by omega, d, by rw [show m - 1 + 1 = m by omega, Int.mul_comm]; omega⟩
end Go.Proofs.Ytdemeoncjcbojaa.Dv
end
section
namespace Go.Proofs.Ytdemeoncjcbojaa.Dw
open Go.RowKit Go.Shelf Go.Lib Go.Proofs.Ytdemeoncjcbojaa.Rng Go.Proofs.Ytdemeoncjcbojaa.Cv Go.Proofs.Ytdemeoncjcbojaa.Dv Go.Proofs.Ytdemeoncjcbojaa.Jt Go.Proofs.Ytdemeoncjcbojaa.Val Go.Proofs.Ytdemeoncjcbojaa.Pr Go.Proofs.Ytdemeoncjcbojaa.Ext Go.Proofs.YtdemeoncjcbojaaW.PrintWords Go.Proofs.YtdemeoncjcbojaaW.PrintLast Go.Proofs.YtdemeoncjcbojaaW.PrintMore
set_option linter.unusedVariables false
set_option linter.unusedSimpArgs false
def Rest (N0 : Nat) (W : World) (A : Option Addr) (c : Nat) (rv : List Int) : Prop :=
  rv.length ≤ c ∧ rv.length ≤ 9223372036854775807 ∧ (0 < rv.length → ∃ ad, A = some ad ∧ N0 ≤ ad.block ∧ ∀ j, j < rv.length → W.cell? (ad.add j) = some (.int .i64 (rv.getD j 0)))
theorem Rest.C {N0 : Nat} {W : World} {A : Option Addr} {c : Nat} {rv : List Int} (h : Rest N0 W A c rv) : Kd.C (Kd.int .i64) W A rv.length rv :=
  Kd.C_of_reads (enc := Value.int .i64) (d := (0 : Int)) ⟨rfl, h.2.1, fun hn => by
    obtain ⟨ad, e, _, hc⟩ := h.2.2 hn
    exact ⟨ad, e, hc⟩⟩
theorem cell_obj {W : World} {a : Addr} {v : Value} {o : Obj} (h : W.cell? a = some v) (ho : W.heap[a.block]? = some o) : o.isCells = true := by
  cases o <;> simp_all [World.cell?, Obj.isCells]
theorem Rest.of_V {N0 e b : Nat} {W : World} {ok : Nat → Prop} {A : Option Addr} {n c : Nat} {rv : List Int} (h : Kd.V (Kd.int .i64) e W b ok (.slice A n c) rv) (hok : ∀ k, ok k → N0 ≤ k) : Rest N0 W A c rv := by
  obtain ⟨hn, hl, hC⟩ := Kd.V_reads' h
  have hF := Kd.V_F h
  rw [hn] at hF
  refine ⟨hn ▸ hl, hC.2.1, fun hp => ?_⟩
  obtain ⟨ad, e, hc0⟩ := Kd.at_int hC 0 (by omega) (by omega)
  refine ⟨ad, e, ?_, fun j hj => ?_⟩
  · by_cases hk : ok ad.block
    · exact hok _ hk
    · exfalso
      have hC' := hF (W.putObj ad.block (.deferred none)) (fun k h1 h2 => World.putObj_heap_other (fun e => hk (e ▸ h1)))
      obtain ⟨ad', e', hc'⟩ := Kd.at_int hC' 0 (by omega) (by omega)
      rw [e] at e'
      cases e'
      have hlt := World.block_lt_of_cell? _ _ hc0
      rw [add_blk] at hlt
      have := cell_obj (o := .deferred none) hc' (by rw [add_blk]; exact World.putObj_heap_same hlt)
      cases this
  · obtain ⟨ad', e', hc⟩ := Kd.at_int hC (j : Int) (by omega) (by omega)
    rw [e] at e'
    cases e'
    rw [Int.toNat_natCast] at hc
    rw [hc]
    simp [rd]
theorem Rest.V {N0 n0 e b : Nat} {W : World} {A : Option Addr} {c : Nat} {rv : List Int} (h : Rest N0 W A c rv) (hn : n0 ≤ N0) : Kd.V (Kd.int .i64) e W b (fun k => n0 ≤ k) (.slice A rv.length c) rv :=
  Kd.V_mk h.1 (fun W' hW => Rest.C (N0 := N0) (c := c) ⟨h.1, h.2.1, fun hp => by
    obtain ⟨ad, e, hb, hc⟩ := h.2.2 hp
    refine ⟨ad, e, hb, fun j hj => ?_⟩
    have hlt := World.block_lt_of_cell? _ _ (hc j hj)
    rw [add_blk] at hlt
    rw [← hc j hj]
    exact World.cell?_of_block (by rw [add_blk]; exact hW _ (by omega) hlt)⟩)
theorem Rest.kept {N0 : Nat} {W W' : World} {S : Nat → Prop} {A : Option Addr} {c : Nat} {rv : List Int} (h : Rest N0 W A c rv) (hk : Kept W W' S) (hs : ∀ k, S k → k < N0) : Rest N0 W' A c rv :=
  ⟨h.1, h.2.1, fun hp => by
    obtain ⟨ad, e, hb, hc⟩ := h.2.2 hp
    refine ⟨ad, e, hb, fun j hj => Go.Proofs.YtdemeoncjcbojaaW.PrintWords.cell_kept (hc j hj) hk (fun hS => ?_)⟩
    rw [add_blk] at hS
    have := hs _ hS
    omega⟩
theorem Rest.grown {N0 : Nat} {W W' : World} {row : Option Nat} {A : Option Addr} {c : Nat} {rv : List Int} (h : Rest N0 W A c rv) (hg : W.grownBy W' row) (hr : ∀ r, row = some r → ∃ o : Obj, W.heap[r]? = some o ∧ o.isCells = false) : Rest N0 W' A c rv :=
  ⟨h.1, h.2.1, fun hp => by
    obtain ⟨ad, e, hb, hc⟩ := h.2.2 hp
    refine ⟨ad, e, hb, fun j hj => Go.Proofs.YtdemeoncjcbojaaW.PrintWords.cell_kept (S := fun k => row = some k) (hc j hj) ⟨hg.size, fun i hi hn => hg.block i hi (fun e => hn e.symm)⟩ (fun hS => ?_)⟩
    obtain ⟨o, ho, hcl⟩ := hr _ hS
    rw [cell_obj (hc j hj) ho] at hcl
    cases hcl⟩
structure Inv (w : World) (N0 gb go gr : Nat) (vb vo : Value) (O rv : List Int) (W : World) : Prop where
  below : Below w.heap.size w W
  big : N0 ≤ W.heap.size
  bb : W.heap[gb]? = some (.cells #[vb] 54 (0, 0))
  bo : W.heap[go]? = some (.cells #[vo] 54 (0, 0))
  ro : Kd.R (Kd.int .i64) 3 W w.heap.size (fun k => some k = vo.ownBlock) vo O
  br : ∃ A c, W.heap[gr]? = some (.cells #[.slice A rv.length c] 54 (0, 0)) ∧ Rest N0 W A c rv
theorem Inv.own {w W W' : World} {N0 gb go gr B : Nat} {vb vo : Value} {O rv : List Int} {row : Option Nat} (h : Inv w N0 gb go gr vb vo O rv W) (hB : w.heap.size ≤ B) (hg : W.grownBy W' row) (hr : ∀ r, row = some r → B ≤ r ∧ ∃ o : Obj, W.heap[r]? = some o ∧ o.isCells = false) : Inv w N0 gb go gr vb vo O rv W' := by
  have hr2 : ∀ r, row = some r → ∃ o : Obj, W.heap[r]? = some o ∧ o.isCells = false := fun r e => (hr r e).2
  obtain ⟨A, c, hb, hR⟩ := h.br
  refine ⟨h.below.grown hg h.below.size (fun k e => Nat.le_trans hB (hr k e).1), Nat.le_trans h.big hg.size, (grownBy_keeps_cells hg hr2 h.bb rfl).trans h.bb, (grownBy_keeps_cells hg hr2 h.bo rfl).trans h.bo, ?_, A, c, (grownBy_keeps_cells hg hr2 hb rfl).trans hb, hR.grown hg hr2⟩
  refine Kd.R_mono (Kd.R_move (Kd.R_bound h.ro) (fun k hk => ?_)) (fun k hk => hk.1)
  obtain ⟨_, _, _, q, _, cells, hc⟩ := hk
  exact grownBy_keeps_cells hg hr2 hc rfl
theorem Inv.step {w W W' : World} {N0 gb go gr : Nat} {vb vo : Value} {O rv : List Int} (h : Inv w N0 gb go gr vb vo O rv W) (hb : Below W.heap.size W W') : Inv w N0 gb go gr vb vo O rv W' := by
  obtain ⟨A, c, hbr, hR⟩ := h.br
  exact ⟨below_step h.below hb, Nat.le_trans h.big hb.size, blk_below h.bb hb, blk_below h.bo hb, Kd.R_below h.ro hb, A, c, blk_below hbr hb, hR.kept (Kept.of_below hb (fun _ => False)) (fun _ hk => hk.elim)⟩
theorem Inv.rest {w W : World} {N0 gb go gr : Nat} {vb vo : Value} {O rv rv' : List Int} (h : Inv w N0 gb go gr vb vo O rv W) (h1 : gb ≠ gr) (h2 : go ≠ gr) (h3 : w.heap.size ≤ gr) (h4 : ∀ k, some k = vo.ownBlock → k ≠ gr) (h5 : gr < N0) {A : Option Addr} {c : Nat} (hR : Rest N0 W A c rv') :
    Inv w N0 gb go gr vb vo O rv' (W.setCell ⟨gr, 0, none⟩ (.slice A rv'.length c)) := by
  obtain ⟨A', c', hbr, _⟩ := h.br
  exact ⟨below_set h.below h3, by simpa [World.setCell] using h.big, blk_far h.bb h1 _, blk_far h.bo h2 _, Kd.R_far (p := ⟨gr, 0, none⟩) h.ro (fun k hk => h4 k hk) _, A, c, blk_put hbr 0 _ rfl,
    hR.kept (Kept.setCell (Kept.refl W (fun k => k = gr)) (.inl rfl) _) (fun k hk => by rw [hk]; exact h5)⟩
theorem Inv.cell {w W : World} {N0 gb go gr g cap i n : Nat} {vb vo : Value} {O O' rv : List Int} {x' : Value} (h : Inv w N0 gb go gr vb vo O rv W) (hv : vo = .slice (some ⟨g, 0, none⟩) n cap) (hg : g < N0) (hg2 : w.heap.size ≤ g)
    (hro : Kd.R (Kd.int .i64) 3 (W.setCell ⟨g, i, none⟩ x') w.heap.size (fun k => some k = vo.ownBlock) vo O') : Inv w N0 gb go gr vb vo O' rv (W.setCell ⟨g, i, none⟩ x') := by
  have hgS : some g = vo.ownBlock := by rw [hv]; rfl
  obtain ⟨A, c, hbr, hR⟩ := h.br
  have ne : ∀ {k : Nat} {cs : Array Value}, W.heap[k]? = some (.cells cs 54 (0, 0)) → k ≠ g := fun hk e => Kd.R_ne h.ro hk (by decide) (by rw [e]; exact hgS)
  exact ⟨below_set h.below hg2, by simpa [World.setCell] using h.big, blk_far h.bb (ne h.bb) _, blk_far h.bo (ne h.bo) _, hro, A, c, blk_far hbr (ne hbr) _,
    hR.kept (Kept.setCell (Kept.refl W (fun k => k = g)) (.inl rfl) _) (fun k hk => by rw [hk]; exact hg)⟩
theorem trim_val {x v : Int} (hx : 0 ≤ x ∧ x ≤ 9999) (hv : 0 ≤ v) (hl : (rep v).length ≤ 900) : impl_limbs_trim.f 6000 ([x] ++ rep v) = some (rep (x + 10000 * v)) := by
  have hd : Dig ([x] ++ rep v) := Dig.cons hx.1 hx.2 (rep_dig v)
  rw [iTrim_ge _ (by simp; omega) 6000 (by simp; omega), trimL_rep hd]
  show some (rep (x + 10000 * val (rep v))) = _
  rw [rep_val hv]
theorem mul_val {b : List Int} (hd : Dig b) (hl : b.length ≤ 50) {m : Int} (h0 : 0 ≤ m) (h1 : m ≤ 9999) : ∃ lm, impl_limbsOf.f 6000 (IntKind.u64.wrap m) = some lm ∧ impl_limbs_mul.f 6000 b lm = some (rep (val b * m)) := by
  obtain ⟨lm, h2, h3, h4, h5⟩ := limbsOf_ge (x := m) h0 (by omega) 6000 (by omega)
  refine ⟨lm, ?_, ?_⟩
  · rw [u64w h0 (by omega)]; exact h2
  · rw [iMul_ge hd h3 hl h5 6000 (by omega), h4]
theorem cmp_val {x y : Int} (hx : 0 ≤ x) (hy : 0 ≤ y) (lx : (rep x).length ≤ 1000) (ly : (rep y).length ≤ 1000) : impl_limbs_cmp.f 6000 (rep x) (rep y) = some (sgn (x - y)) := by
  rw [iCmp_ge (rep_dig _) (rep_dig _) (rep_nz _) (rep_nz _) lx ly 6000 (by omega), rep_val hx, rep_val hy]
theorem sub_val {x y : Int} (hx : 0 ≤ x) (hy : 0 ≤ y) (lx : (rep x).length ≤ 1000) (h : y ≤ x) : impl_limbs_sub.f 6000 (rep x) (rep y) = some (rep (x - y)) := by
  rw [iSub_ge (rep_dig _) (rep_dig _) (rep_nz _) lx (by rw [rep_val hx, rep_val hy]; exact h) 6000 (by omega), rep_val hx, rep_val hy]
theorem sgn_le (x : Int) : sgn x ≤ 0 ↔ x ≤ 0 := by unfold sgn; split <;> (try split) <;> omega
theorem len_of {b : List Int} (hd : Dig b) (hl : b.length ≤ 40) {x : Int} (h0 : 0 ≤ x) (h1 : x < 10000 * val b) : (rep x).length ≤ 41 := by
  refine rep_len_le h0 ?_
  have h2 := val_lt hd
  have h3 := pw_mono hl
  rw [pw_succ]
  omega
def stp (B : Int) (s : List Int × Int) (x : Nat × Int) : List Int × Int := (s.1.set x.1 ((x.2 + 10000 * s.2) / B), (x.2 + 10000 * s.2) % B)
def runL (n : Nat) (B : Int) (pre : List (Nat × Int)) : List Int × Int := pre.foldl (stp B) (List.replicate n 0, 0)
theorem runL_snoc (n : Nat) (B : Int) (pre : List (Nat × Int)) (x : Nat × Int) : runL n B (pre ++ [x]) = stp B (runL n B pre) x := by simp [runL]
theorem foldl_len (B : Int) : ∀ (pre : List (Nat × Int)) (s : List Int × Int), (pre.foldl (stp B) s).1.length = s.1.length
  | [], _ => rfl
  | x :: r, s => by rw [List.foldl_cons, foldl_len B r]; simp [stp]
theorem runL_len (n : Nat) (B : Int) (pre : List (Nat × Int)) : (runL n B pre).1.length = n := by
  unfold runL
  rw [foldl_len, List.length_replicate]
theorem foldl_bd {B : Int} (hB : 0 < B) : ∀ (pre : List (Nat × Int)) (s : List Int × Int), 0 ≤ s.2 → s.2 < B → 0 ≤ (pre.foldl (stp B) s).2 ∧ (pre.foldl (stp B) s).2 < B
  | [], _, h0, h1 => ⟨h0, h1⟩
  | x :: r, s, h0, h1 => by
    rw [List.foldl_cons]
    exact foldl_bd hB r _ (Int.emod_nonneg _ (by omega)) (Int.emod_lt_of_pos _ hB)
theorem runL_bd {B : Int} (hB : 0 < B) (n : Nat) (pre : List (Nat × Int)) : 0 ≤ (runL n B pre).2 ∧ (runL n B pre).2 < B := foldl_bd hB pre _ (Int.le_refl _) hB
theorem runL_down (l : List Int) (B : Int) : ∀ k, k ≤ l.length → runL l.length B (down l l.length k) = (outL l B (l.length - k), restV l B (l.length - k))
  | 0, _ => by
    rw [Nat.sub_zero, outL_top, rest_top]
    rfl
  | k + 1, h => by
    have ih := runL_down l B k (by omega)
    have e1 := down_step l (len := l.length) (m := l.length - (k + 1)) (by omega)
    rw [show l.length - (l.length - (k + 1)) = k + 1 by omega, show l.length - (l.length - (k + 1) + 1) = k by omega] at e1
    rw [e1, runL_snoc, ih]
    have e2 : l[l.length - (k + 1)]?.getD 0 = l.getD (l.length - (k + 1)) 0 := (List.getD_eq_getElem?_getD ..).symm
    have e3 : l.length - k = l.length - (k + 1) + 1 := by omega
    unfold stp
    simp only
    rw [e2, e3]
    have e4 : l.getD (l.length - (k + 1)) 0 + 10000 * restV l B (l.length - (k + 1) + 1) = topV l B (l.length - (k + 1)) := rfl
    rw [e4, top_mod _ (by omega)]
    have e5 := outL_step (l := l) (B := B) (m := l.length - (k + 1)) (by omega)
    unfold qd at e5
    rw [e5]
theorem runL_all {l : List Int} {B : Int} (hB : 0 < B) (hd : Dig l) : Dig (runL l.length B (down l l.length l.length)).1 ∧ val (runL l.length B (down l l.length l.length)).1 = val l / B ∧ (runL l.length B (down l l.length l.length)).2 = val l % B := by
  rw [runL_down l B l.length (Nat.le_refl _), Nat.sub_self]
  exact ⟨outL_dig hd hB 0, outL_all hB, rest_all⟩
theorem dig_get {l : List Int} (hd : Dig l) (i : Nat) : 0 ≤ l[i]?.getD 0 ∧ l[i]?.getD 0 ≤ 9999 := by
  have := hd.getD i
  rwa [List.getD_eq_getElem?_getD] at this
theorem row_of {a : Option Addr} {l : List Int} {w w' : World} {S : Nat → Prop} (hS : ∀ x, x < w.heap.size → S x) (hr : Kd.C (Kd.int .i64) w a l.length l) (hb : Below w.heap.size w w') : RowIn S w' a l.length l := by
  cases hl : l with
  | nil => exact .inl rfl
  | cons x r =>
    right
    obtain ⟨ad, e, hc0⟩ := Kd.at_int hr 0 (by omega) (by rw [hl]; simp)
    have hlt := World.block_lt_of_cell? _ _ hc0
    rw [add_blk] at hlt
    rw [← hl]
    refine ⟨ad, e, hS _ hlt, fun j hj => ?_⟩
    obtain ⟨ad', e', hc⟩ := Kd.at_int hr (j : Int) (by omega) (by omega)
    rw [e] at e'; cases e'
    rw [hb.cell (by rw [add_blk]; exact hlt), ← Int.toNat_natCast j, hc]
    simp [rd, List.getD_eq_getElem?_getD]
end Go.Proofs.Ytdemeoncjcbojaa.Dw
end
section
namespace Go.Proofs.Ytdemeoncjcbojaa.Dw
open Go.RowKit Go.Shelf Go.Lib Go.Proofs.Ytdemeoncjcbojaa.Rng Go.Proofs.Ytdemeoncjcbojaa.Cv Go.Proofs.Ytdemeoncjcbojaa.Dv Go.Proofs.Ytdemeoncjcbojaa.Jt Go.Proofs.Ytdemeoncjcbojaa.Val Go.Proofs.Ytdemeoncjcbojaa.Pr Go.Proofs.Ytdemeoncjcbojaa.Ext Go.Proofs.YtdemeoncjcbojaaW.PrintWords Go.Proofs.YtdemeoncjcbojaaW.PrintLast Go.Proofs.YtdemeoncjcbojaaW.PrintMore
set_option linter.unusedVariables false
set_option linter.unusedSimpArgs false
attribute [local go_sem] Oper.semAt_some
def T10 : Bool × List (List Nat × List Nat) := (true, [([], []), ([], []), ([1], [1]), ([2], [2]), ([0, 3, 3], [0, 3]), ([], []), ([4, 5, 4], [4, 5]), ([6], [6])])
def B10 : List Nat := [0, 0, 2, 6, 15, 0, 63, 127]
theorem tab10 : rtab .any (opsOf Try.f78 10) = T10 := by kernel_rfl
theorem bits10 : waitsOk T10.2 B10 = true := by kernel_rfl
def T14 : Bool × List (List Nat × List Nat) := (true, [([], []), ([], []), ([], []), ([2], [2]), ([3], [3]), ([1, 4, 4], [1, 4]), ([0, 5, 5], [0, 5]), ([6, 6, 0, 1, 2, 3, 4, 5, 6], [6])])
def B14 : List Nat := [0, 0, 0, 4, 12, 30, 63, 127]
theorem tab14 : rtab .any (opsOf Try.f78 14) = T14 := by kernel_rfl
theorem bits14 : waitsOk T14.2 B14 = true := by kernel_rfl
def T15 : Bool × List (List Nat × List Nat) := (true, [([], []), ([0], [0]), ([], []), ([1, 1, 0, 1], [1]), ([2, 3, 0, 1, 2, 3], [2])])
def B15 : List Nat := [0, 1, 0, 3, 15]
theorem tab15 : rtab .any (opsOf Try.f78 15) = T15 := by kernel_rfl
theorem bits15 : waitsOk T15.2 B15 = true := by kernel_rfl
set_option maxRecDepth 100000 in
set_option maxHeartbeats 4000000 in
theorem div_in (A0 : Option Addr) (c0 : Nat) (l0 : List Int) (A1 : Option Addr) (c1 : Nat) (l1 : List Int) (hd0 : Dig l0) (hd1 : Dig l1) (hz1 : Nz l1) (hB : 0 < val l1) (n0 : l0.length ≤ 40) (n1 : l1.length ≤ 40) (w : World) (hr0 : Kd.C (Kd.int .i64) w A0 l0.length l0) (hc0 : l0.length ≤ c0) (hr1 : Kd.C (Kd.int .i64) w A1 l1.length l1) (hc1 : l1.length ≤ c1) :
    CallsIn Fence.wide 3 Try.prog 78 #[.slice A0 l0.length c0, .slice A1 l1.length c1] w fun e w' => ∃ v0_ v1_ : Value, e = .returned (.tuple #[v0_, v1_]) ∧ Kd.V (Kd.int .i64) 3 w' w.heap.size (fun k_ => (w.heap.size ≤ k_)) v0_ (rep (val l0 / val l1)) ∧ Kd.V (Kd.int .i64) 3 w' w.heap.size (fun k_ => (w.heap.size ≤ k_)) v1_ (rep (val l0 % val l1)) ∧ Below w.heap.size w w' := by
  refine callsIn_of_wp_marks Try.func78 rfl trivial ?_ rfl
  simp only [Try.ntmps78, List.size_toArray, List.length_cons, List.length_nil, Nat.reduceAdd, Nat.reduceSub, Array.replicate_succ, Array.replicate_zero, List.push_toArray, List.append_toArray, List.nil_append, List.cons_append]
  refine wpIn_wide.2 ?_
  have hmk : ((l0.length : Int)).toNat ≤ 35184372088832 := by omega
  have hnn : 0 ≤ (l0.length : Int) := by omega
  have hmkb : decide ((l0.length : Int).toNat ≤ 35184372088832) = true := decide_eq_true hmk
  have HB0 := Aside0.mk (Below.refl w.heap.size w)
  have HD := Aside0.mk (And.intro hd0 (And.intro hd1 (And.intro hz1 (And.intro hB (And.intro n0 n1)))))
  have HR0 := Aside0.mk hr0
  have HR1 := Aside0.mk hr1
  have HC := Aside0.mk (And.intro hc0 hc1)
  have HM := Aside0.mk (And.intro hmk hnn)
  clear hd0 hd1 hz1 hB n0 n1 hr0 hr1 hc0 hc1 hmk hnn hmkb
  go_wp2_with ((with_reducible refine gate_dst (N := 3) rfl ?_); refine Aside0.out ?_)
  refine ⟨?_⟩
  refine box_event ?hg (N := 3) ?hd (cs := #[.slice A1 l1.length c1]) (t := 54) ?hr ?_
  (case hd => rfl)
  (case hg => rfl)
  (case hr => first | (go_simp; done) | (go_simp; rfl))
  intro gb hgb w1 hbox1 hb1
  have HGB := Aside0.mk hgb
  clear hgb
  go_wp2_with ((with_reducible refine gate_dst (N := 15) rfl ?_); refine Aside0.out ?_)
  refine ⟨?_⟩
  refine Kd.R_make (Kd.int .i64) _ 3 rfl (N := 15) rfl 54 _ _ rfl (l0.length : Int) rfl rfl Try.underlying54 (.int .i64 0) 8 Ext.info3 rfl (by decide) (by omega) 0 (ok := fun _ => True) (okp := fun _ => True) rfl (fun _ hk => hk) trivial HM.out.2 (Nat.le_trans (Nat.mul_le_mul_right _ HM.out.1) (by omega)) (Below.refl _ _) (Nat.le_refl _) ?_
  intro vo w2 ho2 hb2 hg2 hn2
  have HO := Aside0.mk (Kd.R_tight rfl ho2)
  have HN := Aside0.mk hn2
  obtain ⟨Ao, co, eo⟩ := Kd.R_slice ho2
  rw [List.length_replicate, Int.toNat_natCast] at eo
  subst eo
  clear ho2 hn2 hg2
  go_wp2_with ((with_reducible refine gate_dst (N := 6) rfl ?_); refine Aside0.out ?_)
  refine ⟨?_⟩
  refine box_event ?hg (N := 6) ?hd (cs := #[.slice none 0 0]) (t := 54) ?hr ?_
  (case hd => rfl)
  (case hg => rfl)
  (case hr => first | (go_simp; done) | (go_simp; rfl))
  intro go hgo w3 hbox3 hb3
  have HGO := Aside0.mk hgo
  clear hgo
  have hco : w3.cell? ⟨go, 0, none⟩ = some (.slice none 0 0) := (blk_cell hbox3 0).trans rfl
  have hfo := blk_frozen hbox3 0
  go_wp2_with ((with_reducible refine gate_dst (N := 7) rfl ?_); refine Aside0.out ?_)
  refine ⟨?_⟩
  refine box_event ?hg (N := 7) ?hd (cs := #[.slice none 0 0]) (t := 54) ?hr ?_
  (case hd => rfl)
  (case hg => rfl)
  (case hr => first | (go_simp; done) | (go_simp; rfl))
  intro gr hgr w4 hbox4 hb4
  have HGR := Aside0.mk hgr
  clear hgr
  go_wp2_with ((with_reducible refine gate_dst (N := 17) rfl ?_); refine Aside0.out ?_)
  refine ⟨?_⟩
  refine goesL_ (some 17) rfl rfl Try.func96 (by kernel_rfl) rfl #[.slice A0 l0.length c0] rfl (by (try simp only [List.map_toArray, List.map_cons, List.map_nil]); first | done | rfl) ?_
  refine (callsIn_wide.1 (back_in Fence.wide 3 trivial rfl _ _ _ _)).mono ?_
  rintro e w5 ⟨rfl, rfl⟩
  refine ⟨_, rfl, ?_⟩
  go_wp2_with (fail)
  obtain ⟨vo, hvo⟩ : ∃ vo, vo = Value.slice Ao l0.length co := ⟨_, rfl⟩
  obtain ⟨W5, hW5⟩ : ∃ W5, w4.alloc (.cells #[.slice A0 l0.length c0] 54) = W5 := ⟨_, rfl⟩
  have s5 : W5.heap.size = w4.heap.size + 1 := by rw [← hW5, World.size_alloc]
  have egb := HGB.out
  have ego := HGO.out
  have egr := HGR.out
  have lb1 := blk_lt hbox1
  have lb3 := blk_lt hbox3
  have lb4 := blk_lt hbox4
  have ssc : (w3.setCell ⟨go, 0, none⟩ (Value.slice Ao l0.length co)).heap.size = w3.heap.size := by simp [World.setCell]
  rw [ssc] at egr
  have z1 := hb1.size
  have z2 := hb2.size
  have z3 := hb3.size
  have z4 := hb4.size
  rw [ssc] at z4
  have oge : ∀ k, some k = vo.ownBlock → w1.heap.size ≤ k ∧ k < w2.heap.size := fun k hk => by rw [hvo] at hk; exact ⟨Kd.R_base HO.out k hk.symm, Kd.R_lt HO.out k hk.symm⟩
  have hbb : W5.heap[gb]? = some (.cells #[.slice A1 l1.length c1] 54 (0, 0)) := by
    rw [← hW5]
    exact blk_alloc (blk_below (blk_far (blk_below (blk_below hbox1 hb2) hb3) (by show gb ≠ go; omega) _) hb4) _
  have hbo : W5.heap[go]? = some (.cells #[vo] 54 (0, 0)) := by
    rw [← hW5, hvo]
    exact blk_alloc (blk_below (blk_put (cs := #[.slice none 0 0]) hbox3 0 _ rfl) hb4) _
  have hbr : W5.heap[gr]? = some (.cells #[.slice none 0 0] 54 (0, 0)) := by
    rw [← hW5]
    exact blk_alloc hbox4 _
  have hro : Kd.R (Kd.int .i64) 3 W5 w.heap.size (fun k => some k = vo.ownBlock) vo (runL l0.length (val l1) []).1 := by
    rw [← hW5, hvo]
    refine Kd.R_lower (Kd.R_alloc (Kd.R_below (Kd.R_far (p := ⟨go, 0, none⟩) (Kd.R_below HO.out hb3) (fun k hk => ?_) _) hb4) _) z1
    have := oge k (by rw [hvo]; exact hk)
    show k ≠ go
    omega
  have hbe : Below w.heap.size w W5 := by
    rw [← hW5]
    exact below_alloc (below_step (below_set (below_step (below_step hb1 hb2) hb3) (by omega)) hb4) _
  have hI0 : Inv w W5.heap.size gb go gr (.slice A1 l1.length c1) vo (runL l0.length (val l1) []).1 (rep (runL l0.length (val l1) []).2) W5 :=
    ⟨hbe, Nat.le_refl _, hbb, hbo, hro, none, 0, by rw [show (rep (runL l0.length (val l1) []).2) = [] from rep_zero]; exact hbr, by rw [show (rep (runL l0.length (val l1) []).2) = [] from rep_zero]; simp [Rest]⟩
  have hbS : W5.heap[w4.heap.size]? = some (.cells #[.slice A0 l0.length c0] 54 (0, 0)) := by rw [← hW5]; exact blk_new _ _
  have hrow : RowIn (fun x => x < w.heap.size ∨ x = w4.heap.size) W5 A0 l0.length l0 := row_of (fun x hx => .inl hx) HR0.out hbe
  have n0' := HD.out.2.2.2.2.1
  have FX : Aside0 ((w.heap.size ≤ gb ∧ gb < go ∧ go < gr ∧ gr < w4.heap.size ∧ w4.heap.size < W5.heap.size) ∧ (∀ k, some k = vo.ownBlock → w.heap.size ≤ k ∧ k < go)) := ⟨⟨by omega, by omega, by omega, by omega, by omega⟩, fun k hk => by have := oge k hk; omega⟩
  have hn0 : w.heap.size ≤ w4.heap.size := by have := FX.out.1; omega
  rw [hW5]
  clear egb ego egr lb1 lb3 lb4 ssc z1 z2 z3 z4 oge hbb hbo hbr hro HGB HGO HGR hbox1 hbox3 hbox4 hb1 hb2 hb3 hb4 hco hfo HO HN HM HB0
  refine (wpIn_wide (n := 3)).1 ?_
  refine wpIn_rangeFunc_ownG rfl (by decide) (gf := 101) (lb := #[.pointer (some ⟨w4.heap.size, 0, none⟩)]) ?hg trivial (enters_of Try.func101 (by kernel_rfl) rfl)
    (back_stops Fence.wide 2 trivial rfl (by decide) w4.heap.size A0 l0.length c0 l0 (by omega) (fun x => x < w.heap.size ∨ x = w4.heap.size) (.inr rfl) W5 (fun x hx => by rw [s5]; omega) (blk_cell hbS 0) hrow) SameIn.trans (sameIn_b (fun x hx => by rw [s5]; omega)) (Below.refl _ _) (fun _ => rfl)
    (fun pre W => Inv w W5.heap.size gb go gr (.slice A1 l1.length c1) vo (runL l0.length (val l1) (pre.map Subtype.val)).1 (rep (runL l0.length (val l1) (pre.map Subtype.val)).2) W)
    (fun _ _ _ => False) ?hI (fun _ _ _ _ _ hs _ _ => hs) hI0
    (fun x => { tmps := #[.slice A0 l0.length c0, .slice A1 l1.length c1, undef, .pointer (some ⟨gb, 0, none⟩), .slice none 0 0, .slice none 0 0, .pointer (some ⟨go, 0, none⟩), .pointer (some ⟨gr, 0, none⟩), .int .i64 (x.1.1 : Int), .int .i64 x.1.2, undef, undef, undef, .slice A0 l0.length c0, .int .i64 (l0.length : Int), .slice Ao l0.length co, .slice A0 l0.length c0, .func (.func 101) #[] #[.pointer (some ⟨w4.heap.size, 0, none⟩)], .int .i64 (x.1.1 : Int), .int .i64 x.1.2, undef, undef, undef, undef, undef, undef, undef, undef, undef, undef, undef, undef, undef, undef, undef, undef, undef, undef, undef, undef, undef, undef, undef, undef, undef, undef, undef, undef, undef, undef, undef, undef, undef, undef, undef, undef, undef, undef], defers := [] }) ?assign ?body ?done ?stop
  case hg => rfl
  all_goals (have HVO := Aside0.mk hvo; clear hvo s5 hW5)
  case hI => exact fun s X Y row hs hg hr => hs.own (by have := FX.out.1; omega) hg hr
  case assign =>
    intro lo x W K hK
    gi_wp2
    exact hK
  case stop =>
    rintro D c pre W _ _ h _
    exact h.elim
  case done =>
    rintro D xs W hDn hxs hI hKD
    obtain ⟨hOd, hOv, hOr⟩ := runL_all HD.out.2.2.2.1 HD.out.1
    rw [← hxs] at hOd hOv hOr
    have hOl := runL_len l0.length (val l1) (xs.map Subtype.val)
    rw [hOr] at hI
    obtain ⟨O, hO⟩ : ∃ O, O = (runL l0.length (val l1) (xs.map Subtype.val)).1 := ⟨_, rfl⟩
    rw [← hO] at hI hOd hOv hOl
    have AT := Aside0.mk (show impl_limbs_trim.f 6000 O = some (rep (val l0 / val l1)) by rw [iTrim_ge O (by have := HD.out.2.2.2.2.1; omega) 6000 (by have := HD.out.2.2.2.2.1; omega), trimL_rep hOd, hOv])
    clear hO hOd hOv hOr hxs
    have hve := HVO.out
    obtain ⟨Ap, cp, hbp, hRp⟩ := hI.br
    have hbo := hI.bo
    rw [hve] at hbo
    have HV2 := Aside0.mk (Kd.V_mono (Kd.R_V (base' := W.heap.size) hI.ro) (ok' := fun k => w.heap.size ≤ k) (fun k hk => (FX.out.2 k hk).1))
    rw [hve, ← hOl] at HV2
    rw [← hOl] at hbo
    have hHD := Aside0.mk (And.intro hDn hKD)
    have HIR := Aside0.mk (And.intro hI hRp)
    clear hI hRp hve hDn hKD hOl
    go_wp2_with (fail)
    rename_i KK hKK
    simp only [Act.put, List.setIfInBounds_toArray, List.set_cons_zero, List.set_cons_succ]
    refine wp_mono (Q := Exit.then KK (fun _ _ _ => False)) ?_ (fun e a w h => by cases e <;> first | exact h | exact h.elim)
    have hKd : W.drew.heap[D]? = some (.deferred (some [])) := hHD.out.2
    refine start_ (n := 5) (S := fun w' => w'.cell? ⟨go, 0, none⟩ = some (.slice Ao O.length co) ∧ w'.cell? ⟨gr, 0, none⟩ = some (.slice Ap (rep (val l0 % val l1)).length cp)) (ds := []) #[false, false, false, false, false] (by kernel_rfl) rfl rfl ⟨(blk_cell hbo 0).trans rfl, (blk_cell hbp 0).trans rfl⟩ (fun hHeld => ?_)
    refine with_tabW tab15 bits15 (fun HT_ HW_ => ?_)
    have HBd := Aside0.mk (HIR.out.1.below.drew)
    replace hbp := blk_drew hbp
    replace hbo := blk_drew hbo
    replace HIR := Aside0.mk (HIR.out.2.kept (Kept.of_below ((Below.refl _ W).drew) (fun _ => False)) (fun _ hk => hk.elim))
    replace HV2 : Aside0 (Kd.V (Kd.int .i64) 3 W.drew W.drew.heap.size (fun k => w.heap.size ≤ k) (.slice Ao O.length co) O) := Aside0.mk (Kd.V_drew HV2.out)
    replace hHD := Aside0.mk (And.intro hHD.out.1 hKd)
    clear hKd
    generalize W.drew = wd at HBd hbp hbo HIR HV2 hHeld hHD ⊢
    refine take_ (i := 0) (N := some 55) (v := ?_) (a' := ?_) #[true, false, false, false, false] rfl rfl (take_ofW HT_.out HW_.out (by kernel_rfl)) (fun _ _ _ h => h) (Or.inl ⟨by rfl, ?_⟩) hHeld ?_ ?_
    rotate_left
    · rintro w' ⟨s0, s1⟩
      go_simp
      with_reducible rfl
    rotate_left
    · simp only [Act.put, List.setIfInBounds_toArray, List.set_cons_zero, List.set_cons_succ, i64_w, i32_w]
      rfl
    refine take_ (i := 2) (N := some 57) (v := ?_) (a' := ?_) #[true, false, true, false, false] rfl rfl (take_ofW HT_.out HW_.out (by kernel_rfl)) (fun _ _ _ h => h) (Or.inl ⟨by rfl, ?_⟩) hHeld ?_ ?_
    rotate_left
    · rintro w' ⟨s0, s1⟩
      go_simp
      with_reducible rfl
    rotate_left
    · simp only [Act.put, List.setIfInBounds_toArray, List.set_cons_zero, List.set_cons_succ, i64_w, i32_w]
      rfl
    refine one_ (i := 1) (N := some 56) #[true, true, true, false, false] rfl rfl (one_of HT_.out (by kernel_rfl)) (by decide) (fun K hK => ?_)
    refine goes_ Try.func82 (by kernel_rfl) rfl #[.slice Ao O.length co] (by rfl) rfl rfl (by (try simp only [List.map_toArray, List.map_cons, List.map_nil]); first | done | rfl) ?_
    refine (impl_limbs_trim.calls 6000 (fun k => w.heap.size ≤ k) Ao co O _ wd HV2.out AT.out).mono ?_
    rintro e we ⟨v56, rfl, ho56, hbe56⟩
    refine ⟨_, rfl, ?_⟩
    obtain ⟨A56, c56, rfl⟩ := Kd.V_slice ho56
    have hD56 : we.heap[D]? = some (.deferred (some [])) := blk_below hHD.out.2 hbe56
    replace hHD := Aside0.mk (And.intro hHD.out.1 hD56)
    replace HBd := Aside0.mk (And.intro HBd.out.size (below_step HBd.out hbe56))
    replace hbp := blk_below hbp hbe56
    replace hbo := blk_below hbo hbe56
    replace HIR := Aside0.mk (HIR.out.kept (Kept.of_below hbe56 (fun _ => False)) (fun _ hk => hk.elim))
    replace HV2 := Aside0.mk (Kd.V_mono (ok' := fun k => w.heap.size ≤ k) ho56 (fun k hk => by have := HBd.out.1; rcases hk with hk | hk <;> omega))
    clear hD56 ho56 hbe56 hHeld
    refine hK.out _ _ ⟨(blk_cell hbo 0).trans rfl, (blk_cell hbp 0).trans rfl⟩ (fun hHeld => ?_)
    clear hK K
    refine norm_ (a' := ?_) ?_ ?_
    rotate_left
    · show Act.put _ (some 56) _ = _
      simp only [Act.put, List.setIfInBounds_toArray, List.set_cons_zero, List.set_cons_succ, i64_w, i32_w]
      rfl
    refine pure_ (i := 3) (N := some 4) (v := ?_) (a' := ?_) #[true, true, true, true, false] rfl rfl (any_of HT_.out (by kernel_rfl)) (fun _ _ _ h => h) (Or.inl ⟨by rfl, ?_⟩) ?_ ?_
    rotate_left
    · intro w'
      go_simp
      with_reducible rfl
    rotate_left
    · simp only [Act.put, List.setIfInBounds_toArray, List.set_cons_zero, List.set_cons_succ, i64_w, i32_w]
      rfl
    refine pure_ (i := 4) (N := some 5) (v := ?_) (a' := ?_) #[true, true, true, true, true] rfl rfl (any_of HT_.out (by kernel_rfl)) (fun _ _ _ h => h) (Or.inl ⟨by rfl, ?_⟩) ?_ ?_
    rotate_left
    · intro w'
      go_simp
      with_reducible rfl
    rotate_left
    · simp only [Act.put, List.setIfInBounds_toArray, List.set_cons_zero, List.set_cons_succ, i64_w, i32_w]
      rfl
    refine done_ (done_of HT_.out (by kernel_rfl)) ?_
    clear hHeld
    refine hKK _ _ ?_
    go_wp2_with (fail)
    refine ⟨by simp, .inl ⟨_, _, rfl, run_takeDeferred hHD.out.2, ?_⟩⟩
    have hDN := hHD.out.1
    have hlast : Below w.heap.size w (we.putObj D (.deferred none)) := HBd.out.2.trans (belowK_b (w := W5) (by have := FX.out.1; omega) we D _ _ hDN hHD.out.2 rfl rfl)
    refine ⟨_, results_tmp2 rfl _ _ _, _, _, rfl, ?_, ?_, hlast⟩
    · exact Rest.V (N0 := w.heap.size) (Rest.grown (Rest.of_V HV2.out (fun _ hk => hk)) (grownBy_putObj' we D _) (fun r e => by cases e; exact ⟨_, hHD.out.2, rfl⟩)) (Nat.le_refl _)
    · exact Rest.V (N0 := W5.heap.size) (Rest.grown HIR.out (grownBy_putObj' we D _) (fun r e => by cases e; exact ⟨_, hHD.out.2, rfl⟩)) (by have := FX.out.1; omega)
  case body =>
    rintro lo pre x W hI hN
    obtain ⟨O, hO⟩ : ∃ O, O = (runL l0.length (val l1) (pre.map Subtype.val)).1 := ⟨_, rfl⟩
    obtain ⟨R, hR⟩ : ∃ R, R = (runL l0.length (val l1) (pre.map Subtype.val)).2 := ⟨_, rfl⟩
    have hstp : runL l0.length (val l1) ((pre ++ [x]).map Subtype.val) = (O.set x.1.1 ((x.1.2 + 10000 * R) / val l1), (x.1.2 + 10000 * R) % val l1) := by
      rw [List.map_append, List.map_cons, List.map_nil, runL_snoc, hO, hR]
      rfl
    have hRb : 0 ≤ R ∧ R < val l1 := by rw [hR]; exact runL_bd HD.out.2.2.2.1 _ _
    have hOl : O.length = l0.length := by rw [hO]; exact runL_len _ _ _
    rw [← hO, ← hR] at hI
    refine wpIn_mono (Q := fun e a' W' => e = .normal ∧ Kept W W' (fun k => k = gr ∨ some k = vo.ownBlock) ∧ Inv w W5.heap.size gb go gr (.slice A1 l1.length c1) vo (O.set x.1.1 ((x.1.2 + 10000 * R) / val l1)) (rep ((x.1.2 + 10000 * R) % val l1)) W') ?_ (by
      rintro e a' W' ⟨rfl, hk, hI'⟩
      have hSk : ∀ k, (k = gr ∨ some k = vo.ownBlock) → w.heap.size ≤ k ∧ k < w4.heap.size := fun k hS => by
        rcases hS with hS | hS
        · have := FX.out.1; omega
        · have := FX.out.1; have := FX.out.2 k hS; omega
      refine ⟨⟨hk.1, fun k o hB ho _ => blk_kept ho hk (fun hS => by have := hSk k hS; have := FX.out.1; omega)⟩, fun p hp => ?_, ?_⟩
      · have hlt := hI.below.size
        have hbg := hI.big
        have := hk.2 p.block (by have := FX.out.1; rcases hp with hp | hp <;> omega) (fun hS => by have := hSk _ hS; rcases hp with hp | hp <;> omega)
        exact World.cell?_of_block this
      · show Inv w _ gb go gr _ vo (runL l0.length (val l1) ((pre ++ [x]).map Subtype.val)).1 (rep (runL l0.length (val l1) ((pre ++ [x]).map Subtype.val)).2) W'
        rw [hstp]
        exact hI')
    clear hO hR hstp
    have hx : 0 ≤ x.1.2 ∧ x.1.2 ≤ 9999 := by
      rw [x.2.2]
      exact dig_get HD.out.1 _
    have hxi := x.2.1
    obtain ⟨i, hi⟩ : ∃ i, i = x.1.1 := ⟨_, rfl⟩
    obtain ⟨d, hd⟩ : ∃ d, d = x.1.2 := ⟨_, rfl⟩
    rw [← hi] at hxi
    rw [← hd] at hx
    rw [← hi, ← hd]
    clear hi hd
    obtain ⟨V, hV⟩ : ∃ V, V = d + 10000 * R := ⟨_, rfl⟩
    have hVb : 0 ≤ V ∧ V < 10000 * val l1 := by omega
    rw [← hV]
    have lR : (rep R).length ≤ 41 := len_of HD.out.2.1 HD.out.2.2.2.2.2 hRb.1 (by omega)
    have lV : (rep V).length ≤ 41 := len_of HD.out.2.1 HD.out.2.2.2.2.2 hVb.1 hVb.2
    have AT := Aside0.mk (show impl_limbs_trim.f 6000 ([d] ++ rep R) = some (rep V) by rw [trim_val hx hRb.1 (by omega), hV])
    have XV := Aside0.mk (And.intro hV (And.intro hVb (And.intro lR (And.intro lV (And.intro hx (And.intro hxi (And.intro hOl hRb)))))))
    clear hV hVb hx hxi hOl hRb
    obtain ⟨rl, hrl⟩ : ∃ rl, rl = rep R := ⟨_, rfl⟩
    rw [← hrl] at hI AT lR
    clear hrl
    obtain ⟨Ar, cr, hbr, hRest⟩ := hI.br
    have hcr : W.cell? ⟨gr, 0, none⟩ = some (.slice Ar rl.length cr) := (blk_cell hbr 0).trans rfl
    have hfr := blk_frozen hbr 0
    refine wpIn_block ?_
    refine wpIn_seq_k (fun K1 hK1 => ?_)
    refine region_in (by kernel_rfl) (by rintro ⟨a', w', h⟩; have h := And.left h; cases h) ?_
    go_wp2_with ((with_reducible refine gate_dst (N := 21) rfl ?_); refine Aside0.out ?_)
    refine ⟨?_⟩
    refine Kd.R_lit (Kd.int .i64) W.heap.size 3 ?hg (N := 21) ?hd (xs := ([d] : List Int)) (inner := [.int .i64 d]) (ok := fun k_ => W.heap.size ≤ k_) (okp := fun k_ => W.heap.size ≤ k_) ?hr ?hp (fun _ hk => hk) (Nat.le_refl _) (Below.refl _ W) (Nat.le_refl _) (by simp) ?_
    (case hd => rfl)
    (case hg => rfl)
    (case hr => first | (go_simp; done) | (go_simp; rfl))
    (case hp => exact (Reps.one (show Kd.M (Kd.int .i64) _ _ _ d [.int .i64 d] from rfl) (Reps.none _ _)))
    intro v21 W1 ho1 hb1 hg1 hn1
    have hbr1 := blk_below hbr hb1
    replace hcr : W1.cell? ⟨gr, 0, none⟩ = some (.slice Ar rl.length cr) := (blk_cell hbr1 0).trans rfl
    replace hfr := blk_frozen hbr1 0
    go_wp2_with ((with_reducible refine gate_builtin (b := .append) (xs := #[.tmp 21, .tmp 22]) rfl ?_); refine Aside0.out ?_)
    refine ⟨?_⟩
    at_builtin
    refine Kd.R_append_rows (Kd.int .i64) (w0 := W) W.heap.size rfl (.tmp 21) (.tmp 22) 54 3 (.int .i64 0) 8 rfl Try.underlying54 Ext.info3 rfl (by decide) (by omega) v21 ([d] : List Int) rl _ _ _ (fun k_ => W.heap.size ≤ k_) (fun _ => False) rfl rfl ?aO ?aR (fun _ _ h => h) (fun _ h => h.elim) ?aF ?aB ?aS ?aL ?_
    (case aO => exact ho1)
    (case aR => exact Kd.C_below hRest.C hb1)
    (case aF => exact fun k hk => Nat.le_trans hb1.size hk)
    (case aB => exact hb1)
    (case aS => exact hb1.size)
    (case aL => simp only [List.length_cons, List.length_nil]; omega)
    intro v23 W2 ho2 hb2 hg2 hn2
    clear ho1 hg1 hn1 hg2 hn2
    obtain ⟨yl, hyl⟩ : ∃ yl, yl = [d] ++ rl := ⟨_, rfl⟩
    rw [← hyl] at ho2 AT
    clear hyl
    obtain ⟨vl, hvl⟩ : ∃ vl, vl = rep V := ⟨_, rfl⟩
    rw [← hvl] at AT
    have HVL := Aside0.mk hvl
    clear hvl
    have hbr2 := blk_below hbr hb2
    clear hb1 hbr1 hcr hfr
    obtain ⟨A23, c23, rfl⟩ := Kd.R_slice ho2
    have HV2 := Aside0.mk (Kd.R_V (base' := W2.heap.size) ho2)
    clear ho2
    go_wp2_with ((with_reducible refine gate_callee (f := 82) rfl ?_); refine Aside0.out ?_)
    refine ⟨?_⟩
    refine goesL_ (some 24) rfl rfl Try.func82 (by kernel_rfl) rfl #[.slice A23 yl.length c23] rfl (by (try simp only [List.map_toArray, List.map_cons, List.map_nil]); first | done | rfl) ?_
    refine (impl_limbs_trim.calls 6000 (fun k_ => W.heap.size ≤ k_) A23 c23 yl vl W2 HV2.out AT.out).mono ?_
    rintro e W3 ⟨v24, rfl, ho3, hb3⟩
    refine ⟨_, rfl, ?_⟩
    obtain ⟨A24, c24, rfl⟩ := Kd.V_slice ho3
    have hb23 : Below W.heap.size W W3 := below_step hb2 hb3
    have HR3 := Aside0.mk (Rest.of_V (N0 := W5.heap.size) ho3 (fun k hk => by have := hI.big; have := hb2.size; rcases hk with hk | hk <;> omega))
    have hbr3 := blk_below hbr2 hb3
    have hcr : W3.cell? ⟨gr, 0, none⟩ = some (.slice Ar rl.length cr) := (blk_cell hbr3 0).trans rfl
    have hfr := blk_frozen hbr3 0
    clear hb2 hb3 ho3 hbr2 HV2 AT
    go_wp2_with (fail)
    have hI6 := (hI.step hb23).rest (by have := FX.out.1; omega) (by have := FX.out.1; omega) (by have := FX.out.1; omega) (fun k hk => by have := FX.out.1; have := FX.out.2 k hk; omega) (by have := FX.out.1; omega) HR3.out
    have hK6 : Kept W (W3.setCell ⟨gr, 0, none⟩ (.slice A24 vl.length c24)) (fun k => k = gr ∨ some k = vo.ownBlock) := (Kept.of_below hb23 _).setCell (.inl (.inl rfl)) _
    have HJ := Aside0.mk (And.intro hK6 hI6)
    generalize W3.setCell ⟨gr, 0, none⟩ (.slice A24 vl.length c24) = W6 at HJ ⊢
    clear hI6 hK6 hI hb23 HR3 hbr3 hcr hfr hbr hRest
    have HS := Aside0.mk (srch_start (V := V) (B := val l1) XV.out.2.1.1 XV.out.2.1.2)
    refine wpIn_seq_k (fun K2 hK2 => ?_)
    gi_wp2
    gi_loopw [10, 11] (fun v10 v11 wr => ∃ a b : Int, v10 = .int .i64 a ∧ v11 = .int .i64 b ∧ Aside0 (Srch V (val l1) a b) ∧ Aside0 ((Kept W wr fun k => k = gr ∨ some k = vo.ownBlock) ∧ Inv w W5.heap.size gb go gr (.slice A1 l1.length c1) vo O vl wr))
      (fun v10 v11 _ => (intOf v11 - intOf v10).toNat)
    case atStart => exact ⟨0, 9999, rfl, rfl, HS, HJ⟩
    case round =>
      clear HJ HS
      obtain ⟨a, b, rfl, rfl, HS, HJ⟩ := hrel
      have hSa := HS.out.1
      have hSb := HS.out.2.1
      have hSc := HS.out.2.2.1
      have hSm := srch_mid HS.out
      by_cases hlt : a < b
      · have hltb : decide (a < b) = true := decide_eq_true hlt
        gi_wp2
        have hm := srch_mid HS.out hlt
        have hmb : 0 ≤ (a + b + 1) / 2 ∧ (a + b + 1) / 2 ≤ 9999 := by omega
        obtain ⟨m, hme⟩ : ∃ m, m = (a + b + 1) / 2 := ⟨_, rfl⟩
        rw [← hme] at hm hmb
        have HM := Aside0.mk (And.intro hm hmb)
        clear hm
        simp only [← hme]
        clear hme hSm
        obtain ⟨lm, hlm1, hlm2⟩ := mul_val HD.out.2.1 (by have := HD.out.2.2.2.2.2; omega) HM.out.2.1 HM.out.2.2
        have HL := Aside0.mk hlm1
        have HU := Aside0.mk hlm2
        clear hlm1 hlm2 hmb
        obtain ⟨Ap, cp, hbp, hRp⟩ := HJ.out.2.br
        have hbb := HJ.out.2.bb
        refine start_in (m := 8) (S := fun w' => w'.cell? ⟨gb, 0, none⟩ = some (.slice A1 l1.length c1) ∧ w'.cell? ⟨gr, 0, none⟩ = some (.slice Ap vl.length cp)) (ds := []) #[false, false, false, false, false, false, false, false] (by kernel_rfl) rfl rfl (by kernel_rfl) (by rintro ⟨a', w', h⟩; have h := And.left h; cases h) ⟨(blk_cell hbb 0).trans rfl, (blk_cell hbp 0).trans rfl⟩ (fun hHeld => ?_)
        refine with_tabW tab10 bits10 (fun HT_ HW_ => ?_)
        have HJd := Aside0.mk (And.intro (HJ.out.1.drew) (HJ.out.2.step (Below.refl _ wr).drew))
        replace hbp := blk_drew hbp
        replace hbb := blk_drew hbb
        replace hRp := Aside0.mk (hRp.kept (Kept.of_below ((Below.refl _ wr).drew) (fun _ => False)) (fun _ hk => hk.elim))
        generalize wr.drew = wd at HJd hbp hbb hRp hHeld ⊢
        refine pure_ (i := 1) (N := some 34) (v := ?_) (a' := ?_) #[false, true, false, false, false, false, false, false] rfl rfl (any_of HT_.out (by kernel_rfl)) (fun _ _ _ h => h) (Or.inl ⟨by rfl, ?_⟩) ?_ ?_
        rotate_left
        · intro w'
          go_simp
          with_reducible rfl
        rotate_left
        · simp only [Act.put, List.setIfInBounds_toArray, List.set_cons_zero, List.set_cons_succ, i64_w, i32_w]
          rfl
        refine pure_ (i := 2) (N := some 35) (v := ?_) (a' := ?_) #[false, true, true, false, false, false, false, false] rfl rfl (any_of HT_.out (by kernel_rfl)) (fun _ _ _ h => h) (Or.inl ⟨by rfl, ?_⟩) ?_ ?_
        rotate_left
        · intro w'
          go_simp
          with_reducible rfl
        rotate_left
        · simp only [Act.put, List.setIfInBounds_toArray, List.set_cons_zero, List.set_cons_succ, i64_w, i32_w]
          rfl
        refine take_ (i := 0) (N := some 33) (v := ?_) (a' := ?_) #[true, true, true, false, false, false, false, false] rfl rfl (take_ofW HT_.out HW_.out (by kernel_rfl)) (fun _ _ _ h => h) (Or.inl ⟨by rfl, ?_⟩) hHeld ?_ ?_
        rotate_left
        · rintro w' ⟨s0, s1⟩
          go_simp
          with_reducible rfl
        rotate_left
        · simp only [Act.put, List.setIfInBounds_toArray, List.set_cons_zero, List.set_cons_succ, i64_w, i32_w]
          rfl
        refine take_ (i := 5) (N := some 38) (v := ?_) (a' := ?_) #[true, true, true, false, false, true, false, false] rfl rfl (take_ofW HT_.out HW_.out (by kernel_rfl)) (fun _ _ _ h => h) (Or.inl ⟨by rfl, ?_⟩) hHeld ?_ ?_
        rotate_left
        · rintro w' ⟨s0, s1⟩
          go_simp
          with_reducible rfl
        rotate_left
        · simp only [Act.put, List.setIfInBounds_toArray, List.set_cons_zero, List.set_cons_succ, i64_w, i32_w]
          rfl
        refine one_ (i := 3) (N := some 36) #[true, true, true, true, false, true, false, false] rfl rfl (one_of HT_.out (by kernel_rfl)) (by decide) (fun K hK => ?_)
        refine goes_ Try.func56 (by kernel_rfl) rfl #[.int .u64 (IntKind.u64.wrap m)] (by rfl) rfl rfl (by (try simp only [List.map_toArray, List.map_cons, List.map_nil]); first | done | rfl) ?_
        refine (impl_limbsOf.calls 6000 (IntKind.u64.wrap m) lm _ HL.out).mono ?_
        rintro e we ⟨v36, rfl, ho36, hbe36⟩
        refine ⟨_, rfl, ?_⟩
        obtain ⟨A36, c36, rfl⟩ := Kd.R_slice ho36
        have hC36 := Aside0.mk (Kd.R_reads' ho36).2
        replace HJd := Aside0.mk (And.intro (HJd.out.1.below hbe36) (HJd.out.2.step hbe36))
        replace hbp := blk_below hbp hbe36
        replace hbb := blk_below hbb hbe36
        replace hRp := Aside0.mk (hRp.out.kept (Kept.of_below hbe36 (fun _ => False)) (fun _ hk => hk.elim))
        clear ho36 hbe36 hHeld
        refine hK.out _ _ ⟨(blk_cell hbb 0).trans rfl, (blk_cell hbp 0).trans rfl⟩ (fun hHeld => ?_)
        clear hK K
        refine norm_ (a' := ?_) ?_ ?_
        rotate_left
        · show Act.put _ (some 36) _ = _
          simp only [Act.put, List.setIfInBounds_toArray, List.set_cons_zero, List.set_cons_succ, i64_w, i32_w]
          rfl
        refine one_ (i := 4) (N := some 37) #[true, true, true, true, true, true, false, false] rfl rfl (one_of HT_.out (by kernel_rfl)) (by decide) (fun K hK => ?_)
        refine goes_ Try.func85 (by kernel_rfl) rfl #[.slice A1 l1.length c1, .slice A36 lm.length c36] (by rfl) rfl rfl (by (try simp only [List.map_toArray, List.map_cons, List.map_nil]); first | done | rfl) ?_
        refine (impl_limbs_mul.calls 6000 A1 c1 l1 A36 c36 lm _ _ (Kd.C_below HR1.out HJd.out.2.below) HC.out.2 hC36.out.2 hC36.out.1 HU.out).mono ?_
        rintro e wf ⟨v37, rfl, ho37, hbe37⟩
        refine ⟨_, rfl, ?_⟩
        obtain ⟨A37, c37, rfl⟩ := Kd.V_slice ho37
        have hC37 := Aside0.mk (Kd.V_reads' ho37).2
        replace HJd := Aside0.mk (And.intro (HJd.out.1.below hbe37) (HJd.out.2.step hbe37))
        replace hbp := blk_below hbp hbe37
        replace hbb := blk_below hbb hbe37
        replace hRp := Aside0.mk (hRp.out.kept (Kept.of_below hbe37 (fun _ => False)) (fun _ hk => hk.elim))
        clear ho37 hbe37 hHeld hC36
        refine hK.out _ _ ⟨(blk_cell hbb 0).trans rfl, (blk_cell hbp 0).trans rfl⟩ (fun hHeld => ?_)
        clear hK K
        refine norm_ (a' := ?_) ?_ ?_
        rotate_left
        · show Act.put _ (some 37) _ = _
          simp only [Act.put, List.setIfInBounds_toArray, List.set_cons_zero, List.set_cons_succ, i64_w, i32_w]
          rfl
        have lBm : 0 ≤ val l1 * m := Int.mul_nonneg (Int.le_of_lt HD.out.2.2.2.1) HM.out.2.1
        have lBl : (rep (val l1 * m)).length ≤ 41 := len_of HD.out.2.1 HD.out.2.2.2.2.2 lBm (by have h_ := Int.mul_le_mul_of_nonneg_left HM.out.2.2 (Int.le_of_lt HD.out.2.2.2.1); have := HD.out.2.2.2.1; omega)
        have HCM := Aside0.mk (show impl_limbs_cmp.f 6000 (rep (val l1 * m)) vl = some (sgn (val l1 * m - V)) by rw [HVL.out]; exact cmp_val lBm XV.out.2.1.1 (by omega) (by omega))
        clear lBm lBl
        refine one_ (i := 6) (N := some 39) #[true, true, true, true, true, true, true, false] rfl rfl (one_of HT_.out (by kernel_rfl)) (by decide) (fun K hK => ?_)
        refine goes_ Try.func87 (by kernel_rfl) rfl #[.slice A37 (rep (val l1 * m)).length c37, .slice Ap vl.length cp] (by rfl) rfl rfl (by (try simp only [List.map_toArray, List.map_cons, List.map_nil]); first | done | rfl) ?_
        refine (impl_limbs_cmp.calls 6000 A37 c37 _ Ap cp vl _ _ hC37.out.2 hC37.out.1 hRp.out.C hRp.out.1 HCM.out).mono ?_
        rintro e wg ⟨rfl, hbe39⟩
        refine ⟨_, rfl, ?_⟩
        replace HJd := Aside0.mk (And.intro (HJd.out.1.below hbe39) (HJd.out.2.step hbe39))
        replace hbp := blk_below hbp hbe39
        replace hbb := blk_below hbb hbe39
        clear hbe39 hHeld hC37 hRp
        refine hK.out _ _ ⟨(blk_cell hbb 0).trans rfl, (blk_cell hbp 0).trans rfl⟩ (fun hHeld => ?_)
        clear hK K
        refine norm_ (a' := ?_) ?_ ?_
        rotate_left
        · show Act.put _ (some 39) _ = _
          simp only [Act.put, List.setIfInBounds_toArray, List.set_cons_zero, List.set_cons_succ, i64_w, i32_w]
          rfl
        obtain ⟨sg, hsg⟩ : ∃ sg, sg = sgn (val l1 * m - V) := ⟨_, rfl⟩
        have hsl := sgn_le (val l1 * m - V)
        simp only [← hsg] at hsl ⊢
        have HSG := Aside0.mk hsl
        clear hsl hsg HCM
        refine pure_ (i := 7) (N := some 40) (v := ?_) (a' := ?_) #[true, true, true, true, true, true, true, true] rfl rfl (any_of HT_.out (by kernel_rfl)) (fun _ _ _ h => h) (Or.inl ⟨by rfl, ?_⟩) ?_ ?_
        rotate_left
        · intro w'
          go_simp
          with_reducible rfl
        rotate_left
        · simp only [Act.put, List.setIfInBounds_toArray, List.set_cons_zero, List.set_cons_succ, i64_w, i32_w]
          rfl
        refine done_ (done_of HT_.out (by kernel_rfl)) ?_
        clear hHeld hbp hbb
        by_cases hsg0 : sg ≤ 0
        · have hsgb : decide (sg ≤ 0) = true := decide_eq_true hsg0
          have HS2 := Aside0.mk (srch_yes HS.out HM.out.1.1 HM.out.1.2 (HSG.out.1 hsg0))
          have hms : (b - m).toNat < (b - a).toNat := by have := HM.out.1; omega
          gi_wp2
          go_roundw
          case rel => exact ⟨m, b, rfl, rfl, HS2, HJd⟩
          case measure => simpa [intOf] using hms
        · have hsgb : decide (sg ≤ 0) = false := decide_eq_false hsg0
          have HS2 := Aside0.mk (srch_no HS.out HM.out.1.1 HM.out.1.2 (fun h => hsg0 (HSG.out.2 h)))
          have hms : (m - 1 - a).toNat < (b - a).toNat := by have := HM.out.1; omega
          have hm1 := HM.out.2.1
          have hm2 := HM.out.2.2
          gi_wp2
          go_roundw
          case rel => exact ⟨a, m - 1, rfl, rfl, HS2, HJd⟩
          case measure => simpa [intOf] using hms
      · have hltb : decide (a < b) = false := decide_eq_false hlt
        have hend := srch_end HD.out.2.2.2.1 HS.out hlt
        have HE := Aside0.mk hend
        have hab : 0 ≤ a ∧ a ≤ 9999 := by omega
        have HAB := Aside0.mk hab
        have hil : i < l0.length := XV.out.2.2.2.2.2.1
        have hOl : O.length = l0.length := XV.out.2.2.2.2.2.2.1
        obtain ⟨g, cap, hv, hg1, hg2, cells, hgc⟩ := Kd.R_form HJ.out.2.ro (by omega)
        have hro := HJ.out.2.ro
        rw [hv, hOl] at hro
        have hgS : some g = vo.ownBlock := by rw [hv]; rfl
        have hco2 : wr.cell? ⟨go, 0, none⟩ = some (.slice (some ⟨g, 0, none⟩) l0.length cap) := by rw [← hOl, ← hv]; exact (blk_cell HJ.out.2.bo 0).trans rfl
        obtain ⟨hcg, hfg⟩ := Kd.R_celln 0 hro (i : Int) (by omega) (by omega)
        rw [Int.toNat_natCast] at hcg hfg
        obtain ⟨hro2, _⟩ := Kd.R_putg hro (i : Int) a
        rw [Int.toNat_natCast] at hro2
        have p1 : decide ((0 : Int) ≤ (i : Int)) = true := decide_eq_true (by omega)
        have p2 : decide ((i : Int) < (l0.length : Int)) = true := decide_eq_true (by omega)
        have q1 : (0 : Int) ≤ (i : Int) := by omega
        have q2 : (i : Int) < (l0.length : Int) := by omega
        have HV' := Aside0.mk (And.intro hv (And.intro hgS (And.intro hro2 (And.intro hOl (And.intro hg1 hg2)))))
        clear hv hgS hro hro2 hOl hab hend hSm hSa hSb hSc hgc hg1 hg2
        gi_wp2
        have hgN : g < W5.heap.size := by have := FX.out.1; have := FX.out.2 g HV'.out.2.1; omega
        have hve : vo = .slice (some ⟨g, 0, none⟩) l0.length cap := by rw [← HV'.out.2.2.2.1]; exact HV'.out.1
        have hIn := HJ.out.2.cell hve hgN HV'.out.2.2.2.2.1 (i := i) (x' := .int .i64 a) (O' := O.set i a) (by have h_ := HV'.out.2.2.1; rw [← hve] at h_; exact h_)
        have hKn := HJ.out.1.setCell (p := ⟨g, i, none⟩) (.inl (.inr HV'.out.2.1)) (.int .i64 a)
        have HJn := Aside0.mk (And.intro hKn hIn)
        generalize wr.setCell ⟨g, i, none⟩ (.int .i64 a) = wn at HJn ⊢
        clear hIn hKn hgN hve HV' HJ HS hltb hil hco2 hcg hfg p1 p2 q1 q2 hlt
        obtain ⟨lm, hlm1, hlm2⟩ := mul_val HD.out.2.1 (by have := HD.out.2.2.2.2.2; omega) HAB.out.1 HAB.out.2
        have HL := Aside0.mk hlm1
        have HU := Aside0.mk hlm2
        clear hlm1 hlm2
        obtain ⟨Ap, cp, hbp, hRp⟩ := HJn.out.2.br
        have hbb := HJn.out.2.bb
        refine start_in (m := 8) (S := fun w' => w'.cell? ⟨gb, 0, none⟩ = some (.slice A1 l1.length c1) ∧ w'.cell? ⟨gr, 0, none⟩ = some (.slice Ap vl.length cp)) (ds := [7]) #[false, false, false, false, false, false, false, false] (by kernel_rfl) rfl rfl (by kernel_rfl) (by rintro ⟨a', w', h⟩; have h := And.left h; cases h) ⟨(blk_cell hbb 0).trans rfl, (blk_cell hbp 0).trans rfl⟩ (fun hHeld => ?_)
        refine with_tabW tab14 bits14 (fun HT_ HW_ => ?_)
        have HJd := Aside0.mk (And.intro (HJn.out.1.drew) (HJn.out.2.step (Below.refl _ wn).drew))
        replace hbp := blk_drew hbp
        replace hbb := blk_drew hbb
        replace hRp := Aside0.mk (hRp.kept (Kept.of_below ((Below.refl _ wn).drew) (fun _ => False)) (fun _ hk => hk.elim))
        generalize wn.drew = wd at HJd hbp hbb hRp hHeld ⊢
        refine pure_ (i := 2) (N := some 50) (v := ?_) (a' := ?_) #[false, false, true, false, false, false, false, false] rfl rfl (any_of HT_.out (by kernel_rfl)) (fun _ _ _ h => h) (Or.inl ⟨by rfl, ?_⟩) ?_ ?_
        rotate_left
        · intro w'
          go_simp
          with_reducible rfl
        rotate_left
        · simp only [Act.put, List.setIfInBounds_toArray, List.set_cons_zero, List.set_cons_succ, i64_w, i32_w]
          rfl
        refine pure_ (i := 3) (N := some 51) (v := ?_) (a' := ?_) #[false, false, true, true, false, false, false, false] rfl rfl (any_of HT_.out (by kernel_rfl)) (fun _ _ _ h => h) (Or.inl ⟨by rfl, ?_⟩) ?_ ?_
        rotate_left
        · intro w'
          go_simp
          with_reducible rfl
        rotate_left
        · simp only [Act.put, List.setIfInBounds_toArray, List.set_cons_zero, List.set_cons_succ, i64_w, i32_w]
          rfl
        refine take_ (i := 0) (N := some 48) (v := ?_) (a' := ?_) #[true, false, true, true, false, false, false, false] rfl rfl (take_ofW HT_.out HW_.out (by kernel_rfl)) (fun _ _ _ h => h) (Or.inl ⟨by rfl, ?_⟩) hHeld ?_ ?_
        rotate_left
        · rintro w' ⟨s0, s1⟩
          go_simp
          with_reducible rfl
        rotate_left
        · simp only [Act.put, List.setIfInBounds_toArray, List.set_cons_zero, List.set_cons_succ, i64_w, i32_w]
          rfl
        refine take_ (i := 1) (N := some 49) (v := ?_) (a' := ?_) #[true, true, true, true, false, false, false, false] rfl rfl (take_ofW HT_.out HW_.out (by kernel_rfl)) (fun _ _ _ h => h) (Or.inl ⟨by rfl, ?_⟩) hHeld ?_ ?_
        rotate_left
        · rintro w' ⟨s0, s1⟩
          go_simp
          with_reducible rfl
        rotate_left
        · simp only [Act.put, List.setIfInBounds_toArray, List.set_cons_zero, List.set_cons_succ, i64_w, i32_w]
          rfl
        refine one_ (i := 4) (N := some 52) #[true, true, true, true, true, false, false, false] rfl rfl (one_of HT_.out (by kernel_rfl)) (by decide) (fun K hK => ?_)
        refine goes_ Try.func56 (by kernel_rfl) rfl #[.int .u64 (IntKind.u64.wrap a)] (by rfl) rfl rfl (by (try simp only [List.map_toArray, List.map_cons, List.map_nil]); first | done | rfl) ?_
        refine (impl_limbsOf.calls 6000 (IntKind.u64.wrap a) lm _ HL.out).mono ?_
        rintro e we ⟨v52, rfl, ho52, hbe52⟩
        refine ⟨_, rfl, ?_⟩
        obtain ⟨A52, c52, rfl⟩ := Kd.R_slice ho52
        have hC52 := Aside0.mk (Kd.R_reads' ho52).2
        replace HJd := Aside0.mk (And.intro (HJd.out.1.below hbe52) (HJd.out.2.step hbe52))
        replace hbp := blk_below hbp hbe52
        replace hbb := blk_below hbb hbe52
        replace hRp := Aside0.mk (hRp.out.kept (Kept.of_below hbe52 (fun _ => False)) (fun _ hk => hk.elim))
        clear ho52 hbe52 hHeld
        refine hK.out _ _ ⟨(blk_cell hbb 0).trans rfl, (blk_cell hbp 0).trans rfl⟩ (fun hHeld => ?_)
        clear hK K
        refine norm_ (a' := ?_) ?_ ?_
        rotate_left
        · show Act.put _ (some 52) _ = _
          simp only [Act.put, List.setIfInBounds_toArray, List.set_cons_zero, List.set_cons_succ, i64_w, i32_w]
          rfl
        refine one_ (i := 5) (N := some 53) #[true, true, true, true, true, true, false, false] rfl rfl (one_of HT_.out (by kernel_rfl)) (by decide) (fun K hK => ?_)
        refine goes_ Try.func85 (by kernel_rfl) rfl #[.slice A1 l1.length c1, .slice A52 lm.length c52] (by rfl) rfl rfl (by (try simp only [List.map_toArray, List.map_cons, List.map_nil]); first | done | rfl) ?_
        refine (impl_limbs_mul.calls 6000 A1 c1 l1 A52 c52 lm _ _ (Kd.C_below HR1.out HJd.out.2.below) HC.out.2 hC52.out.2 hC52.out.1 HU.out).mono ?_
        rintro e wf ⟨v53, rfl, ho53, hbe53⟩
        refine ⟨_, rfl, ?_⟩
        obtain ⟨A53, c53, rfl⟩ := Kd.V_slice ho53
        have hC53 := Aside0.mk (Kd.V_reads' ho53).2
        replace HJd := Aside0.mk (And.intro (HJd.out.1.below hbe53) (HJd.out.2.step hbe53))
        replace hbp := blk_below hbp hbe53
        replace hbb := blk_below hbb hbe53
        replace hRp := Aside0.mk (hRp.out.kept (Kept.of_below hbe53 (fun _ => False)) (fun _ hk => hk.elim))
        clear ho53 hbe53 hHeld hC52
        refine hK.out _ _ ⟨(blk_cell hbb 0).trans rfl, (blk_cell hbp 0).trans rfl⟩ (fun hHeld => ?_)
        clear hK K
        refine norm_ (a' := ?_) ?_ ?_
        rotate_left
        · show Act.put _ (some 53) _ = _
          simp only [Act.put, List.setIfInBounds_toArray, List.set_cons_zero, List.set_cons_succ, i64_w, i32_w]
          rfl
        have lBm : 0 ≤ val l1 * a := Int.mul_nonneg (Int.le_of_lt HD.out.2.2.2.1) HAB.out.1
        have lBV : val l1 * a ≤ V := by rw [Int.mul_comm]; exact HE.out.2.2
        have HSU := Aside0.mk (show impl_limbs_sub.f 6000 vl (rep (val l1 * a)) = some (rep (V % val l1)) by rw [HVL.out, sub_val XV.out.2.1.1 lBm (by omega) lBV, HE.out.2.1])
        clear lBm lBV
        refine one_ (i := 6) (N := some 54) #[true, true, true, true, true, true, true, false] rfl rfl (one_of HT_.out (by kernel_rfl)) (by decide) (fun K hK => ?_)
        refine goes_ Try.func88 (by kernel_rfl) rfl #[.slice Ap vl.length cp, .slice A53 (rep (val l1 * a)).length c53] (by rfl) rfl rfl (by (try simp only [List.map_toArray, List.map_cons, List.map_nil]); first | done | rfl) ?_
        refine (impl_limbs_sub.calls 6000 Ap cp vl A53 c53 _ _ _ hRp.out.C hRp.out.1 hC53.out.2 hC53.out.1 HSU.out).mono ?_
        rintro e wg ⟨v54, rfl, ho54, hbe54⟩
        refine ⟨_, rfl, ?_⟩
        obtain ⟨A54, c54, rfl⟩ := Kd.V_slice ho54
        have hR54 := Aside0.mk (Rest.of_V (N0 := W5.heap.size) ho54 (fun k hk => by have := HJd.out.2.big; omega))
        replace HJd := Aside0.mk (And.intro (HJd.out.1.below hbe54) (HJd.out.2.step hbe54))
        replace hbp := blk_below hbp hbe54
        replace hbb := blk_below hbb hbe54
        clear ho54 hbe54 hHeld hC53 hRp
        refine hK.out _ _ ⟨(blk_cell hbb 0).trans rfl, (blk_cell hbp 0).trans rfl⟩ (fun hHeld => ?_)
        clear hK K
        refine norm_ (a' := ?_) ?_ ?_
        rotate_left
        · show Act.put _ (some 54) _ = _
          simp only [Act.put, List.setIfInBounds_toArray, List.set_cons_zero, List.set_cons_succ, i64_w, i32_w]
          rfl
        have hcr : wg.cell? ⟨gr, 0, none⟩ = some (.slice Ap vl.length cp) := (blk_cell hbp 0).trans rfl
        have hfr := blk_frozen hbp 0
        refine last_ (i := 7) (N := none) #[true, true, true, true, true, true, true, true] rfl rfl (one_of HT_.out (by kernel_rfl)) (by decide) (fun K hK => ?_)
        refine skip_ (w1 := ?_) (by rfl) rfl ?_ ?_
        rotate_left
        · go_simp
          rfl
        refine hK.out _ _ ?_
        clear hK K hcr hfr hHeld
        refine done_ (done_of HT_.out (by kernel_rfl)) ?_
        have hfin := HJd.out.2.rest (by have := FX.out.1; omega) (by have := FX.out.1; omega) (by have := FX.out.1; omega) (fun k hk => by have := FX.out.1; have := FX.out.2 k hk; omega) (by have := FX.out.1; omega) hR54.out
        rw [HE.out.1] at hfin
        exact ⟨rfl, HJd.out.1.setCell (.inl (.inl rfl)) _, hfin⟩
end Go.Proofs.Ytdemeoncjcbojaa.Dw
namespace Go.Proofs.Ytdemeoncjcbojaa.Ext
open Go.RowKit Go.Proofs.Ytdemeoncjcbojaa.Jt Go.Proofs.YtdemeoncjcbojaaW.PrintWords Go.Proofs.YtdemeoncjcbojaaW.PrintMore
instance decDig (l : List Int) : Decidable (Dig l) := inferInstanceAs (Decidable (∀ x ∈ l, _))
instance decNz (l : List Int) : Decidable (Nz l) := inferInstanceAs (Decidable (_ ∨ _))
def impl_limbs_div.f (l0 l1 : List Int) : Option (List Int × List Int) := if Dig l0 ∧ Dig l1 ∧ Nz l1 ∧ 0 < val l1 ∧ l0.length ≤ 40 ∧ l1.length ≤ 40 then some (rep (val l0 / val l1), rep (val l0 % val l1)) else none
theorem impl_limbs_div.calls (A0 : Option Addr) (c0 : Nat) (l0 : List Int) (A1 : Option Addr) (c1 : Nat) (l1 : List Int) (r1 : List Int) (r2 : List Int) (w : World) (hr0 : Kd.C (Kd.int .i64) w A0 l0.length l0) (hc0 : l0.length ≤ c0) (hr1 : Kd.C (Kd.int .i64) w A1 l1.length l1) (hc1 : l1.length ≤ c1) (h : impl_limbs_div.f l0 l1 = some (r1, r2)) :
    Calls Try.prog 78 #[.slice A0 l0.length c0, .slice A1 l1.length c1] w fun e w' => ∃ v0_ v1_ : Value, e = .returned (.tuple #[v0_, v1_]) ∧ Kd.V (Kd.int .i64) 3 w' w.heap.size (fun k_ => (w.heap.size ≤ k_)) v0_ r1 ∧ Kd.V (Kd.int .i64) 3 w' w.heap.size (fun k_ => (w.heap.size ≤ k_)) v1_ r2 ∧ Below w.heap.size w w' := by
  unfold impl_limbs_div.f at h
  split at h
  · rename_i hb
    obtain ⟨h1, h2, h3, h4, h5, h6⟩ := hb
    have h := Option.some.inj h
    obtain ⟨rfl, rfl⟩ := Prod.mk.inj h
    exact callsIn_wide.1 (Dw.div_in A0 c0 l0 A1 c1 l1 h1 h2 h3 h4 h5 h6 w hr0 hc0 hr1 hc1)
  · cases h
end Go.Proofs.Ytdemeoncjcbojaa.Ext
end
section
namespace Go.Proofs.Ytdemeoncjcbojaa.Pr
open Go.RowKit Go.Proofs.YtdemeoncjcbojaaW.PrintWords Go.Proofs.YtdemeoncjcbojaaW.PrintLast Go.Proofs.Ytdemeoncjcbojaa.Ext Go.Proofs.YtdemeoncjcbojaaW.PrintMore
attribute [local go_sem] max2_int min2_int max_two min_two max_three min_three max_four min_four
set_option linter.unusedVariables false
set_option linter.unusedSimpArgs false
def impl_BigDiv.j0 : Nat → Bool → Bool → List Int → Bool → List Int → Option (Bool × List Int × Bool × List Int × Bool)
  | 0, _, _, _, _, _ => none
  | k + 1, x22, x348000, x348001, x349000, x349001 => if x22 = true then (some (false, ([] : List Int), false, ([] : List Int), false)) else ((impl_limbs_div.f x348001 x349001).bind fun bt352 => ((impl_big.f k (x348000 != x349000) bt352.1).bind fun bt358 => ((impl_big.f k x348000 bt352.2).bind fun bt364 => (some (bt358.1, bt358.2.1, bt364.1, bt364.2.1, true)))))
def impl_BigDiv.f (k : Nat) (a0_0 : Bool) (l0_1 : List Int) (a1_0 : Bool) (l1_1 : List Int) : Option (Bool × List Int × Bool × List Int × Bool) := (impl_bigs.f a0_0 l0_1 a1_0 l1_1).bind fun t351 => (if t351 = true then (impl_BigDiv.j0 k ((l1_1.length : Int) == 0) a0_0 l0_1 a1_0 l1_1) else (impl_BigDiv.j0 k true a0_0 l0_1 a1_0 l1_1))
end Go.Proofs.Ytdemeoncjcbojaa.Pr
end
