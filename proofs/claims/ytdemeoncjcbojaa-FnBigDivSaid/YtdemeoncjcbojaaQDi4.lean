/- What the claim's row needs of the contracts and words below it, and no more. -/
import Derived.Test.YtdemeoncjcbojaaQDi3
import Derived.Test.YtdemeoncjcbojaaProg
import Derived.RangeFuncNested
import Derived.RangeFuncBound
import Derived.RangeFuncCalls
import Derived.RangeFuncLeaves
import Derived.RangeFuncBox
import Derived.Shelf.Abstract
import Derived.Shelf.RegionOpen
import Derived.WalkKit
import Derived.OwnWalkIn
import Derived.TacticsInMore
import Derived.LoopNIn
import Derived.LoopIn
import Derived.RegionIn
import Derived.OpenShut
import Derived.RangeFuncWrites
section
namespace Go.Proofs.Ytdemeoncjcbojaa.Rng
open Go.RowKit Go.Shelf
set_option linter.unusedVariables false
set_option linter.unusedSimpArgs false
attribute [local go_sem] Oper.semAt_some
def down (zs : List Int) (len k : Nat) : List (Nat × Int) := (List.range k).map fun j => (len - 1 - j, zs[len - 1 - j]?.getD 0)
theorem down_length (zs : List Int) (len k : Nat) : (down zs len k).length = k := by simp [down]
theorem down_step (zs : List Int) {len m : Nat} (h : m < len) : down zs len (len - m) = down zs len (len - (m + 1)) ++ [(m, zs[m]?.getD 0)] := by
  unfold down
  rw [show len - m = len - (m + 1) + 1 by omega, List.range_succ, List.map_append]
  congr 1
  simp only [List.map_cons, List.map_nil]
  rw [show len - 1 - (len - (m + 1)) = m by omega]
theorem add_blk (a : Addr) (m : Nat) : (a.add m).block = a.block := by unfold Addr.add; split <;> rfl
abbrev El (zs : List Int) (len : Nat) := { x : Nat × Int // x.1 < len ∧ x.2 = zs[x.1]?.getD 0 }
def SameIn (S : Nat → Prop) (W W' : World) : Prop := ∀ p : Addr, S p.block → W'.cell? p = W.cell? p
theorem SameIn.refl (S : Nat → Prop) (W : World) : SameIn S W W := fun _ _ => rfl
theorem SameIn.trans {S : Nat → Prop} {A B C : World} (h : SameIn S A B) (k : SameIn S B C) : SameIn S A C := fun p hp => (k p hp).trans (h p hp)
theorem sameIn_b {S : Nat → Prop} {w : World} (hS : ∀ x, S x → x < w.heap.size) (W : World) (l : Nat) (o o' : Obj) (hl : w.heap.size ≤ l) (h : W.heap[l]? = some o) (h1 : o.isCells = false) (h2 : o.isWalk = false) : SameIn S W (W.putObj l o') :=
  fun p hp => (belowK_b (n₀ := w.heap.size) (Nat.le_refl _) W l o o' hl h h1 h2).cell (hS _ hp)
theorem back1_in (F : Fence) (n : Nat) (h88 : F.fn 101) (hro : F.round = none) (hn : 1 ≤ n) (l Bs : Nat) (ad : Addr) (len cap : Nat) (zs : List Int) (hreach : len * 8 ≤ 140737488351232) (S : Nat → Prop) (hSb : S ad.block) (hSB : S Bs) (J Jx : List (El zs len) → World → Prop)
    (hY : ∀ pre x W, J pre W → pre.length < len → YieldAt F (n - 1) Try.prog l #[.int .i64 (x.1.1 : Int), .int .i64 x.1.2] W fun e W' =>
      (e = .returned (.bool true) ∧ J (pre ++ [x]) W' ∧ SameIn S W W') ∨ (e = .returned (.bool false) ∧ Jx (pre ++ [x]) W'))
    (W : World) (hBs : W.cell? ⟨Bs, 0, none⟩ = some (.slice (some ad) len cap)) (hc : ∀ j, j < len → W.cell? (ad.add j) = some (.int .i64 (zs[j]?.getD 0))) (h0 : J [] W) :
    CallsIn F n Try.prog 101 #[.func (.yield l) #[] #[], .pointer (some ⟨Bs, 0, none⟩)] W fun e W' => (∃ v, e = .returned v) ∧
      ((∃ ys, ys.map Subtype.val = down zs len len ∧ J ys W') ∨ (∃ pre, (∃ k, k ≤ len ∧ pre.map Subtype.val = down zs len k) ∧ Jx pre W')) := by
  refine callsIn_of_wp Try.func101 rfl h88 ?_ hro
  simp only [Try.ntmps101, List.size_toArray, List.length_cons, List.length_nil, Nat.reduceAdd, Nat.reduceSub, Array.replicate_succ, Array.replicate_zero, List.push_toArray, List.append_toArray, List.nil_append, List.cons_append]
  have hw0 : wrap64 ((len : Int) - 1) = (len : Int) - 1 := by unfold wrap64; omega
  gi_wp2
  gi_loopw [3] (fun i wr => ∃ m : Nat, m ≤ len ∧ i = .int .i64 ((m : Int) - 1) ∧ (∃ ys : List (El zs len), ys.map Subtype.val = down zs len (len - m) ∧ J ys wr) ∧ SameIn S W wr)
    (fun i _ => (intOf i + 1).toNat)
  case atStart => exact ⟨len, Nat.le_refl _, by simp [hw0], ⟨[], by rw [Nat.sub_self]; rfl, h0⟩, SameIn.refl _ _⟩
  case round =>
    obtain ⟨m, hm, rfl, ⟨ys, hys, hJs⟩, hnx⟩ := hrel
    have hBx : wr.cell? ⟨Bs, 0, none⟩ = some (.slice (some ad) len cap) := (hnx ⟨Bs, 0, none⟩ hSB).trans hBs
    cases m with
    | zero =>
      gi_wp2
      go_end0
      exact ⟨⟨_, rfl⟩, .inl ⟨_, hys, hJs⟩⟩
    | succ m =>
      have e1 : (((m + 1 : Nat) : Int) - 1) = (m : Int) := by omega
      rw [e1]
      have hcx : wr.cell? (ad.add m) = some (.int .i64 (zs[m]?.getD 0)) := (hnx (ad.add m) (by rw [add_blk]; exact hSb)).trans (hc m (by omega))
      obtain ⟨fn, tmps, assign, body, hy, hR⟩ := hY _ ⟨(m, zs[m]?.getD 0), hm, rfl⟩ wr hJs (by rw [← List.length_map (f := Subtype.val), hys, down_length]; omega)
      dsimp only at hy
      have hlt : m < len := hm
      have h00 : (0 : Int) ≤ (m : Int) := by omega
      have h01 : (m : Int) < (len : Int) := by omega
      have hw1 : wrap64 ((m : Int) - 1) = (m : Int) - 1 := by unfold wrap64; omega
      gi_wp2
      refine hR.mono ?_
      rintro e W3 (⟨rfl, hJ3, hk3⟩ | ⟨rfl, hJx3⟩)
      · gi_wp2
        go_roundw
        case rel => exact ⟨m, by omega, by simp [hw1], ⟨_, by rw [List.map_append, hys, down_step zs hlt]; rfl, hJ3⟩, hnx.trans hk3⟩
        case measure => simp [intOf, hw1]
      · gi_wp2
        refine bodyPost_ret (results_none rfl _ _ _) rfl ?_
        exact ⟨⟨_, rfl⟩, .inr ⟨_, ⟨len - m, by omega, by rw [List.map_append, hys, down_step zs hlt]; rfl⟩, hJx3⟩⟩
theorem back1_nil_in (F : Fence) (n : Nat) (h88 : F.fn 101) (hro : F.round = none) (l Bs : Nat) (a : Option Addr) (cap : Nat) (zs : List Int) (len : Nat) (J : List (El zs len) → World → Prop) (W : World) (hBs : W.cell? ⟨Bs, 0, none⟩ = some (.slice a 0 cap)) (h0 : J [] W) :
    CallsIn F n Try.prog 101 #[.func (.yield l) #[] #[], .pointer (some ⟨Bs, 0, none⟩)] W fun e W' => (∃ v, e = .returned v) ∧ J [] W' := by
  refine callsIn_of_wp Try.func101 rfl h88 ?_ hro
  simp only [Try.ntmps101, List.size_toArray, List.length_cons, List.length_nil, Nat.reduceAdd, Nat.reduceSub, Array.replicate_succ, Array.replicate_zero, List.push_toArray, List.append_toArray, List.nil_append, List.cons_append]
  gi_wp2
  gi_loopw [3] (fun i wr => i = .int .i64 (-1) ∧ J [] wr) (fun _ _ => 0)
  case atStart => exact ⟨rfl, h0⟩
  case round =>
    obtain ⟨rfl, hJs⟩ := hrel
    gi_wp2
    go_end0
    exact ⟨⟨_, rfl⟩, hJs⟩
theorem back_in (F : Fence) (n : Nat) (h68 : F.fn 96) (hro : F.round = none) (a : Option Addr) (len cap : Nat) (w : World) :
    CallsIn F n Try.prog 96 #[.slice a len cap] w fun e w' => e = .returned (.func (.func 101) #[] #[.pointer (some ⟨w.heap.size, 0, none⟩)]) ∧ w' = w.alloc (.cells #[.slice a len cap] 54) := by
  refine callsIn_of_wp Try.func96 rfl h68 ?_ hro
  simp only [Try.ntmps96, List.size_toArray, List.length_cons, List.length_nil, Nat.reduceAdd, Nat.reduceSub, Array.replicate_succ, Array.replicate_zero, List.push_toArray, List.append_toArray, List.nil_append, List.cons_append]
  gi_wp2
  go_ret
  exact ⟨rfl, rfl⟩
def RowIn (S : Nat → Prop) (W : World) (a : Option Addr) (len : Nat) (zs : List Int) : Prop :=
  len = 0 ∨ ∃ ad, a = some ad ∧ S ad.block ∧ ∀ j, j < len → W.cell? (ad.add j) = some (.int .i64 (zs[j]?.getD 0))
theorem RowIn.same {S : Nat → Prop} {A B : World} (h : SameIn S A B) {a : Option Addr} {len : Nat} {zs : List Int} : RowIn S A a len zs → RowIn S B a len zs
  | .inl e => .inl e
  | .inr ⟨ad, e, hb, hc⟩ => .inr ⟨ad, e, hb, fun j hj => (h (ad.add j) (by rw [add_blk]; exact hb)).trans (hc j hj)⟩
theorem SameIn.of_below {S : Nat → Prop} {n : Nat} {A B : World} (h : Below n A B) (hS : ∀ x, S x → x < n) : SameIn S A B := fun p hp => h.cell (hS _ hp)
theorem back_stops (F : Fence) (n : Nat) (h88 : F.fn 101) (hro : F.round = none) (hn : 1 ≤ n) (Bs : Nat) (a : Option Addr) (len cap : Nat) (zs : List Int) (hreach : len * 8 ≤ 140737488351232) (S : Nat → Prop) (hSB : S Bs) (w : World) (hSw : ∀ x, S x → x < w.heap.size)
    (hc : w.cell? ⟨Bs, 0, none⟩ = some (.slice a len cap)) (hI : RowIn S w a len zs) :
    SeqStopsK F n Try.prog 101 #[.pointer (some ⟨Bs, 0, none⟩)] (fun x : El zs len => #[Value.int .i64 (x.1.1 : Int), Value.int .i64 x.1.2]) (SameIn S) (fun ys => ys.map Subtype.val = down zs len len)
      (fun pre => ∃ k, k ≤ len ∧ pre.map Subtype.val = down zs len k) len w := fun l J Jx W hW _ _ hY h0 => by
  have hs := SameIn.of_below hW hSw
  have hc' := (hs ⟨Bs, 0, none⟩ hSB).trans hc
  rcases hI.same hs with rfl | ⟨ad, rfl, hb, hcs⟩
  · exact (back1_nil_in F n h88 hro l Bs a cap zs 0 J W hc' h0).mono fun e W' ⟨he, hj⟩ => ⟨he, .inl ⟨_, rfl, hj⟩⟩
  · exact back1_in F n h88 hro hn l Bs ad len cap zs hreach S hb hSB J Jx hY W hc' hcs h0
end Go.Proofs.Ytdemeoncjcbojaa.Rng
end
section
namespace Go.Proofs.Ytdemeoncjcbojaa.Cv
open Go.RowKit Go.Proofs.YtdemeoncjcbojaaW.PrintWords Go.Proofs.YtdemeoncjcbojaaW.PrintLast
set_option linter.unusedVariables false
variable {P : Program} {ops : Array Oper} {Q : Exit → Act → World → Prop} {lo n : Nat}
def calm (o : Oper) : Bool := match o.op with
  | .defer _ => false
  | _ => true
theorem calm_ne {o : Oper} (h : calm o = true) (c) : o.op ≠ .defer c := by
  intro e
  unfold calm at h
  rw [e] at h
  cases h
theorem rows_in {row : String} {args : Array Value} {w : World} {R : Value → World → Prop} (h : Rows P row args w R) : RowsIn (Fence.wide.inRound lo) n P row args w R :=
  fun c cs _ => let ⟨v, w', r, s⟩ := h c cs; ⟨v, w', r, stepsIn_wide.2 s⟩
theorem op_in {o : Oper} {a : Act} {w : World} {K : Act → World → Prop} (hn : calm o = true) (h : o.wp P a w K Q) : o.wpIn (Fence.wide.inRound lo) n P a w K Q := by
  refine ⟨fun _ _ => trivial, ?_⟩
  rw [show (Fence.wide.inRound lo).round = some lo from rfl, Oper.semAt_some _ _ _ (calm_ne hn)]
  unfold Oper.wp at h
  generalize (execOp a.eval o).run P w = r at h ⊢
  cases r with
  | ok x w' =>
    cases x with
    | value v => exact h
    | skip => exact h
    | defer d => exact h
    | enter f args => exact ⟨fun e => (by cases e), (CallsIn.inRound lo (callsIn_wide.2 h)).mono (fun e w'' he => by cases e <;> exact he)⟩
    | row row args => exact ⟨fun e => (by cases e), rows_in h⟩
    | _ => exact h.elim
  | halt x w' => cases x <;> first | exact h | exact h.elim
theorem list_in (hQ : ¬ LetsOut Q) : ∀ (l : List Oper) (a : Act) (w : World), l.all calm = true → wpList P ops Q l a w → wpListIn (Fence.wide.inRound lo) n P ops Q l a w
  | [], _, _, _, h => h
  | o :: r, a, w, hn, h => by
    rw [List.all_cons, Bool.and_eq_true] at hn
    unfold wpList at h
    unfold wpListIn
    split
    · rename_i hw
      rw [if_pos hw] at h
      rcases h with h | h
      · refine op_in hn.1 ?_
        exact Oper.wp_mono (fun a w => list_in hQ r a w hn.2) h
      · exact absurd h.2 hQ
    · rename_i hw
      rw [if_neg hw] at h
      exact ⟨fun _ _ => trivial, list_in hQ r _ _ hn.2 h⟩
theorem any_in (hQ : ¬ LetsOut Q) (hn : ∀ (i : Nat) (o : Oper), ops[i]? = some o → calm o = true) {md : Region.Mode} : ∀ (fuel : Nat) (listed : Array Bool) (a : Act) (w : World), wpAny P md ops Q fuel listed a w → wpAnyIn (Fence.wide.inRound lo) n P md ops Q fuel listed a w
  | 0, _, _, _, h => h
  | fuel + 1, listed, a, w, h => by
    refine ⟨h.1, fun i hi => ?_⟩
    have h2 := h.2 i hi
    unfold wpOp at h2
    unfold wpOpIn
    cases ho : ops[i]? with
    | none =>
      simp only [ho] at h2 ⊢
      exact any_in hQ hn fuel _ a w h2
    | some o =>
      simp only [ho] at h2 ⊢
      split
      · rename_i hw
        rw [if_pos hw] at h2
        rcases h2 with h2 | h2
        · exact op_in (hn i o ho) (Oper.wp_mono (fun a w => any_in hQ hn fuel _ a w) h2)
        · exact absurd h2.2 hQ
      · rename_i hw
        rw [if_neg hw] at h2
        exact ⟨fun _ _ => trivial, any_in hQ hn fuel _ _ _ h2⟩
theorem region_in {id : Nat} {l : List Oper} {a : Act} {w : World} (hn : l.all calm = true) (hQ : ¬ LetsOut Q) (h : wpList P l.toArray Q l a w) : (Code.region id l.toArray false).wpIn (Fence.wide.inRound lo) n P Q a w :=
  wpIn_region_lit (list_in hQ l a w hn h)
theorem calm_all {ops : Array Oper} (h : ops.toList.all calm = true) (i : Nat) (o : Oper) (ho : ops[i]? = some o) : calm o = true :=
  List.all_eq_true.1 h o (Array.mem_toList_iff.2 (Array.mem_of_getElem? ho))
theorem start_in {id m : Nat} {a : Act} {w : World} {S : World → Prop} {ds : List Nat} (l : Array Bool) (hm : P.follows .mixedOrders = true) (hk : ops.size = m) (hl : Array.replicate m false = l) (hn : ops.toList.all calm = true) (hQ : ¬ LetsOut Q) (hS : S w.drew)
    (h : S w.drew → wpAnyLast P .any ops Q S ds m l a w.drew) : (Code.region id ops true).wpIn (Fence.wide.inRound lo) n P Q a w := by
  subst hk
  subst hl
  exact wpIn_region_any hm (any_in hQ (calm_all hn) _ _ _ _ (wpAny_of_last _ _ _ _ (h hS)))
end Go.Proofs.Ytdemeoncjcbojaa.Cv
end
section
namespace Go.Proofs.Ytdemeoncjcbojaa.Jt
def pw (n : Nat) : Int := 10000 ^ n
theorem pw_zero : pw 0 = 1 := rfl
theorem pw_succ (n : Nat) : pw (n + 1) = 10000 * pw n := by unfold pw; rw [Int.pow_succ]; omega
theorem pw_pos (n : Nat) : 1 ≤ pw n := by
  induction n with
  | zero => decide
  | succ n ih => rw [pw_succ]; omega
theorem pw_add (m n : Nat) : pw (m + n) = pw m * pw n := by unfold pw; rw [Int.pow_add]
theorem pw_mono {m n : Nat} (h : m ≤ n) : pw m ≤ pw n := by
  obtain ⟨d, rfl⟩ := Nat.exists_eq_add_of_le h
  induction d with
  | zero => exact Int.le_refl _
  | succ d ih =>
    have h1 := ih (by omega)
    have h2 := pw_pos (m + d)
    rw [show m + (d + 1) = (m + d) + 1 from rfl, pw_succ]
    omega
def val : List Int → Int
  | [] => 0
  | x :: xs => x + 10000 * val xs
def Dig (l : List Int) : Prop := ∀ x ∈ l, 0 ≤ x ∧ x ≤ 9999
def Nz (l : List Int) : Prop := l.length = 0 ∨ l.getD (l.length - 1) 0 ≠ 0
theorem getD_lt {l : List Int} {i : Nat} (h : i < l.length) : l.getD i 0 = l[i] := by rw [List.getD_eq_getElem?_getD, List.getElem?_eq_getElem h]; rfl
theorem getD_ge {l : List Int} {i : Nat} (h : l.length ≤ i) : l.getD i 0 = 0 := by rw [List.getD_eq_getElem?_getD, List.getElem?_eq_none h]; rfl
theorem val_nil : val [] = 0 := rfl
theorem val_append (a b : List Int) : val (a ++ b) = val a + pw a.length * val b := by
  induction a with
  | nil => simp [val, pw_zero]
  | cons x xs ih => simp only [List.cons_append, val, ih, List.length_cons, pw_succ]; rw [Int.mul_add, Int.mul_assoc]; omega
theorem Dig.nil : Dig [] := fun x h => by cases h
theorem Dig.cons {x : Int} {xs : List Int} (h0 : 0 ≤ x) (h1 : x ≤ 9999) (h : Dig xs) : Dig (x :: xs) := by
  intro y hy
  rcases List.mem_cons.1 hy with rfl | hy
  · exact ⟨h0, h1⟩
  · exact h y hy
theorem Dig.head {x : Int} {xs : List Int} (h : Dig (x :: xs)) : 0 ≤ x ∧ x ≤ 9999 := h x (by simp)
theorem Dig.tail {x : Int} {xs : List Int} (h : Dig (x :: xs)) : Dig xs := fun y hy => h y (by simp [hy])
theorem Dig.take {l : List Int} (h : Dig l) (n : Nat) : Dig (l.take n) := fun x hx => h x (List.mem_of_mem_take hx)
theorem Dig.append {a b : List Int} (ha : Dig a) (hb : Dig b) : Dig (a ++ b) := by
  intro x hx
  rcases List.mem_append.1 hx with h | h
  · exact ha x h
  · exact hb x h
theorem Dig.getD {l : List Int} (h : Dig l) (i : Nat) : 0 ≤ l.getD i 0 ∧ l.getD i 0 ≤ 9999 := by
  by_cases hi : i < l.length
  · rw [getD_lt hi]; exact h _ (List.getElem_mem hi)
  · rw [getD_ge (by omega)]; omega
theorem dig_of_getD {l : List Int} (h : ∀ i, i < l.length → 0 ≤ l.getD i 0 ∧ l.getD i 0 ≤ 9999) : Dig l := by
  intro x hx
  obtain ⟨i, hi, rfl⟩ := List.getElem_of_mem hx
  have := h i hi
  rwa [getD_lt hi] at this
theorem val_nonneg {l : List Int} (h : Dig l) : 0 ≤ val l := by
  induction l with
  | nil => exact Int.le_refl _
  | cons x xs ih =>
    have h1 := ih h.tail
    have h2 := h.head
    simp only [val]; omega
theorem val_lt {l : List Int} (h : Dig l) : val l < pw l.length := by
  induction l with
  | nil => decide
  | cons x xs ih =>
    have h1 := ih h.tail
    have h2 := h.head
    simp only [val, List.length_cons, pw_succ]; omega
theorem val_set (l : List Int) : ∀ (i : Nat) (v : Int), i < l.length → val (l.set i v) = val l + pw i * (v - l.getD i 0) := by
  induction l with
  | nil => intro i v h; simp at h
  | cons x xs ih =>
    intro i v h
    cases i with
    | zero => simp only [List.set_cons_zero, val, List.getD_cons_zero, pw_zero]; omega
    | succ i =>
      simp only [List.set_cons_succ, val, List.getD_cons_succ, pw_succ]
      rw [ih i v (by simpa using h), Int.mul_add, Int.mul_assoc]
      omega
theorem getD_set (l : List Int) (i j : Nat) (v : Int) (h : i < l.length) : (l.set i v).getD j 0 = if j = i then v else l.getD j 0 := by
  by_cases hj : j = i
  · subst hj
    rw [if_pos rfl, List.getD_eq_getElem?_getD, List.getElem?_set_self h]; rfl
  · rw [if_neg hj, List.getD_eq_getElem?_getD, List.getElem?_set_ne (Ne.symm hj), List.getD_eq_getElem?_getD]
theorem val_split (l : List Int) {n : Nat} (h : n ≤ l.length) : val l = val (l.take n) + pw n * val (l.drop n) := by
  have := val_append (l.take n) (l.drop n)
  rw [List.take_append_drop, List.length_take, Nat.min_eq_left h] at this
  exact this
theorem drop_cons {l : List Int} {n : Nat} (h : n < l.length) : l.drop n = l.getD n 0 :: l.drop (n + 1) := by
  rw [List.drop_eq_getElem_cons h, getD_lt h]
theorem val_zeros {l : List Int} (h : ∀ i, i < l.length → l.getD i 0 = 0) : val l = 0 := by
  induction l with
  | nil => rfl
  | cons x xs ih =>
    have h0 := h 0 (by simp)
    have h1 := ih (fun i hi => by have := h (i + 1) (by simpa using hi); simpa using this)
    simp at h0
    simp only [val, h0, h1]; decide
theorem val_replicate (n : Nat) : val (List.replicate n 0) = 0 := val_zeros fun i hi => by
  rw [List.length_replicate] at hi
  rw [getD_lt (by simpa using hi), List.getElem_replicate]
theorem val_ge {l : List Int} (h : Dig l) (hz : Nz l) (hne : 0 < l.length) : pw (l.length - 1) ≤ val l := by
  have hs := val_split l (n := l.length - 1) (by omega)
  rw [drop_cons (by omega), show l.length - 1 + 1 = l.length from by omega, List.drop_length] at hs
  have h1 := val_nonneg (h.take (l.length - 1))
  have h2 := h.getD (l.length - 1)
  have h3 : l.getD (l.length - 1) 0 ≠ 0 := hz.resolve_left (by omega)
  have hp := pw_pos (l.length - 1)
  simp only [val] at hs
  have h4 : pw (l.length - 1) * 1 ≤ pw (l.length - 1) * (l.getD (l.length - 1) 0 + 10000 * 0) := Int.mul_le_mul_of_nonneg_left (by omega) (by omega)
  omega
theorem uniq {a : List Int} : ∀ {b : List Int}, Dig a → Dig b → Nz a → Nz b → val a = val b → a = b := by
  induction a with
  | nil =>
    intro b _ hb _ zb e
    cases b with
    | nil => rfl
    | cons y ys =>
      have := val_ge hb zb (by simp)
      have := pw_pos ((y :: ys).length - 1)
      rw [val_nil] at e
      omega
  | cons x xs ih =>
    intro b ha hb za zb e
    cases b with
    | nil =>
      have := val_ge ha za (by simp)
      have := pw_pos ((x :: xs).length - 1)
      rw [val_nil] at e
      omega
    | cons y ys =>
      have hx := ha.head
      have hy := hb.head
      simp only [val] at e
      have e1 : x = y := by omega
      have e2 : val xs = val ys := by omega
      have zt : ∀ {z : Int} {zs : List Int}, Nz (z :: zs) → Nz zs := by
        intro z zs h
        cases zs with
        | nil => left; rfl
        | cons u us =>
          right
          have h' := h.resolve_left (by simp)
          simpa using h'
      rw [e1, ih ha.tail hb.tail (zt za) (zt zb) e2]
def repN (n : Nat) : List Int := if h : n = 0 then [] else ((n % 10000 : Nat) : Int) :: repN (n / 10000)
termination_by n
decreasing_by omega
def rep (v : Int) : List Int := repN v.toNat
theorem repN_zero : repN 0 = [] := by rw [repN]; simp
theorem repN_pos {n : Nat} (h : n ≠ 0) : repN n = ((n % 10000 : Nat) : Int) :: repN (n / 10000) := by rw [repN]; simp [h]
theorem repN_ok (n : Nat) : Dig (repN n) ∧ val (repN n) = n ∧ Nz (repN n) := by
  induction n using Nat.strongRecOn with
  | ind n ih =>
    by_cases h : n = 0
    · subst h; rw [repN_zero]; exact ⟨Dig.nil, rfl, .inl rfl⟩
    · obtain ⟨h1, h2, h3⟩ := ih (n / 10000) (by omega)
      rw [repN_pos h]
      refine ⟨Dig.cons (by omega) (by omega) h1, by simp only [val, h2]; omega, .inr ?_⟩
      by_cases hq : n / 10000 = 0
      · rw [hq, repN_zero]; simp; omega
      · have hne : (repN (n / 10000)).length ≠ 0 := by rw [repN_pos hq]; simp
        have := h3.resolve_left hne
        rw [List.length_cons, show (repN (n / 10000)).length + 1 - 1 = ((repN (n / 10000)).length - 1) + 1 from by omega, List.getD_cons_succ]
        exact this
theorem rep_dig (v : Int) : Dig (rep v) := (repN_ok _).1
theorem rep_nz (v : Int) : Nz (rep v) := (repN_ok _).2.2
theorem rep_val {v : Int} (h : 0 ≤ v) : val (rep v) = v := by unfold rep; rw [(repN_ok _).2.1]; omega
theorem rep_of {l : List Int} (hd : Dig l) (hz : Nz l) : rep (val l) = l := uniq (rep_dig _) hd (rep_nz _) hz (rep_val (val_nonneg hd))
theorem is_rep {l : List Int} {v : Int} (hd : Dig l) (hz : Nz l) (hv : val l = v) : l = rep v := by rw [← hv, rep_of hd hz]
theorem rep_zero : rep 0 = [] := repN_zero
theorem rep_nil {v : Int} (h : 0 ≤ v) : rep v = [] ↔ v = 0 := by
  constructor
  · intro e
    have := rep_val h
    rw [e] at this
    exact this.symm
  · rintro rfl; exact rep_zero
theorem rep_len {v : Int} (h : 0 ≤ v) (n : Nat) : (rep v).length ≤ n ↔ v < pw n := by
  have hv := rep_val h
  have hl := val_lt (rep_dig v)
  constructor
  · intro hle
    have := pw_mono hle
    omega
  · intro hlt
    apply Nat.le_of_not_lt
    intro hgt
    have hg := val_ge (rep_dig v) (rep_nz v) (by omega)
    have := pw_mono (show n ≤ (rep v).length - 1 by omega)
    omega
def TrimOf (l r : List Int) : Prop := ∃ n, n ≤ l.length ∧ r = l.take n ∧ (∀ j, n ≤ j → j < l.length → l.getD j 0 = 0) ∧ (0 < n → l.getD (n - 1) 0 ≠ 0)
theorem TrimOf.dig {l r : List Int} (h : TrimOf l r) (hd : Dig l) : Dig r := by obtain ⟨n, _, rfl, _, _⟩ := h; exact hd.take n
theorem TrimOf.val {l r : List Int} (h : TrimOf l r) : Jt.val r = Jt.val l := by
  obtain ⟨n, hn, rfl, hz, _⟩ := h
  have hs := val_split l hn
  have : Jt.val (l.drop n) = 0 := val_zeros fun i hi => by
    rw [List.length_drop] at hi
    have := hz (n + i) (by omega) (by omega)
    rw [List.getD_eq_getElem?_getD] at this ⊢
    rw [List.getElem?_drop]; exact this
  rw [this] at hs
  omega
theorem getD_take (l : List Int) {i n : Nat} (h : i < n) : (l.take n).getD i 0 = l.getD i 0 := by
  rw [List.getD_eq_getElem?_getD, List.getD_eq_getElem?_getD, List.getElem?_take_of_lt h]
theorem TrimOf.nz {l r : List Int} (h : TrimOf l r) : Nz r := by
  obtain ⟨n, hn, rfl, _, hlast⟩ := h
  by_cases h0 : n = 0
  · left; simp [h0]
  · right
    rw [List.length_take, Nat.min_eq_left hn, getD_take l (by omega)]
    exact hlast (by omega)
theorem TrimOf.rep {l r : List Int} (h : TrimOf l r) (hd : Dig l) {v : Int} (hv : Jt.val l = v) : r = Jt.rep v := is_rep (h.dig hd) h.nz (h.val.trans hv)
theorem TrimOf.len {l r : List Int} (h : TrimOf l r) : r.length ≤ l.length := by obtain ⟨n, hn, rfl, _, _⟩ := h; rw [List.length_take]; omega
theorem val_lt_of_len {a b : List Int} (ha : Dig a) (hb : Dig b) (zb : Nz b) (h : a.length < b.length) : val a < val b := by
  have h1 := val_lt ha
  have h2 := val_ge hb zb (by omega)
  have := pw_mono (show a.length ≤ b.length - 1 by omega)
  omega
theorem val_lt_at {a b : List Int} (ha : Dig a) (hb : Dig b) {i : Nat} (h1 : i < a.length) (h2 : i < b.length) (hd : a.drop (i + 1) = b.drop (i + 1)) (hlt : a.getD i 0 < b.getD i 0) : val a < val b := by
  have ea := val_split a (n := i) (by omega)
  have eb := val_split b (n := i) (by omega)
  rw [drop_cons h1] at ea
  rw [drop_cons h2, ← hd] at eb
  simp only [val] at ea eb
  have la := val_lt (ha.take i)
  have nb := val_nonneg (hb.take i)
  rw [List.length_take, Nat.min_eq_left (by omega)] at la
  have hp := pw_pos i
  have hm : pw i * (a.getD i 0 + 1) ≤ pw i * b.getD i 0 := Int.mul_le_mul_of_nonneg_left (by omega) (by omega)
  rw [Int.mul_add] at ea eb hm
  omega
def bigv (neg : Bool) (l : List Int) : Int := if neg = true then -val l else val l
def BOk (neg : Bool) (l : List Int) : Prop := l.length ≤ 16 ∧ Dig l ∧ Nz l ∧ (neg = true → l.length ≠ 0)
def mkN (x : Int) : Bool := decide (x < 0)
def mkL (x : Int) : List Int := rep (if x < 0 then -x else x)
theorem nz_pos {l : List Int} (hd : Dig l) (hz : Nz l) (h : l.length ≠ 0) : 0 < val l := by
  have := val_ge hd hz (by omega)
  have := pw_pos (l.length - 1)
  omega
theorem mk_of {neg : Bool} {l : List Int} (h : BOk neg l) : mkN (bigv neg l) = neg ∧ mkL (bigv neg l) = l := by
  obtain ⟨_, hd, hz, hn⟩ := h
  have h0 := val_nonneg hd
  unfold mkN mkL bigv
  cases neg with
  | true =>
    have := nz_pos hd hz (hn rfl)
    simp only [if_true]
    rw [if_pos (show -val l < 0 by omega), Int.neg_neg, rep_of hd hz]
    exact ⟨decide_eq_true (by omega), rfl⟩
  | false =>
    simp only [Bool.false_eq_true, if_false]
    rw [if_neg (show ¬ val l < 0 by omega), rep_of hd hz]
    exact ⟨decide_eq_false (by omega), rfl⟩
theorem mk_ok {x : Int} (h1 : -pw 16 < x) (h2 : x < pw 16) : BOk (mkN x) (mkL x) := by
  have h0 : 0 ≤ (if x < 0 then -x else x) := by split <;> omega
  refine ⟨(rep_len h0 16).2 (by split <;> omega), rep_dig _, rep_nz _, ?_⟩
  intro hn hl
  have := of_decide_eq_true hn
  have e := rep_val h0
  unfold mkL at hl
  rw [List.length_eq_zero_iff.1 hl, val_nil] at e
  split at e <;> omega
theorem mk_v (x : Int) : bigv (mkN x) (mkL x) = x := by
  have h0 : 0 ≤ (if x < 0 then -x else x) := by split <;> omega
  have e := rep_val h0
  unfold bigv mkN mkL
  rw [e]
  by_cases h : x < 0
  · rw [if_pos h, decide_eq_true h]; simp
  · rw [if_neg h, decide_eq_false h]; simp
theorem bigv_bd {neg : Bool} {l : List Int} (h : BOk neg l) : -pw 16 < bigv neg l ∧ bigv neg l < pw 16 := by
  obtain ⟨hl, hd, hz, hn⟩ := h
  have h0 := val_nonneg hd
  have h1 := val_lt hd
  have h2 := pw_mono hl
  unfold bigv
  split <;> omega
end Go.Proofs.Ytdemeoncjcbojaa.Jt
end
section
namespace Go.Proofs.Ytdemeoncjcbojaa.Val
open Go.RowKit Go.Proofs.Ytdemeoncjcbojaa.Pr Go.Proofs.Ytdemeoncjcbojaa.Ext Go.Proofs.Ytdemeoncjcbojaa.Jt Go.Proofs.YtdemeoncjcbojaaW.PrintWords Go.Proofs.YtdemeoncjcbojaaW.PrintLast Go.Proofs.YtdemeoncjcbojaaW.PrintMore
set_option linter.unusedVariables false
set_option linter.unusedSimpArgs false
theorem w64 {x : Int} (h : -9223372036854775808 ≤ x) (h' : x ≤ 9223372036854775807) : wrap64 x = x := by unfold wrap64; omega
theorem rdn (l : List Int) (i : Int) : rd l i = l.getD i.toNat 0 := rfl
def okD (x : Int) : Bool := decide (0 ≤ x) && decide (x ≤ 9999)
def okB (neg : Bool) (l : List Int) : Bool := decide (l.length ≤ 16) && l.all okD && (decide (l.length = 0) || decide (l.getD (l.length - 1) 0 ≠ 0)) && (!neg || decide (l.length ≠ 0))
theorem okB_iff (neg : Bool) (l : List Int) : okB neg l = true ↔ BOk neg l := by
  unfold okB BOk Dig Nz
  simp only [Bool.and_eq_true, decide_eq_true_eq, List.all_eq_true, okD, Bool.or_eq_true, Bool.not_eq_true']
  constructor
  · rintro ⟨⟨⟨a, b⟩, c⟩, d⟩
    exact ⟨a, b, c, fun h => d.resolve_left (by simp [h])⟩
  · rintro ⟨a, b, c, d⟩
    refine ⟨⟨⟨a, b⟩, c⟩, ?_⟩
    cases neg
    · exact .inl rfl
    · exact .inr (d rfl)
theorem in_ge (x : Int) : spec_l1In.f x 0 9999 = some (okD x) := by
  unfold spec_l1In.f okD
  by_cases h : x ≥ 0
  · rw [if_pos h, decide_eq_true h, Bool.true_and]
  · rw [if_neg h, decide_eq_false h, Bool.false_and]
theorem bne_d (x : Int) : (x != 0) = decide (x ≠ 0) := by by_cases h : x = 0 <;> simp [h]
theorem l1Ok_l0 (neg : Bool) (l : List Int) (hl : l.length ≤ 16) : ∀ (m k i : Nat), i + m = l.length → m + 1 ≤ k →
    spec_l1Ok.l0 k (i : Int) neg l = some ((l.drop i).all okD && (decide (l.length = 0) || decide (l.getD (l.length - 1) 0 ≠ 0))) := by
  intro m
  induction m with
  | zero =>
    intro k i hi hk
    obtain ⟨k, rfl⟩ : ∃ j, k = j + 1 := ⟨k - 1, by omega⟩
    rw [spec_l1Ok.l0, if_neg (by omega), List.drop_eq_nil_of_le (by omega)]
    by_cases h0 : l.length = 0
    · rw [if_pos (by omega)]; simp [h0]
    · rw [if_neg (by omega), w64 (by omega) (by omega), if_pos (by omega), if_pos (by omega), rdn, show ((l.length : Int) - 1).toNat = l.length - 1 from by omega, bne_d, decide_eq_false h0]
      rfl
  | succ m ih =>
    intro k i hi hk
    obtain ⟨k, rfl⟩ : ∃ j, k = j + 1 := ⟨k - 1, by omega⟩
    have hlt : i < l.length := by omega
    rw [spec_l1Ok.l0, if_pos (by omega), if_pos (by omega), in_ge]
    simp only [Option.bind_some]
    rw [rdn, Int.toNat_natCast, drop_cons hlt, List.all_cons]
    by_cases hb : okD (l.getD i 0) = true
    · rw [if_pos hb, w64 (by omega) (by omega), show ((i : Int) + 1) = ((i + 1 : Nat) : Int) from by omega, ih k (i + 1) (by omega) (by omega), hb, Bool.true_and]
    · rw [if_neg hb, Bool.eq_false_iff.mpr hb]; simp
theorem l1Ok_ge (neg : Bool) (l : List Int) (k : Nat) (hk : 30 ≤ k) : spec_l1Ok.f k neg l = some (okB neg l) := by
  obtain ⟨k, rfl⟩ : ∃ j, k = j + 1 := ⟨k - 1, by omega⟩
  unfold spec_l1Ok.f okB
  by_cases h16 : (l.length : Int) > 16
  · rw [if_pos h16, spec_l1Ok.j0, if_pos rfl, decide_eq_false (show ¬ l.length ≤ 16 by omega)]; simp
  · have e := l1Ok_l0 neg l (by omega) l.length k 0 (by omega) (by omega)
    rw [List.drop_zero] at e
    rw [if_neg h16, decide_eq_true (show l.length ≤ 16 by omega), Bool.true_and]
    cases neg
    · rw [if_neg (by decide), spec_l1Ok.j0, if_neg (by decide)]
      refine e.trans ?_
      simp
    · rw [if_pos rfl, spec_l1Ok.j0]
      by_cases h0 : l.length = 0
      · rw [if_pos (by simp [h0])]; simp [h0]
      · rw [if_neg (by simp; intro hn; simp [hn] at h0)]
        refine e.trans ?_
        rw [decide_eq_true (show l.length ≠ 0 from h0)]
        simp
theorem any_bad (l : List Int) : l.any bad = !(l.all okD) := by
  induction l with
  | nil => rfl
  | cons x xs ih => rw [List.any_cons, List.all_cons, ih, Bool.not_and]; rfl
theorem bigOk_f (neg : Bool) (l : List Int) : impl_BigOk.f neg l = some (okB neg l) := by
  unfold impl_BigOk.f okB containsBad.f
  simp only [any_bad, Option.bind_some, Bool.not_not]
  by_cases h16 : (l.length : Int) ≤ 16
  · rw [if_pos h16, decide_eq_true (show l.length ≤ 16 by omega), Bool.true_and]
    by_cases h0 : (l.length : Int) = 0
    · rw [if_pos h0]
      have h0' : l.length = 0 := by omega
      cases neg
      · rw [if_neg (by decide)]; simp [h0']
      · rw [if_pos rfl, if_neg (by omega)]; simp [h0']
    · have h0' : l.length ≠ 0 := by omega
      rw [if_neg h0, if_pos (by omega), w64 (by omega) (by omega), if_pos (by omega), if_pos (by omega), rdn, show ((l.length : Int) - 1).toNat = l.length - 1 from by omega, decide_eq_false h0', decide_eq_true (show l.length ≠ 0 from h0'), Bool.false_or, Bool.or_true, Bool.and_true]
      by_cases hz : l.getD (l.length - 1) 0 = 0
      · rw [if_pos hz, decide_eq_false (by simpa using hz)]; simp
      · rw [if_neg hz, decide_eq_true hz]; simp
  · rw [if_neg h16, decide_eq_false (show ¬ l.length ≤ 16 by omega)]; simp
def trimN (l : List Int) : Nat → Nat
  | 0 => 0
  | n + 1 => if l.getD n 0 = 0 then trimN l n else n + 1
def trimL (l : List Int) : List Int := l.take (trimN l l.length)
theorem trimN_le (l : List Int) (n : Nat) : trimN l n ≤ n := by
  induction n with
  | zero => exact Nat.le_refl _
  | succ n ih => unfold trimN; split <;> omega
theorem trimN_hi (l : List Int) (n : Nat) : ∀ j, trimN l n ≤ j → j < n → l.getD j 0 = 0 := by
  induction n with
  | zero => intro j _ h; omega
  | succ n ih =>
    intro j h1 h2
    unfold trimN at h1
    split at h1
    · rename_i h
      by_cases hj : j = n
      · rw [hj]; exact h
      · exact ih j h1 (by omega)
    · omega
theorem trimN_nz (l : List Int) (n : Nat) : 0 < trimN l n → l.getD (trimN l n - 1) 0 ≠ 0 := by
  induction n with
  | zero => intro h; simp [trimN] at h
  | succ n ih =>
    unfold trimN
    split
    · exact ih
    · rename_i h; intro _; rw [Nat.add_sub_cancel]; exact h
theorem trimL_of (l : List Int) : TrimOf l (trimL l) := ⟨trimN l l.length, trimN_le _ _, rfl, trimN_hi _ _, trimN_nz _ _⟩
theorem trimL_len (l : List Int) : (trimL l).length ≤ l.length := (trimL_of l).len
theorem trimL_rep {l : List Int} (hd : Dig l) : trimL l = rep (val l) := (trimL_of l).rep hd rfl
theorem sTrim_l0 (l : List Int) (hl : l.length < 1000000) : ∀ (n k : Nat), n ≤ l.length → n + 1 ≤ k → spec_l1Trim.l0 k l (n : Int) = some (l.take (trimN l n)) := by
  intro n
  induction n with
  | zero =>
    intro k hn hk
    obtain ⟨k, rfl⟩ : ∃ j, k = j + 1 := ⟨k - 1, by omega⟩
    rw [spec_l1Trim.l0, if_neg (by omega)]
    simp only [Option.bind_some]
    rw [if_pos (by omega), if_pos (by omega), if_pos (by simp)]
    simp [trimN]
  | succ n ih =>
    intro k hn hk
    obtain ⟨k, rfl⟩ : ∃ j, k = j + 1 := ⟨k - 1, by omega⟩
    rw [spec_l1Trim.l0, if_pos (by omega), w64 (by omega) (by omega), show (((n + 1 : Nat) : Int) - 1) = (n : Int) from by omega, if_pos (by omega), if_pos (by omega), rdn, Int.toNat_natCast]
    unfold trimN
    by_cases h : l.getD n 0 = 0
    · rw [if_pos h, if_pos h]; exact ih k (by omega) (by omega)
    · rw [if_neg h, if_neg h]
      simp only [Option.bind_some]
      rw [if_pos (by omega), if_pos (by omega), Int.toNat_natCast, if_pos (by rw [List.length_take]; simp; omega)]
      simp
theorem sTrim_ge (l : List Int) (hl : l.length < 1000000) (k : Nat) (hk : l.length + 1 ≤ k) : spec_l1Trim.f k l = some (trimL l) := sTrim_l0 l hl l.length k (Nat.le_refl _) hk
theorem iTrim_l0 (l : List Int) (hl : l.length < 1000000) : ∀ (n k : Nat), n ≤ l.length → n + 1 ≤ k → impl_limbs_trim.l0 k (l.take n) = some (l.take (trimN l n)) := by
  intro n
  induction n with
  | zero =>
    intro k hn hk
    obtain ⟨k, rfl⟩ : ∃ j, k = j + 1 := ⟨k - 1, by omega⟩
    rw [impl_limbs_trim.l0, if_neg (by simp)]
    rfl
  | succ n ih =>
    intro k hn hk
    obtain ⟨k, rfl⟩ : ∃ j, k = j + 1 := ⟨k - 1, by omega⟩
    have hlen : (l.take (n + 1)).length = n + 1 := by rw [List.length_take]; omega
    rw [impl_limbs_trim.l0, hlen, if_pos (by omega), w64 (by omega) (by omega), show (((n + 1 : Nat) : Int) - 1) = (n : Int) from by omega, if_pos (by omega), if_pos (by omega), rdn, Int.toNat_natCast, getD_take l (by omega)]
    unfold trimN
    by_cases h : l.getD n 0 = 0
    · rw [if_pos h, if_pos h, if_pos (by omega), List.take_take, Nat.min_eq_left (by omega)]; exact ih k (by omega) (by omega)
    · rw [if_neg h, if_neg h]
theorem iTrim_ge (l : List Int) (hl : l.length < 1000000) (k : Nat) (hk : l.length + 1 ≤ k) : impl_limbs_trim.f k l = some (trimL l) := by
  have e := iTrim_l0 l hl l.length k (Nat.le_refl _) hk
  rw [List.take_length] at e
  exact e
def bigR (x : Int) : Bool × List Int × Bool := if -pw 16 < x ∧ x < pw 16 then (mkN x, mkL x, true) else (false, [], false)
theorem bigR_of {neg : Bool} {l : List Int} (hd : Dig l) :
    (if ((rep (val l)).length : Int) > 16 then (false, ([] : List Int), false) else if neg = true then (decide (0 < (rep (val l)).length), rep (val l), true) else (false, rep (val l), true)) = bigR (bigv neg l) := by
  have h0 := val_nonneg hd
  have hr := rep_len h0 16
  have hp := pw_pos 16
  unfold bigR
  by_cases h : ((rep (val l)).length : Int) > 16
  · have hv : ¬ val l < pw 16 := fun hc => by have := hr.2 hc; omega
    rw [if_pos h, if_neg]
    unfold bigv
    split <;> omega
  · have hv : val l < pw 16 := hr.1 (by omega)
    have hin : -pw 16 < bigv neg l ∧ bigv neg l < pw 16 := by unfold bigv; split <;> omega
    rw [if_neg h, if_pos hin]
    cases neg
    · rw [if_neg (by decide)]
      unfold bigv mkN mkL
      rw [if_neg (by decide), if_neg (by omega), decide_eq_false (by omega)]
    · rw [if_pos rfl]
      unfold bigv mkN mkL
      rw [if_pos rfl]
      have hz := rep_nil h0
      by_cases hv0 : val l = 0
      · rw [hv0, rep_zero]; simp [rep_zero]
      · rw [if_pos (by omega), Int.neg_neg, decide_eq_true (show -val l < 0 by omega)]
        have : 0 < (rep (val l)).length := by
          apply Nat.pos_of_ne_zero
          intro hc
          exact hv0 (hz.1 (List.length_eq_zero_iff.1 hc))
        rw [decide_eq_true this]
theorem l1Big_ge {l : List Int} (hd : Dig l) (hl : l.length ≤ 1000) (neg : Bool) (k : Nat) (hk : 1010 ≤ k) : spec_l1Big.f k neg l = some (bigR (bigv neg l)) := by
  unfold spec_l1Big.f
  rw [sTrim_ge l (by omega) k (by omega), ← bigR_of hd, trimL_rep hd]
  simp only [Option.bind_some]
  (repeat' split) <;> simp_all
theorem big_ge {l : List Int} (hd : Dig l) (hl : l.length ≤ 1000) (neg : Bool) (k : Nat) (hk : 1010 ≤ k) : impl_big.f k neg l = some (bigR (bigv neg l)) := by
  unfold impl_big.f impl_clone_int.f clone99.f
  rw [iTrim_ge l (by omega) k (by omega), ← bigR_of hd]
  have := trimL_len l
  simp only [Option.bind_some]
  rw [if_pos (show (trimL l).length < 17592186044416 by omega), trimL_rep hd]
  simp only [Option.bind_some]
  (repeat' split) <;> simp_all
theorem bigR_ok {neg : Bool} {l : List Int} (h : BOk neg l) : bigR (bigv neg l) = (neg, l, true) := by
  unfold bigR
  rw [if_pos (bigv_bd h), (mk_of h).1, (mk_of h).2]
def sgn (x : Int) : Int := if x < 0 then -1 else if x = 0 then 0 else 1
theorem sgn_neg {x : Int} (h : x < 0) : sgn x = -1 := if_pos h
theorem sgn_zero : sgn 0 = 0 := rfl
theorem sgn_pos {x : Int} (h : 0 < x) : sgn x = 1 := by unfold sgn; rw [if_neg (by omega), if_neg (by omega)]
theorem drop_eq_of {a b : List Int} {i : Nat} (ha : i < a.length) (hb : i < b.length) (hd : a.drop (i + 1) = b.drop (i + 1)) (he : a.getD i 0 = b.getD i 0) : a.drop i = b.drop i := by
  rw [drop_cons ha, drop_cons hb, hd, he]
theorem sCmp_l0 {a b : List Int} (ha : Dig a) (hb : Dig b) (hl : a.length = b.length) (hb' : a.length < 1000000) : ∀ (i k : Nat), i ≤ a.length → a.drop i = b.drop i → i + 1 ≤ k →
    spec_l1CmpAbs.l0 k a b ((i : Int) - 1) = some (sgn (val a - val b)) := by
  intro i
  induction i with
  | zero =>
    intro k hi hd hk
    obtain ⟨k, rfl⟩ : ∃ j, k = j + 1 := ⟨k - 1, by omega⟩
    rw [List.drop_zero, List.drop_zero] at hd
    rw [spec_l1CmpAbs.l0, if_neg (by omega), hd, Int.sub_self, sgn_zero]
  | succ i ih =>
    intro k hi hd hk
    obtain ⟨k, rfl⟩ : ∃ j, k = j + 1 := ⟨k - 1, by omega⟩
    rw [spec_l1CmpAbs.l0, show (((i + 1 : Nat) : Int) - 1) = (i : Int) from by omega, if_pos (by omega), if_pos (by omega), if_pos (by omega), if_pos (by omega), rdn, rdn, Int.toNat_natCast]
    by_cases h1 : a.getD i 0 < b.getD i 0
    · have := val_lt_at ha hb (by omega) (by omega) hd h1
      rw [if_pos h1, sgn_neg (by omega)]
    · rw [if_neg h1]
      by_cases h2 : a.getD i 0 > b.getD i 0
      · have := val_lt_at hb ha (by omega) (by omega) hd.symm h2
        rw [if_pos h2, sgn_pos (by omega)]
      · rw [if_neg h2, w64 (by omega) (by omega)]
        exact ih k (by omega) (drop_eq_of (by omega) (by omega) hd (by omega)) (by omega)
theorem iCmp_l0 {a b : List Int} (ha : Dig a) (hb : Dig b) (hl : a.length = b.length) (hb' : a.length < 1000000) : ∀ (i k : Nat), i ≤ a.length → a.drop i = b.drop i → i + 1 ≤ k →
    impl_limbs_cmp.l0 k a b ((i : Int) - 1) = some (sgn (val a - val b)) := by
  intro i
  induction i with
  | zero =>
    intro k hi hd hk
    obtain ⟨k, rfl⟩ : ∃ j, k = j + 1 := ⟨k - 1, by omega⟩
    rw [List.drop_zero, List.drop_zero] at hd
    rw [impl_limbs_cmp.l0, if_neg (by omega), hd, Int.sub_self, sgn_zero]
  | succ i ih =>
    intro k hi hd hk
    obtain ⟨k, rfl⟩ : ∃ j, k = j + 1 := ⟨k - 1, by omega⟩
    rw [impl_limbs_cmp.l0, show (((i + 1 : Nat) : Int) - 1) = (i : Int) from by omega, if_pos (by omega), if_pos (by omega), if_pos (by omega), if_pos (by omega), rdn, rdn, Int.toNat_natCast]
    have b1 := ha.getD i
    have b2 := hb.getD i
    by_cases h1 : a.getD i 0 = b.getD i 0
    · rw [if_pos h1, w64 (by omega) (by omega)]
      exact ih k (by omega) (drop_eq_of (by omega) (by omega) hd h1) (by omega)
    · rw [if_neg h1, w64 (by omega) (by omega)]
      unfold mx mn
      by_cases h2 : a.getD i 0 < b.getD i 0
      · have := val_lt_at ha hb (by omega) (by omega) hd h2
        rw [sgn_neg (by omega), if_pos (show a.getD i 0 - b.getD i 0 < 1 by omega), if_neg (by omega)]
      · have := val_lt_at hb ha (by omega) (by omega) hd.symm (show b.getD i 0 < a.getD i 0 by omega)
        rw [sgn_pos (by omega), if_neg (show ¬ a.getD i 0 - b.getD i 0 < 1 by omega), if_pos (by omega)]
theorem sCmpAbs_ge {a b : List Int} (ha : Dig a) (hb : Dig b) (za : Nz a) (zb : Nz b) (la : a.length ≤ 1000) (lb : b.length ≤ 1000) (k : Nat) (hk : 1010 ≤ k) : spec_l1CmpAbs.f k a b = some (sgn (val a - val b)) := by
  unfold spec_l1CmpAbs.f
  by_cases h : (a.length : Int) = (b.length : Int)
  · rw [if_pos h, w64 (by omega) (by omega)]
    exact sCmp_l0 ha hb (by omega) (by omega) a.length k (Nat.le_refl _) (by rw [List.drop_length, List.drop_eq_nil_of_le (by omega)]) (by omega)
  · rw [if_neg h]
    by_cases h2 : (a.length : Int) < (b.length : Int)
    · have := val_lt_of_len ha hb zb (by omega)
      rw [if_pos h2, sgn_neg (by omega)]
    · have := val_lt_of_len hb ha za (by omega)
      rw [if_neg h2, sgn_pos (by omega)]
theorem iCmp_ge {a b : List Int} (ha : Dig a) (hb : Dig b) (za : Nz a) (zb : Nz b) (la : a.length ≤ 1000) (lb : b.length ≤ 1000) (k : Nat) (hk : 1010 ≤ k) : impl_limbs_cmp.f k a b = some (sgn (val a - val b)) := by
  unfold impl_limbs_cmp.f
  by_cases h : (a.length : Int) = (b.length : Int)
  · rw [if_pos h, w64 (by omega) (by omega)]
    exact iCmp_l0 ha hb (by omega) (by omega) a.length k (Nat.le_refl _) (by rw [List.drop_length, List.drop_eq_nil_of_le (by omega)]) (by omega)
  · rw [if_neg h, w64 (by omega) (by omega)]
    unfold mx mn
    by_cases h2 : (a.length : Int) < (b.length : Int)
    · have := val_lt_of_len ha hb zb (by omega)
      rw [sgn_neg (by omega), if_pos (show (a.length : Int) - (b.length : Int) < 1 by omega), if_neg (by omega)]
    · have := val_lt_of_len hb ha za (by omega)
      rw [sgn_pos (by omega), if_neg (show ¬ (a.length : Int) - (b.length : Int) < 1 by omega), if_pos (by omega)]
end Go.Proofs.Ytdemeoncjcbojaa.Val
end
section
namespace Go.Proofs.Ytdemeoncjcbojaa.Val
open Go.RowKit Go.Proofs.Ytdemeoncjcbojaa.Pr Go.Proofs.Ytdemeoncjcbojaa.Ext Go.Proofs.Ytdemeoncjcbojaa.Jt Go.Proofs.YtdemeoncjcbojaaW.PrintWords Go.Proofs.YtdemeoncjcbojaaW.PrintLast Go.Proofs.YtdemeoncjcbojaaW.PrintMore
set_option linter.unusedVariables false
set_option linter.unusedSimpArgs false
theorem rdN (l : List Int) (i : Nat) : rd l (i : Int) = l.getD i 0 := by unfold rd; rw [Int.toNat_natCast]
theorem getD_set_ne {l : List Int} {i j : Nat} (v : Int) (h : i < l.length) (hne : j ≠ i) : (l.set i v).getD j 0 = l.getD j 0 := by rw [getD_set l i j v h, if_neg hne]
theorem getD_set_eq {l : List Int} {i : Nat} (v : Int) (h : i < l.length) : (l.set i v).getD i 0 = v := by rw [getD_set l i i v h, if_pos rfl]
theorem val_drop (l : List Int) (i : Nat) : val (l.drop i) = l.getD i 0 + 10000 * val (l.drop (i + 1)) := by
  by_cases h : i < l.length
  · rw [drop_cons h]; rfl
  · rw [List.drop_eq_nil_of_le (by omega), List.drop_eq_nil_of_le (by omega), getD_ge (by omega)]; rfl
theorem iAdd_l1 {x : List Int} : ∀ (m k i : Nat) (x : List Int), i + m + 1 = x.length → x.length ≤ 1000 → m + 1100 ≤ k →
    (∀ j, j < i → 0 ≤ x.getD j 0 ∧ x.getD j 0 ≤ 9999) → (∀ j, i < j → 0 ≤ x.getD j 0 ∧ x.getD j 0 ≤ 19998) → (0 ≤ x.getD i 0 ∧ x.getD i 0 ≤ 19999) →
    (x.getD (x.length - 1) 0 ≤ if i = x.length - 1 then 1 else 0) →
    impl_limbs_add.l1 k x ((x.length : Int) - 1) (i : Int) = some (rep (val x)) := by
  intro m
  induction m with
  | zero =>
    intro k i x hi hl hk h1 h2 h3 h4
    obtain ⟨k, rfl⟩ : ∃ j, k = j + 1 := ⟨k - 1, by omega⟩
    have hd : Dig x := dig_of_getD fun j hj => by
      by_cases hji : j < i
      · exact h1 j hji
      · have : j = x.length - 1 := by omega
        have e : i = x.length - 1 := by omega
        rw [if_pos e] at h4
        rw [e] at h3
        subst this
        omega
    rw [impl_limbs_add.l1, if_neg (by omega), iTrim_ge x (by omega) k (by omega), trimL_rep hd]
    rfl
  | succ m ih =>
    intro k i x hi hl hk h1 h2 h3 h4
    obtain ⟨k, rfl⟩ : ∃ j, k = j + 1 := ⟨k - 1, by omega⟩
    have hlt : i < x.length := by omega
    have hlt1 : i + 1 < x.length := by omega
    have n1 := h2 (i + 1) (by omega)
    rw [if_neg (by omega)] at h4
    rw [impl_limbs_add.l1, if_pos (by omega), w64 (x := (i : Int) + 1) (by omega) (by omega), if_pos (by omega), if_pos (by omega), if_pos (by omega), if_pos (by omega)]
    simp only [Option.bind_some]
    simp only [rdn]
    rw [show ((i : Int) + 1).toNat = i + 1 from by omega, Int.toNat_natCast, Int.tdiv_eq_ediv_of_nonneg h3.1, w64 (x := x.getD i 0 / 10000) (by omega) (by omega), w64 (by omega) (by omega),
      getD_set_ne _ hlt1 (by omega), Int.tmod_eq_emod_of_nonneg h3.1]
    have hlen : ((x.set (i + 1) (x.getD (i + 1) 0 + x.getD i 0 / 10000)).set i (x.getD i 0 % 10000)).length = x.length := by simp
    have hv : val ((x.set (i + 1) (x.getD (i + 1) 0 + x.getD i 0 / 10000)).set i (x.getD i 0 % 10000)) = val x := by
      rw [val_set _ _ _ (by rw [List.length_set]; omega), val_set _ _ _ hlt1, getD_set_ne _ hlt1 (by omega), pw_succ]
      have e : x.getD i 0 = 10000 * (x.getD i 0 / 10000) + x.getD i 0 % 10000 := by omega
      generalize x.getD i 0 / 10000 = q at e
      generalize x.getD i 0 % 10000 = r at e
      rw [e]
      grind
    have e := ih k (i + 1) ((x.set (i + 1) (x.getD (i + 1) 0 + x.getD i 0 / 10000)).set i (x.getD i 0 % 10000)) (by rw [hlen]; omega) (by rw [hlen]; omega) (by omega) ?_ ?_ ?_ ?_
    · rw [hlen, hv] at e
      rw [show ((i : Int) + 1) = ((i + 1 : Nat) : Int) from by omega]
      exact e
    · intro j hj
      by_cases hji : j = i
      · rw [hji, getD_set_eq _ (by rw [List.length_set]; omega)]; omega
      · rw [getD_set_ne _ (by rw [List.length_set]; omega) hji, getD_set_ne _ hlt1 (by omega)]; exact h1 j (by omega)
    · intro j hj
      rw [getD_set_ne _ (by rw [List.length_set]; omega) (by omega), getD_set_ne _ hlt1 (by omega)]; exact h2 j (by omega)
    · rw [getD_set_ne _ (by rw [List.length_set]; omega) (by omega), getD_set_eq _ hlt1]; omega
    · rw [hlen]
      rw [getD_set_ne _ (by rw [List.length_set]; omega) (by omega)]
      by_cases he : i + 1 = x.length - 1
      · rw [if_pos he, ← he, getD_set_eq _ hlt1]
        rw [← he] at h4
        omega
      · rw [if_neg he, getD_set_ne _ hlt1 (by omega)]; exact h4
theorem iAdd_l0 {b : List Int} (hb : Dig b) : ∀ (m k i : Nat) (x : List Int), i + m = b.length → b.length + 1 ≤ x.length → x.length ≤ 1000 → m + 2200 ≤ k →
    (∀ j, j < i → 0 ≤ x.getD j 0 ∧ x.getD j 0 ≤ 19998) → (∀ j, i ≤ j → 0 ≤ x.getD j 0 ∧ x.getD j 0 ≤ 9999) → x.getD (x.length - 1) 0 = 0 →
    impl_limbs_add.l0 k x b (b.length : Int) (i : Int) = some (rep (val x + pw i * val (b.drop i))) := by
  intro m
  induction m with
  | zero =>
    intro k i x hi hx hl hk h1 h2 h3
    obtain ⟨k, rfl⟩ : ∃ j, k = j + 1 := ⟨k - 1, by omega⟩
    rw [impl_limbs_add.l0, if_neg (by omega), w64 (by omega) (by omega), List.drop_eq_nil_of_le (by omega), val_nil, Int.mul_zero, Int.add_zero]
    have hall : ∀ j, 0 ≤ x.getD j 0 ∧ x.getD j 0 ≤ 19998 := fun j => by
      by_cases hj : j < i
      · exact h1 j hj
      · have := h2 j (by omega); omega
    have e := iAdd_l1 (x := x) (x.length - 1) k 0 x (by omega) hl (by omega) (fun j hj => by omega) (fun j _ => hall j) (by have := hall 0; omega) (by rw [h3]; split <;> omega)
    exact e
  | succ m ih =>
    intro k i x hi hx hl hk h1 h2 h3
    obtain ⟨k, rfl⟩ : ∃ j, k = j + 1 := ⟨k - 1, by omega⟩
    have hlt : i < b.length := by omega
    have hltx : i < x.length := by omega
    have b1 := hb.getD i
    have b2 := h2 i (by omega)
    rw [impl_limbs_add.l0, if_pos (by omega), if_pos (by omega), if_pos (by omega), if_pos (by omega), w64 (x := (i : Int) + 1) (by omega) (by omega)]
    simp only [rdn]
    rw [Int.toNat_natCast, w64 (by omega) (by omega), show ((i : Int) + 1) = ((i + 1 : Nat) : Int) from by omega]
    have e := ih k (i + 1) (x.set i (x.getD i 0 + b.getD i 0)) (by omega) (by simp; omega) (by simp; omega) (by omega) ?_ ?_ ?_
    · rw [e, val_set _ _ _ hltx, val_drop b i, pw_succ]
      congr 2
      grind
    · intro j hj
      by_cases hji : j = i
      · rw [hji, getD_set_eq _ hltx]; omega
      · rw [getD_set_ne _ hltx hji]; exact h1 j (by omega)
    · intro j hj
      rw [getD_set_ne _ hltx (by omega)]; exact h2 j (by omega)
    · rw [List.length_set, getD_set_ne _ hltx (by omega)]; exact h3
theorem iAdd_ge {a b : List Int} (ha : Dig a) (hb : Dig b) (la : a.length ≤ 500) (lb : b.length ≤ 500) (k : Nat) (hk : 3000 ≤ k) : impl_limbs_add.f k a b = some (rep (val a + val b)) := by
  unfold impl_limbs_add.f
  have hm : mx (a.length : Int) (b.length : Int) = ((max a.length b.length : Nat) : Int) := by unfold mx; split <;> omega
  rw [hm, w64 (by omega) (by omega), if_pos (by omega), show (((max a.length b.length : Nat) : Int) + 1).toNat = max a.length b.length + 1 from by omega, if_pos (by omega)]
  have hc : cpy a (List.replicate (max a.length b.length + 1) 0) = a ++ List.replicate (max a.length b.length + 1 - a.length) 0 := by
    unfold cpy
    rw [List.length_replicate, Nat.min_eq_left (by omega), List.take_length, List.drop_replicate]
  rw [hc]
  have hr : ∀ j, (List.replicate (max a.length b.length + 1 - a.length) (0 : Int)).getD j 0 = 0 := fun j => by
    rw [List.getD_eq_getElem?_getD, List.getElem?_replicate]; split <;> rfl
  have hg : ∀ j, (a ++ List.replicate (max a.length b.length + 1 - a.length) 0).getD j 0 = a.getD j 0 := fun j => by
    by_cases hj : j < a.length
    · rw [List.getD_eq_getElem?_getD, List.getElem?_append_left hj, ← List.getD_eq_getElem?_getD]
    · rw [List.getD_eq_getElem?_getD, List.getElem?_append_right (by omega), ← List.getD_eq_getElem?_getD, hr, getD_ge (by omega)]
  have e := iAdd_l0 hb b.length k 0 (a ++ List.replicate (max a.length b.length + 1 - a.length) 0) (by omega) (by simp; omega) (by simp; omega) (by omega) (fun j hj => by omega) (fun j _ => by rw [hg]; exact ha.getD j)
    (by rw [hg]; apply getD_ge; simp; omega)
  rw [val_append, val_replicate, List.drop_zero, pw_zero] at e
  refine e.trans ?_
  congr 2
  omega
theorem limb_ge (l : List Int) (i : Nat) : spec_l1Limb.f l (i : Int) = some (l.getD i 0) := by
  unfold spec_l1Limb.f
  by_cases h : (i : Int) < (l.length : Int)
  · rw [if_pos h, if_pos (by omega), rdn, Int.toNat_natCast]
  · rw [if_neg h, getD_ge (by omega)]
theorem dig_push {l : List Int} (h : Dig l) {x : Int} (h0 : 0 ≤ x) (h1 : x ≤ 9999) : Dig (l ++ [x]) := h.append (Dig.cons h0 h1 Dig.nil)
theorem val_push (l : List Int) (x : Int) : val (l ++ [x]) = val l + pw l.length * x := by rw [val_append]; simp [val]
theorem iSub_l1 (v : Int) (hv : 0 ≤ v) : ∀ (m k i : Nat) (x : List Int), i + m = x.length → x.length ≤ 1000 → m + 1100 ≤ k → val x = v →
    (∀ j, j < i → 0 ≤ x.getD j 0 ∧ x.getD j 0 ≤ 9999) → (∀ j, i < j → -9999 ≤ x.getD j 0 ∧ x.getD j 0 ≤ 9999) → (-10000 ≤ x.getD i 0 ∧ x.getD i 0 ≤ 9999) →
    impl_limbs_sub.l1 k x (x.length : Int) (i : Int) = some (rep v) := by
  intro m
  induction m with
  | zero =>
    intro k i x hi hl hk hx h1 h2 h3
    obtain ⟨k, rfl⟩ : ∃ j, k = j + 1 := ⟨k - 1, by omega⟩
    have hd : Dig x := dig_of_getD fun j hj => h1 j (by omega)
    rw [impl_limbs_sub.l1, if_neg (by omega), iTrim_ge x (by omega) k (by omega), trimL_rep hd, hx]
    rfl
  | succ m ih =>
    intro k i x hi hl hk hx h1 h2 h3
    obtain ⟨k, rfl⟩ : ∃ j, k = j + 1 := ⟨k - 1, by omega⟩
    have hlt : i < x.length := by omega
    have hdt : Dig (x.take i) := dig_of_getD fun j hj => by
      rw [List.length_take] at hj
      rw [getD_take x (by omega)]; exact h1 j (by omega)
    rw [impl_limbs_sub.l1, if_pos (by omega), if_pos (by omega), if_pos (by omega)]
    simp only [rdN]
    rw [Int.toNat_natCast, w64 (x := (i : Int) + 1) (by omega) (by omega)]
    by_cases hneg : x.getD i 0 < 0
    · have hlt1 : i + 1 < x.length := by
        apply Nat.lt_of_not_le
        intro hc
        have es := val_split x (n := i) (by omega)
        rw [val_drop x i, List.drop_eq_nil_of_le (show x.length ≤ i + 1 by omega), val_nil] at es
        have hlt2 := val_lt hdt
        rw [List.length_take, Nat.min_eq_left (by omega)] at hlt2
        have hp := pw_pos i
        have : pw i * (x.getD i 0 + 10000 * 0) ≤ pw i * (-1) := Int.mul_le_mul_of_nonneg_left (by omega) (by omega)
        omega
      have n1 := h2 (i + 1) (by omega)
      rw [if_pos hneg]
      simp only [Option.bind_some]
      rw [if_pos (by omega), if_pos (by omega), rdn, show ((i : Int) + 1).toNat = i + 1 from by omega, w64 (x := x.getD i 0 + 10000) (by omega) (by omega), getD_set_ne _ hlt (by omega), w64 (by omega) (by omega), show ((i : Int) + 1) = ((i + 1 : Nat) : Int) from by omega]
      have hlen : ((x.set i (x.getD i 0 + 10000)).set (i + 1) (x.getD (i + 1) 0 - 1)).length = x.length := by simp
      have e := ih k (i + 1) ((x.set i (x.getD i 0 + 10000)).set (i + 1) (x.getD (i + 1) 0 - 1)) (by rw [hlen]; omega) (by rw [hlen]; omega) (by omega) ?_ ?_ ?_ ?_
      · rw [hlen] at e; exact e
      · rw [val_set _ _ _ (by rw [List.length_set]; omega), val_set _ _ _ hlt, getD_set_ne _ hlt (by omega), pw_succ, hx]
        grind
      · intro j hj
        rw [getD_set_ne _ (by rw [List.length_set]; omega) (by omega)]
        by_cases hji : j = i
        · rw [hji, getD_set_eq _ hlt]; omega
        · rw [getD_set_ne _ hlt hji]; exact h1 j (by omega)
      · intro j hj
        rw [getD_set_ne _ (by rw [List.length_set]; omega) (by omega), getD_set_ne _ hlt (by omega)]; exact h2 j (by omega)
      · rw [getD_set_eq _ (by rw [List.length_set]; omega)]; omega
    · rw [if_neg hneg, show ((i : Int) + 1) = ((i + 1 : Nat) : Int) from by omega]
      exact ih k (i + 1) x (by omega) hl (by omega) hx (fun j hj => by
        by_cases hji : j = i
        · rw [hji]; omega
        · exact h1 j (by omega)) (fun j hj => h2 j (by omega)) (by have := h2 (i + 1) (by omega); omega)
theorem iSub_l0 {b : List Int} (hb : Dig b) : ∀ (m k i : Nat) (x : List Int), i + m = b.length → b.length ≤ x.length → x.length ≤ 1000 → m + 2200 ≤ k → 0 ≤ val x - pw i * val (b.drop i) →
    (∀ j, j < i → -9999 ≤ x.getD j 0 ∧ x.getD j 0 ≤ 9999) → (∀ j, i ≤ j → 0 ≤ x.getD j 0 ∧ x.getD j 0 ≤ 9999) →
    impl_limbs_sub.l0 k x b (b.length : Int) (i : Int) = some (rep (val x - pw i * val (b.drop i))) := by
  intro m
  induction m with
  | zero =>
    intro k i x hi hx hl hk hv h1 h2
    obtain ⟨k, rfl⟩ : ∃ j, k = j + 1 := ⟨k - 1, by omega⟩
    rw [List.drop_eq_nil_of_le (by omega), val_nil, Int.mul_zero, Int.sub_zero] at hv
    rw [impl_limbs_sub.l0, if_neg (by omega), List.drop_eq_nil_of_le (by omega), val_nil, Int.mul_zero, Int.sub_zero]
    have hall : ∀ j, -9999 ≤ x.getD j 0 ∧ x.getD j 0 ≤ 9999 := fun j => by
      by_cases hj : j < i
      · exact h1 j hj
      · have := h2 j (by omega); omega
    exact iSub_l1 (val x) hv x.length k 0 x (by omega) hl (by omega) rfl (fun j hj => by omega) (fun j _ => hall j) (by have := hall 0; omega)
  | succ m ih =>
    intro k i x hi hx hl hk hv h1 h2
    obtain ⟨k, rfl⟩ : ∃ j, k = j + 1 := ⟨k - 1, by omega⟩
    have hlt : i < b.length := by omega
    have hltx : i < x.length := by omega
    have b1 := hb.getD i
    have b2 := h2 i (by omega)
    rw [impl_limbs_sub.l0, if_pos (by omega), if_pos (by omega), if_pos (by omega), if_pos (by omega), w64 (x := (i : Int) + 1) (by omega) (by omega)]
    simp only [rdn]
    rw [Int.toNat_natCast, w64 (by omega) (by omega), show ((i : Int) + 1) = ((i + 1 : Nat) : Int) from by omega]
    have hval : val (x.set i (x.getD i 0 - b.getD i 0)) - pw (i + 1) * val (b.drop (i + 1)) = val x - pw i * val (b.drop i) := by
      rw [val_set _ _ _ hltx, val_drop b i, pw_succ]
      grind
    have e := ih k (i + 1) (x.set i (x.getD i 0 - b.getD i 0)) (by omega) (by simp; omega) (by simp; omega) (by omega) (by rw [hval]; exact hv) ?_ ?_
    · rw [e, hval]
    · intro j hj
      by_cases hji : j = i
      · rw [hji, getD_set_eq _ hltx]; omega
      · rw [getD_set_ne _ hltx hji]; exact h1 j (by omega)
    · intro j hj
      rw [getD_set_ne _ hltx (by omega)]; exact h2 j (by omega)
theorem len_le_of_val {a b : List Int} (ha : Dig a) (hb : Dig b) (zb : Nz b) (h : val b ≤ val a) : b.length ≤ a.length := by
  apply Nat.le_of_not_lt
  intro hc
  have := val_lt_of_len ha hb zb hc
  omega
theorem iSub_ge {a b : List Int} (ha : Dig a) (hb : Dig b) (zb : Nz b) (la : a.length ≤ 1000) (h : val b ≤ val a) (k : Nat) (hk : 4000 ≤ k) : impl_limbs_sub.f k a b = some (rep (val a - val b)) := by
  unfold impl_limbs_sub.f clone100.f
  have hlen := len_le_of_val ha hb zb h
  rw [if_pos (by omega)]
  simp only [Option.bind_some]
  have e := iSub_l0 hb b.length k 0 a (by omega) hlen la (by omega) (by rw [List.drop_zero, pw_zero]; omega) (fun j hj => by omega) (fun j _ => ha.getD j)
  rw [List.drop_zero, pw_zero, Int.one_mul] at e
  exact e
theorem sSub_step {a b : List Int} (ha : Dig a) (hb : Dig b) (hab : b.length ≤ a.length) (la : a.length ≤ 1000) (v : Int) (hv : 0 ≤ v) : ∀ (m k : Nat) (acc : List Int) (c : Int), Dig acc → acc.length + m = a.length → 0 ≤ c → c ≤ 1 → m + 1100 ≤ k →
    val acc + pw acc.length * (val (a.drop acc.length) - val (b.drop acc.length) - c) = v →
    spec_l1SubAbs.l0 k a b acc c (acc.length : Int) = some (rep v) := by
  intro m
  induction m with
  | zero =>
    intro k acc c hd hm h0 h1 hk he
    obtain ⟨k, rfl⟩ : ∃ j, k = j + 1 := ⟨k - 1, by omega⟩
    rw [List.drop_eq_nil_of_le (by omega), List.drop_eq_nil_of_le (by omega), val_nil] at he
    have hc : c = 0 := by
      have := val_lt hd
      have hc2 : c = 0 ∨ c = 1 := by omega
      rcases hc2 with h | h
      · exact h
      · subst h; omega
    subst hc
    rw [spec_l1SubAbs.l0, if_neg (by omega), sTrim_ge acc (by omega) k (by omega), trimL_rep hd, ← he]
    simp
  | succ m ih =>
    intro k acc c hd hm h0 h1 hk he
    obtain ⟨k, rfl⟩ : ∃ j, k = j + 1 := ⟨k - 1, by omega⟩
    have b1 := ha.getD acc.length
    have b2 := hb.getD acc.length
    rw [val_drop a acc.length, val_drop b acc.length] at he
    rw [spec_l1SubAbs.l0, if_pos (by omega), if_pos (by omega), limb_ge]
    simp only [Option.bind_some, rdN]
    rw [w64 (x := a.getD acc.length 0 - b.getD acc.length 0) (by omega) (by omega), w64 (x := a.getD acc.length 0 - b.getD acc.length 0 - c) (by omega) (by omega), w64 (x := (acc.length : Int) + 1) (by omega) (by omega)]
    by_cases hn : a.getD acc.length 0 - b.getD acc.length 0 - c < 0
    · rw [if_pos hn, if_pos (by omega), w64 (by omega) (by omega)]
      have e := ih k (acc ++ [a.getD acc.length 0 - b.getD acc.length 0 - c + 10000]) 1 (dig_push hd (by omega) (by omega)) (by simp; omega) (by omega) (by omega) (by omega)
        (by rw [val_push, List.length_append, List.length_cons, List.length_nil, Nat.zero_add, pw_succ, ← he]; grind)
      rw [List.length_append, List.length_cons, List.length_nil, Nat.zero_add] at e
      rw [show ((acc.length : Int) + 1) = ((acc.length + 1 : Nat) : Int) from by omega]
      exact e
    · rw [if_neg hn, if_pos (by omega)]
      have e := ih k (acc ++ [a.getD acc.length 0 - b.getD acc.length 0 - c]) 0 (dig_push hd (by omega) (by omega)) (by simp; omega) (by omega) (by omega) (by omega)
        (by rw [val_push, List.length_append, List.length_cons, List.length_nil, Nat.zero_add, pw_succ, ← he]; grind)
      rw [List.length_append, List.length_cons, List.length_nil, Nat.zero_add] at e
      rw [show ((acc.length : Int) + 1) = ((acc.length + 1 : Nat) : Int) from by omega]
      exact e
theorem sSub_ge {a b : List Int} (ha : Dig a) (hb : Dig b) (zb : Nz b) (la : a.length ≤ 1000) (h : val b ≤ val a) (k : Nat) (hk : 4000 ≤ k) : spec_l1SubAbs.f k a b = some (rep (val a - val b)) := by
  have hlen := len_le_of_val ha hb zb h
  exact sSub_step ha hb hlen la (val a - val b) (by omega) a.length k [] 0 Dig.nil (by simp) (by omega) (by omega) (by omega) (by rw [List.length_nil, List.drop_zero, List.drop_zero, pw_zero, val_nil]; omega)
end Go.Proofs.Ytdemeoncjcbojaa.Val
end
section
namespace Go.Proofs.Ytdemeoncjcbojaa.Val
open Go.RowKit Go.Proofs.Ytdemeoncjcbojaa.Pr Go.Proofs.Ytdemeoncjcbojaa.Ext Go.Proofs.Ytdemeoncjcbojaa.Jt Go.Proofs.YtdemeoncjcbojaaW.PrintWords Go.Proofs.YtdemeoncjcbojaaW.PrintLast Go.Proofs.YtdemeoncjcbojaaW.PrintMore
set_option linter.unusedVariables false
set_option linter.unusedSimpArgs false
def sv (q : Bool) (v : Int) : Int := if q = true then -v else v
theorem sv_rep {q : Bool} {v : Int} (h : 0 ≤ v) : bigv q (rep v) = sv q v := by unfold bigv sv; rw [rep_val h]
theorem bigv_sv (q : Bool) (l : List Int) : bigv q l = sv q (val l) := rfl
theorem sv_not (q : Bool) (v : Int) : sv (!q) v = -sv q v := by cases q <;> simp [sv]
theorem rep_len_le {v : Int} (h0 : 0 ≤ v) {n : Nat} (h : v < pw n) : (rep v).length ≤ n := (rep_len h0 n).2 h
theorem sgn_ge (x : Int) : sgn x ≥ 0 ↔ 0 ≤ x := by unfold sgn; split <;> (try split) <;> omega
theorem two_pw {n : Nat} {x y : Int} (hx : x < pw n) (hy : y < pw n) : x + y < pw (n + 1) := by rw [pw_succ]; have := pw_pos n; omega
theorem signed_add_ge {s s' : Bool} {a b : List Int} (ha : Dig a) (hb : Dig b) (za : Nz a) (zb : Nz b) (la : a.length ≤ 100) (lb : b.length ≤ 100) :
    ∃ q v, (∀ k, 5000 ≤ k → impl_signed_add.f k s a s' b = some (q, rep v)) ∧ 0 ≤ v ∧ (rep v).length ≤ 101 ∧ sv q v = bigv s a + bigv s' b := by
  have na := val_nonneg ha
  have nb := val_nonneg hb
  have ha2 := Int.lt_of_lt_of_le (val_lt ha) (pw_mono la)
  have hb2 := Int.lt_of_lt_of_le (val_lt hb) (pw_mono lb)
  have h2 : val a + val b < pw 101 := two_pw ha2 hb2
  rw [bigv_sv, bigv_sv]
  by_cases hs : s = s'
  · subst hs
    refine ⟨s, val a + val b, fun k hk => ?_, by omega, rep_len_le (by omega) h2, by cases s <;> simp [sv] <;> omega⟩
    unfold impl_signed_add.f
    rw [if_pos (by simp), iAdd_ge ha hb (by omega) (by omega) k (by omega)]; rfl
  · have hs' : (s == s') = false := by simp [hs]
    by_cases hc : val b ≤ val a
    · refine ⟨s, val a - val b, fun k hk => ?_, by omega, rep_len_le (by omega) (by omega), by cases s <;> cases s' <;> simp_all [sv] <;> omega⟩
      unfold impl_signed_add.f
      rw [if_neg (by rw [hs']; decide), iCmp_ge ha hb za zb (by omega) (by omega) k (by omega)]
      simp only [Option.bind_some]
      rw [if_pos ((sgn_ge _).2 (by omega)), iSub_ge ha hb zb (by omega) hc k (by omega)]; rfl
    · refine ⟨s', val b - val a, fun k hk => ?_, by omega, rep_len_le (by omega) (by omega), by cases s <;> cases s' <;> simp_all [sv] <;> omega⟩
      unfold impl_signed_add.f
      rw [if_neg (by rw [hs']; decide), iCmp_ge ha hb za zb (by omega) (by omega) k (by omega)]
      simp only [Option.bind_some]
      rw [if_neg (fun h => by have := (sgn_ge _).1 h; omega), iSub_ge hb ha za (by omega) (by omega) k (by omega)]; rfl
abbrev No : Bool × List Int × Bool := (false, [], false)
def addR (n : Bool) (l : List Int) (n' : Bool) (l' : List Int) : Bool × List Int × Bool := if okB n l = true ∧ okB n' l' = true then bigR (bigv n l + bigv n' l') else No
def cmpR (n : Bool) (l : List Int) (n' : Bool) (l' : List Int) : Int := if okB n l = true ∧ okB n' l' = true then sgn (bigv n l - bigv n' l') else 2
theorem bigs_f (n : Bool) (l : List Int) (n' : Bool) (l' : List Int) : impl_bigs.f n l n' l' = some (okB n l && okB n' l') := by
  unfold impl_bigs.f
  rw [bigOk_f, bigOk_f]
  simp only [Option.bind_some]
  cases okB n l <;> simp
theorem iBigAdd_ge (n : Bool) (l : List Int) (n' : Bool) (l' : List Int) (k : Nat) (hk : 6000 ≤ k) : impl_BigAdd.f k n l n' l' = some (addR n l n' l') := by
  unfold impl_BigAdd.f addR
  rw [bigs_f]
  simp only [Option.bind_some]
  by_cases h : okB n l = true ∧ okB n' l' = true
  · rw [if_pos h, if_pos (by rw [h.1, h.2]; rfl)]
    obtain ⟨l1, d1, z1, _⟩ := (okB_iff n l).1 h.1
    obtain ⟨l2, d2, z2, _⟩ := (okB_iff n' l').1 h.2
    obtain ⟨q, v, hq, hv, hl, he⟩ := signed_add_ge (s := n) (s' := n') d1 d2 z1 z2 (by omega) (by omega)
    simp only [impl_Big_signed.f, Option.bind_some]
    rw [hq k (by omega)]
    simp only [Option.bind_some]
    rw [big_ge (rep_dig v) (by omega) q k (by omega), sv_rep hv, he]
    rfl
  · rw [if_neg h, if_neg (by simpa using h)]
theorem sgn_sv {q : Bool} {v : Int} (h : 0 ≤ v) : (if ((rep v).length : Int) = 0 then (0 : Int) else if q = true then -1 else 1) = sgn (sv q v) := by
  have hz := rep_nil h
  by_cases h0 : v = 0
  · subst h0
    rw [rep_zero, if_pos (by rfl)]
    cases q <;> rfl
  · have hn : ¬ ((rep v).length : Int) = 0 := fun hc => h0 (hz.1 (List.length_eq_zero_iff.1 (by omega)))
    rw [if_neg hn]
    cases q
    · rw [if_neg (by decide)]
      unfold sv
      rw [if_neg (by decide), sgn_pos (by omega)]
    · rw [if_pos rfl]
      unfold sv
      rw [if_pos rfl, sgn_neg (by omega)]
theorem sign_f (q : Bool) (l : List Int) : impl_signed_sign.f q l = some (if (l.length : Int) = 0 then (0 : Int) else if q = true then -1 else 1) := by
  unfold impl_signed_sign.f
  (repeat' split) <;> rfl
theorem iBigCmp_ge (n : Bool) (l : List Int) (n' : Bool) (l' : List Int) (k : Nat) (hk : 6000 ≤ k) : impl_BigCmp.f k n l n' l' = some (cmpR n l n' l') := by
  unfold impl_BigCmp.f cmpR
  rw [bigs_f]
  simp only [Option.bind_some]
  by_cases h : okB n l = true ∧ okB n' l' = true
  · rw [if_pos h, if_pos (by rw [h.1, h.2]; rfl)]
    obtain ⟨l1, d1, z1, _⟩ := (okB_iff n l).1 h.1
    obtain ⟨l2, d2, z2, _⟩ := (okB_iff n' l').1 h.2
    obtain ⟨q, v, hq, hv, hl, he⟩ := signed_add_ge (s := n) (s' := !n') d1 d2 z1 z2 (by omega) (by omega)
    simp only [impl_Big_signed.f, impl_signed_minus.f, Option.bind_some]
    rw [hq k (by omega)]
    simp only [Option.bind_some, sign_f]
    rw [sgn_sv hv, he, bigv_sv (!n'), sv_not, ← bigv_sv, ← Int.sub_eq_add_neg]
  · rw [if_neg h, if_neg (by simpa using h)]
theorem jtInts_l0 {a b : List Int} (hl : a.length = b.length) (hL : a.length < 1000000) : ∀ (m k i : Nat), i + m = a.length → m + 1 ≤ k → laws_jtInts.l0 k a b (i : Int) = some (decide (a.drop i = b.drop i)) := by
  intro m
  induction m with
  | zero =>
    intro k i hi hk
    obtain ⟨k, rfl⟩ : ∃ j, k = j + 1 := ⟨k - 1, by omega⟩
    rw [laws_jtInts.l0, if_neg (by omega), List.drop_eq_nil_of_le (by omega), List.drop_eq_nil_of_le (by omega)]
    simp
  | succ m ih =>
    intro k i hi hk
    obtain ⟨k, rfl⟩ : ∃ j, k = j + 1 := ⟨k - 1, by omega⟩
    rw [laws_jtInts.l0, if_pos (by omega), if_pos (by omega), if_pos (by omega), rdN, rdN, drop_cons (l := a) (by omega), drop_cons (l := b) (by omega)]
    by_cases h : a.getD i 0 = b.getD i 0
    · rw [if_pos h, w64 (by omega) (by omega), show ((i : Int) + 1) = ((i + 1 : Nat) : Int) from by omega, ih k (i + 1) (by omega) (by omega), h]
      simp
    · rw [if_neg h]
      simp only [List.cons.injEq, h, false_and, decide_false]
theorem jtBig_ge (n : Bool) (l : List Int) (n' : Bool) (l' : List Int) (hl : l.length ≤ 1000) (k : Nat) (hk : 1010 ≤ k) : laws_jtBig.f k n l n' l' = some (decide (n = n' ∧ l = l')) := by
  unfold laws_jtBig.f laws_jtInts.f
  by_cases hn : n = n'
  · rw [if_pos (by simp [hn])]
    by_cases h : (l.length : Int) = (l'.length : Int)
    · have e := jtInts_l0 (a := l) (b := l') (by omega) (by omega) l.length k 0 (by omega) (by omega)
      rw [List.drop_zero, List.drop_zero] at e
      rw [if_pos h]
      simp only [hn, true_and]
      rw [show (0 : Int) = ((0 : Nat) : Int) from rfl, e]
      rfl
    · rw [if_neg h]
      have : l ≠ l' := fun hc => h (by rw [hc])
      simp [this]
  · rw [if_neg (by simp [hn])]
    simp [hn]
theorem jtZero_f (n : Bool) (l : List Int) : laws_jtZero.f n l = some (!n && decide (l = [])) := by
  unfold laws_jtZero.f
  cases n
  · rw [if_neg (by decide)]
    cases l with
    | nil => rfl
    | cons x xs =>
      simp
      omega
  · rw [if_pos rfl]; rfl
theorem okB_mk {x : Int} (h : -pw 16 < x ∧ x < pw 16) : okB (mkN x) (mkL x) = true := (okB_iff _ _).2 (mk_ok h.1 h.2)
end Go.Proofs.Ytdemeoncjcbojaa.Val
end
section
namespace Go.Proofs.Ytdemeoncjcbojaa.Val
open Go.RowKit Go.Proofs.Ytdemeoncjcbojaa.Pr Go.Proofs.Ytdemeoncjcbojaa.Ext Go.Proofs.Ytdemeoncjcbojaa.Jt Go.Proofs.YtdemeoncjcbojaaW.PrintWords Go.Proofs.YtdemeoncjcbojaaW.PrintLast Go.Proofs.YtdemeoncjcbojaaW.PrintMore
set_option linter.unusedVariables false
set_option linter.unusedSimpArgs false
theorem mul_bd {x y : Int} (hx : 0 ≤ x ∧ x ≤ 9999) (hy : 0 ≤ y ∧ y ≤ 9999) : 0 ≤ x * y ∧ x * y ≤ 99980001 := by
  constructor
  · exact Int.mul_nonneg hx.1 hy.1
  · have h1 : x * y ≤ 9999 * y := Int.mul_le_mul_of_nonneg_right hx.2 hy.1
    have h2 : 9999 * y ≤ 9999 * 9999 := Int.mul_le_mul_of_nonneg_left hy.2 (by omega)
    omega
theorem dig_set {l : List Int} (hd : Dig l) {i : Nat} {v : Int} (h0 : 0 ≤ v) (h1 : v ≤ 9999) : Dig (l.set i v) := by
  intro x hx
  rcases List.mem_or_eq_of_mem_set hx with h | h
  · exact hd x h
  · subst h; exact ⟨h0, h1⟩
theorem mul_cell {out : List Int} {p : Nat} {d e c R V : Int} (hp : p < out.length) (x : Int) (hx : x = out.getD p 0 + d * e + c) :
    val (out.set p (x % 10000)) + pw (p + 1) * (d * V + x / 10000) + R = val out + pw p * (d * (e + 10000 * V) + c) + R := by
  rw [val_set _ _ _ hp, pw_succ]
  have e1 : x = 10000 * (x / 10000) + x % 10000 := by omega
  generalize x / 10000 = q at e1 ⊢
  generalize x % 10000 = r at e1 ⊢
  generalize out.getD p 0 = o at *
  have e2 : r = o + d * e + c - 10000 * q := by omega
  subst e2
  grind
theorem iMul_l1 {a b : List Int} (hb : Dig b) (lb : b.length ≤ 50) {i : Nat} (hi : i < a.length) (la : a.length ≤ 50) {d : Int} (hd : 0 ≤ d ∧ d ≤ 9999) (K : Nat)
    (H : ∀ k out, K ≤ k → Dig out → out.length = a.length + b.length + 1 → (∀ q, i + 1 + b.length ≤ q → out.getD q 0 = 0) → impl_limbs_mul.l0 k b out a (a.length : Int) ((i + 1 : Nat) : Int) = some (rep (val out + pw (i + 1) * (val (a.drop (i + 1)) * val b)))) :
    ∀ (m k j : Nat) (out : List Int) (c : Int), j + m = b.length → K + m + 1 ≤ k → Dig out → out.length = a.length + b.length + 1 → 0 ≤ c → c ≤ 9999 → (∀ q, i + b.length ≤ q → out.getD q 0 = 0) →
      impl_limbs_mul.l1 k b out (i : Int) d c a (a.length : Int) (i : Int) b (b.length : Int) (j : Int) = some (rep (val out + pw (i + j) * (d * val (b.drop j) + c) + pw (i + 1) * (val (a.drop (i + 1)) * val b))) := by
  intro m
  induction m with
  | zero =>
    intro k j out c hj hk ho hL c0 c1 hz
    obtain ⟨k, rfl⟩ : ∃ q, k = q + 1 := ⟨k - 1, by omega⟩
    have hlt : i + b.length < out.length := by omega
    rw [impl_limbs_mul.l1, if_neg (by omega), w64 (x := (i : Int) + (b.length : Int)) (by omega) (by omega), if_pos (by omega), if_pos (by omega), rdn, show ((i : Int) + (b.length : Int)).toNat = i + b.length from by omega, hz _ (Nat.le_refl _),
      w64 (x := (0 : Int) + c) (by omega) (by omega), w64 (x := (i : Int) + 1) (by omega) (by omega), show ((i : Int) + 1) = ((i + 1 : Nat) : Int) from by omega]
    rw [H k _ (by omega) (dig_set ho (by omega) (by omega)) (by rw [List.length_set]; exact hL) (fun q hq => by rw [getD_set_ne _ hlt (by omega)]; exact hz q (by omega))]
    rw [val_set _ _ _ hlt, hz _ (Nat.le_refl _), List.drop_eq_nil_of_le (show b.length ≤ j by omega), val_nil, show i + j = i + b.length from by omega]
    congr 3
    grind
  | succ m ih =>
    intro k j out c hj hk ho hL c0 c1 hz
    obtain ⟨k, rfl⟩ : ∃ q, k = q + 1 := ⟨k - 1, by omega⟩
    have hlt : i + j < out.length := by omega
    have b1 := hb.getD j
    have b2 := ho.getD (i + j)
    have b3 := mul_bd hd b1
    rw [impl_limbs_mul.l1, if_pos (by omega), w64 (x := (i : Int) + (j : Int)) (by omega) (by omega), if_pos (by omega), if_pos (by omega), if_pos (by omega), if_pos (by omega)]
    simp only [rdn]
    rw [show ((i : Int) + (j : Int)).toNat = i + j from by omega, Int.toNat_natCast, w64 (x := d * b.getD j 0) (by omega) (by omega), w64 (x := out.getD (i + j) 0 + d * b.getD j 0) (by omega) (by omega), w64 (x := out.getD (i + j) 0 + d * b.getD j 0 + c) (by omega) (by omega),
      w64 (x := (j : Int) + 1) (by omega) (by omega), Int.tdiv_eq_ediv_of_nonneg (by omega), Int.tmod_eq_emod_of_nonneg (by omega)]
    rw [w64 (by omega) (by omega), show ((j : Int) + 1) = ((j + 1 : Nat) : Int) from by omega]
    rw [ih k (j + 1) _ _ (by omega) (by omega) (dig_set ho (by omega) (by omega)) (by rw [List.length_set]; exact hL) (by omega) (by omega) (fun q hq => by rw [getD_set_ne _ hlt (by omega)]; exact hz q hq)]
    rw [val_drop b j, show i + (j + 1) = i + j + 1 from by omega, mul_cell hlt _ rfl]
theorem iMul_l0 {a b : List Int} (ha : Dig a) (hb : Dig b) (la : a.length ≤ 50) (lb : b.length ≤ 50) : ∀ (m i : Nat), i + m = a.length → ∀ k out, 1200 + 60 * m ≤ k → Dig out → out.length = a.length + b.length + 1 → (∀ q, i + b.length ≤ q → out.getD q 0 = 0) →
    impl_limbs_mul.l0 k b out a (a.length : Int) (i : Int) = some (rep (val out + pw i * (val (a.drop i) * val b))) := by
  intro m
  induction m with
  | zero =>
    intro i hi k out hk ho hL hz
    obtain ⟨k, rfl⟩ : ∃ q, k = q + 1 := ⟨k - 1, by omega⟩
    rw [impl_limbs_mul.l0, if_neg (by omega), iTrim_ge out (by omega) k (by omega), trimL_rep ho, List.drop_eq_nil_of_le (by omega), val_nil]
    simp
  | succ m ih =>
    intro i hi k out hk ho hL hz
    obtain ⟨k, rfl⟩ : ∃ q, k = q + 1 := ⟨k - 1, by omega⟩
    have a1 := ha.getD i
    rw [impl_limbs_mul.l0, if_pos (by omega), if_pos (by omega), if_pos (by omega), rdn, Int.toNat_natCast]
    have e := iMul_l1 hb lb (i := i) (a := a) (by omega) la a1 (1200 + 60 * m) (fun k out hk h1 h2 h3 => ih (i + 1) (by omega) k out hk h1 h2 h3) b.length k 0 out 0 (by omega) (by omega) ho hL (by omega) (by omega) hz
    refine e.trans ?_
    rw [List.drop_zero, Nat.add_zero, val_drop a i, pw_succ]
    congr 2
    grind
theorem iMul_ge {a b : List Int} (ha : Dig a) (hb : Dig b) (la : a.length ≤ 50) (lb : b.length ≤ 50) (k : Nat) (hk : 5000 ≤ k) : impl_limbs_mul.f k a b = some (rep (val a * val b)) := by
  unfold impl_limbs_mul.f
  rw [w64 (x := (a.length : Int) + (b.length : Int)) (by omega) (by omega), w64 (by omega) (by omega), if_pos (by omega), if_pos (by omega), show ((a.length : Int) + (b.length : Int) + 1).toNat = a.length + b.length + 1 from by omega]
  have hz : ∀ q, (List.replicate (a.length + b.length + 1) (0 : Int)).getD q 0 = 0 := fun q => by
    rw [List.getD_eq_getElem?_getD, List.getElem?_replicate]; split <;> rfl
  have e := iMul_l0 ha hb la lb a.length 0 (by omega) k (List.replicate (a.length + b.length + 1) 0) (by omega) (dig_of_getD fun q _ => by rw [hz]; omega) (by simp) (fun q _ => hz q)
  rw [val_replicate, List.drop_zero, pw_zero] at e
  refine e.trans ?_
  congr 2
  omega
theorem sMul_l1 {a b : List Int} (ha : Dig a) (hb : Dig b) (lb : b.length ≤ 50) {i : Nat} (hi : i < a.length) (la : a.length ≤ 50) (K : Nat)
    (H : ∀ k out, K ≤ k → Dig out → out.length = a.length + b.length → (∀ q, i + 1 + b.length ≤ q → out.getD q 0 = 0) → spec_l1MulAbs.l0 k a b out ((i + 1 : Nat) : Int) = some (rep (val out + pw (i + 1) * (val (a.drop (i + 1)) * val b)))) :
    ∀ (m k j : Nat) (out : List Int) (c : Int), j + m = b.length → K + m + 3 ≤ k → Dig out → out.length = a.length + b.length → 0 ≤ c → c ≤ 9999 → (∀ q, i + b.length ≤ q → out.getD q 0 = 0) →
      spec_l1MulAbs.l1 k a b out (i : Int) c (j : Int) = some (rep (val out + pw (i + j) * (a.getD i 0 * val (b.drop j) + c) + pw (i + 1) * (val (a.drop (i + 1)) * val b))) := by
  intro m
  induction m with
  | zero =>
    intro k j out c hj hk ho hL c0 c1 hz
    obtain ⟨k, rfl⟩ : ∃ q, k = q + 2 := ⟨k - 2, by omega⟩
    have hlt : i + b.length < out.length := by omega
    have hjb : j = b.length := by omega
    subst hjb
    rw [spec_l1MulAbs.l1, if_neg (by omega)]
    by_cases hc : c > 0
    · rw [if_pos hc, w64 (x := (i : Int) + (b.length : Int)) (by omega) (by omega), if_pos (by omega), if_pos (by omega), if_pos (by omega), if_pos (by omega), limb_ge, Option.bind_some]
      have e1 : wrap64 (wrap64 (rd out ((i : Int) + (b.length : Int)) + wrap64 (rd a (i : Int) * b.getD b.length 0)) + c) = c := by
        rw [getD_ge (l := b) (Nat.le_refl _), Int.mul_zero, rdn, show ((i : Int) + (b.length : Int)).toNat = i + b.length from by omega, hz _ (Nat.le_refl _)]
        unfold wrap64; omega
      rw [e1, Int.tdiv_eq_ediv_of_nonneg (by omega), Int.tmod_eq_emod_of_nonneg (by omega), show c % 10000 = c from by omega, show c / 10000 = 0 from by omega, show wrap64 0 = 0 from by unfold wrap64; omega, w64 (x := (b.length : Int) + 1) (by omega) (by omega),
        show ((i : Int) + (b.length : Int)).toNat = i + b.length from by omega]
      rw [spec_l1MulAbs.l1, if_neg (by omega), if_neg (by omega), w64 (x := (i : Int) + 1) (by omega) (by omega), show ((i : Int) + 1) = ((i + 1 : Nat) : Int) from by omega]
      rw [H k _ (by omega) (dig_set ho (by omega) (by omega)) (by rw [List.length_set]; exact hL) (fun q hq => by rw [getD_set_ne _ hlt (by omega)]; exact hz q (by omega))]
      rw [val_set _ _ _ hlt, hz _ (Nat.le_refl _), List.drop_length, val_nil, Int.sub_zero, Int.mul_zero, Int.zero_add]
    · have hc0 : c = 0 := by omega
      subst hc0
      rw [if_neg hc, w64 (x := (i : Int) + 1) (by omega) (by omega), show ((i : Int) + 1) = ((i + 1 : Nat) : Int) from by omega]
      rw [H (k + 1) _ (by omega) ho hL (fun q hq => hz q (by omega)), List.drop_length, val_nil]
      simp
  | succ m ih =>
    intro k j out c hj hk ho hL c0 c1 hz
    obtain ⟨k, rfl⟩ : ∃ q, k = q + 1 := ⟨k - 1, by omega⟩
    have hlt : i + j < out.length := by omega
    have b1 := hb.getD j
    have b2 := ho.getD (i + j)
    have b3 := mul_bd (ha.getD i) b1
    rw [spec_l1MulAbs.l1, if_pos (by omega), w64 (x := (i : Int) + (j : Int)) (by omega) (by omega), if_pos (by omega), if_pos (by omega), if_pos (by omega), if_pos (by omega), limb_ge]
    simp only [Option.bind_some, rdn]
    rw [show ((i : Int) + (j : Int)).toNat = i + j from by omega, Int.toNat_natCast, w64 (x := a.getD i 0 * b.getD j 0) (by omega) (by omega), w64 (x := out.getD (i + j) 0 + a.getD i 0 * b.getD j 0) (by omega) (by omega), w64 (x := out.getD (i + j) 0 + a.getD i 0 * b.getD j 0 + c) (by omega) (by omega),
      w64 (x := (j : Int) + 1) (by omega) (by omega), Int.tdiv_eq_ediv_of_nonneg (by omega), Int.tmod_eq_emod_of_nonneg (by omega)]
    rw [w64 (by omega) (by omega), show ((j : Int) + 1) = ((j + 1 : Nat) : Int) from by omega]
    rw [ih k (j + 1) _ _ (by omega) (by omega) (dig_set ho (by omega) (by omega)) (by rw [List.length_set]; exact hL) (by omega) (by omega) (fun q hq => by rw [getD_set_ne _ hlt (by omega)]; exact hz q hq)]
    rw [val_drop b j, show i + (j + 1) = i + j + 1 from by omega, mul_cell hlt _ rfl]
theorem sMul_l0 {a b : List Int} (ha : Dig a) (hb : Dig b) (la : a.length ≤ 50) (lb : b.length ≤ 50) : ∀ (m i : Nat), i + m = a.length → ∀ k out, 1200 + 60 * m ≤ k → Dig out → out.length = a.length + b.length → (∀ q, i + b.length ≤ q → out.getD q 0 = 0) →
    spec_l1MulAbs.l0 k a b out (i : Int) = some (rep (val out + pw i * (val (a.drop i) * val b))) := by
  intro m
  induction m with
  | zero =>
    intro i hi k out hk ho hL hz
    obtain ⟨k, rfl⟩ : ∃ q, k = q + 1 := ⟨k - 1, by omega⟩
    rw [spec_l1MulAbs.l0, if_neg (by omega), sTrim_ge out (by omega) k (by omega), trimL_rep ho, List.drop_eq_nil_of_le (by omega), val_nil]
    simp
  | succ m ih =>
    intro i hi k out hk ho hL hz
    obtain ⟨k, rfl⟩ : ∃ q, k = q + 1 := ⟨k - 1, by omega⟩
    rw [spec_l1MulAbs.l0, if_pos (by omega)]
    have e := sMul_l1 ha hb lb (i := i) (by omega) la (1200 + 60 * m) (fun k out hk h1 h2 h3 => ih (i + 1) (by omega) k out hk h1 h2 h3) b.length k 0 out 0 (by omega) (by omega) ho hL (by omega) (by omega) hz
    refine e.trans ?_
    rw [List.drop_zero, Nat.add_zero, val_drop a i, pw_succ]
    congr 2
    grind
theorem sMul_ge {a b : List Int} (ha : Dig a) (hb : Dig b) (la : a.length ≤ 50) (lb : b.length ≤ 50) (k : Nat) (hk : 5000 ≤ k) : spec_l1MulAbs.f k a b = some (rep (val a * val b)) := by
  unfold spec_l1MulAbs.f
  rw [w64 (x := (a.length : Int) + (b.length : Int)) (by omega) (by omega), if_pos (by omega), if_pos (by omega), show ((a.length : Int) + (b.length : Int)).toNat = a.length + b.length from by omega]
  have hz : ∀ q, (List.replicate (a.length + b.length) (0 : Int)).getD q 0 = 0 := fun q => by
    rw [List.getD_eq_getElem?_getD, List.getElem?_replicate]; split <;> rfl
  have e := sMul_l0 ha hb la lb a.length 0 (by omega) k (List.replicate (a.length + b.length) 0) (by omega) (dig_of_getD fun q _ => by rw [hz]; omega) (by simp) (fun q _ => hz q)
  rw [val_replicate, List.drop_zero, pw_zero] at e
  refine e.trans ?_
  congr 2
  omega
def mulR (n : Bool) (l : List Int) (n' : Bool) (l' : List Int) : Bool × List Int × Bool := if okB n l = true ∧ okB n' l' = true then bigR (bigv n l * bigv n' l') else No
theorem sv_mul {q q' : Bool} {x y : Int} : sv (q != q') (x * y) = sv q x * sv q' y := by
  cases q <;> cases q' <;> simp [sv, Int.neg_mul, Int.mul_neg]
theorem mul_len {a b : List Int} (ha : Dig a) (hb : Dig b) (la : a.length ≤ 50) (lb : b.length ≤ 50) : 0 ≤ val a * val b ∧ (rep (val a * val b)).length ≤ 100 := by
  have na := val_nonneg ha
  have nb := val_nonneg hb
  have h0 := Int.mul_nonneg na nb
  refine ⟨h0, rep_len_le h0 ?_⟩
  have h1 := Int.lt_of_lt_of_le (val_lt ha) (pw_mono la)
  have h2 := Int.lt_of_lt_of_le (val_lt hb) (pw_mono lb)
  have p := pw_pos 50
  rw [show (100 : Nat) = 50 + 50 from rfl, pw_add]
  have h3 : val a * val b ≤ val a * pw 50 := Int.mul_le_mul_of_nonneg_left (by omega) na
  have h4 : val a * pw 50 < pw 50 * pw 50 := Int.mul_lt_mul_of_pos_right h1 (by omega)
  omega
theorem smul_ge {n n' : Bool} {a b : List Int} (ha : Dig a) (hb : Dig b) (la : a.length ≤ 50) (lb : b.length ≤ 50) (k : Nat) (hk : 5000 ≤ k) : impl_signed_mul.f k n a n' b = some (n != n', rep (val a * val b)) := by
  unfold impl_signed_mul.f
  rw [iMul_ge ha hb la lb k hk, Option.bind_some]
theorem bS {α β : Type} (a : α) (f : α → Option β) : (some a).bind f = f a := by have h := Option.bind_some a f; rw [h]
theorem bsg (n : Bool) (l : List Int) : impl_Big_signed.f n l = some (n, l) := by unfold impl_Big_signed.f; have h : (some (n, l)) = some (n, l) := rfl; rw [h]
theorem eta3 (x : Bool × List Int × Bool) : (some x).bind (fun bt => some (bt.1, bt.2.1, bt.2.2)) = some x := rfl
theorem iBigMul_ge (n : Bool) (l : List Int) (n' : Bool) (l' : List Int) (k : Nat) (hk : 6000 ≤ k) : impl_BigMul.f k n l n' l' = some (mulR n l n' l') := by
  unfold impl_BigMul.f mulR
  rw [bigs_f]
  simp only [bS]
  by_cases h : okB n l = true ∧ okB n' l' = true
  · rw [if_pos h, if_pos (by rw [h.1, h.2]; rfl)]
    obtain ⟨l1, d1, z1, _⟩ := (okB_iff n l).1 h.1
    obtain ⟨l2, d2, z2, _⟩ := (okB_iff n' l').1 h.2
    obtain ⟨h0, hl⟩ := mul_len d1 d2 (by omega) (by omega)
    simp only [bsg, bS]
    rw [smul_ge d1 d2 (by omega) (by omega) k (by omega)]
    simp only [bS]
    rw [big_ge (rep_dig _) (by omega) _ k (by omega), sv_rep h0, sv_mul, ← bigv_sv, ← bigv_sv]
    exact eta3 _
  · rw [if_neg h, if_neg (by simpa using h)]
theorem u64w {x : Int} (h0 : 0 ≤ x) (h1 : x ≤ 18446744073709551615) : IntKind.u64.wrap x = x := by
  have : IntKind.u64.wrap x = x % 18446744073709551616 := by simp [IntKind.wrap, IntKind.signed, IntKind.bits]
  rw [this]; omega
theorem limbsOf_l0 : ∀ (m k : Nat) (x : Int) (acc : List Int), 0 ≤ x → x ≤ 9223372036854775808 → x < pw m → acc.length + m ≤ 50 → m + 1 ≤ k → Dig acc → ∃ l, impl_limbsOf.l0 k x acc = some l ∧ Dig l ∧ val l = val acc + pw acc.length * x ∧ l.length ≤ 50 := by
  intro m
  induction m with
  | zero =>
    intro k x acc h0 h1 hx hl hk hd
    obtain ⟨k, rfl⟩ : ∃ j, k = j + 1 := ⟨k - 1, by omega⟩
    rw [pw_zero] at hx
    refine ⟨acc, by rw [impl_limbsOf.l0, if_neg (by omega)], hd, by rw [show x = 0 from by omega]; omega, by omega⟩
  | succ m ih =>
    intro k x acc h0 h1 hx hl hk hd
    obtain ⟨k, rfl⟩ : ∃ j, k = j + 1 := ⟨k - 1, by omega⟩
    rw [pw_succ] at hx
    by_cases hz : x > 0
    · obtain ⟨l, e, hd', hv, hl'⟩ := ih k (x / 10000) (acc ++ [x % 10000]) (by omega) (by omega) (by omega) (by simp; omega) (by omega) (dig_push hd (by omega) (by omega))
      refine ⟨l, ?_, hd', ?_, hl'⟩
      · rw [impl_limbsOf.l0, if_pos hz, if_pos (by omega), Int.tdiv_eq_ediv_of_nonneg h0, Int.tmod_eq_emod_of_nonneg h0, u64w (by omega) (by omega), w64 (by omega) (by omega)]
        exact e
      · rw [hv, val_push, List.length_append, List.length_cons, List.length_nil, Nat.zero_add, pw_succ]
        have e3 : x = 10000 * (x / 10000) + x % 10000 := by omega
        generalize x / 10000 = q at e3 ⊢
        generalize x % 10000 = r at e3 ⊢
        subst e3
        grind
    · refine ⟨acc, by rw [impl_limbsOf.l0, if_neg hz], hd, by rw [show x = 0 from by omega]; omega, by omega⟩
theorem pw5 : pw 5 = 100000000000000000000 := by decide
theorem limbsOf_ge {x : Int} (h0 : 0 ≤ x) (h1 : x ≤ 9223372036854775808) (k : Nat) (hk : 10 ≤ k) : ∃ l, impl_limbsOf.f k x = some l ∧ Dig l ∧ val l = x ∧ l.length ≤ 50 := by
  obtain ⟨l, e, hd, hv, hl⟩ := limbsOf_l0 5 k x [] h0 h1 (by rw [pw5]; omega) (by simp) (by omega) Dig.nil
  refine ⟨l, e, hd, ?_, hl⟩
  rw [hv, List.length_nil, pw_zero, val_nil]; omega
end Go.Proofs.Ytdemeoncjcbojaa.Val
end
section
namespace Go.Proofs.Ytdemeoncjcbojaa.Dv
open Go.RowKit Go.Proofs.Ytdemeoncjcbojaa.Jt Go.Proofs.Ytdemeoncjcbojaa.Val Go.Proofs.YtdemeoncjcbojaaW.PrintWords
set_option linter.unusedVariables false
def restV (l : List Int) (B : Int) (m : Nat) : Int := val (l.drop m) % B
def topV (l : List Int) (B : Int) (m : Nat) : Int := l.getD m 0 + 10000 * restV l B (m + 1)
def qd (l : List Int) (B : Int) (j : Nat) : Int := topV l B j / B
def outL (l : List Int) (B : Int) (m : Nat) : List Int := (List.range l.length).map fun j => if j < m then 0 else qd l B j
theorem outL_len (l : List Int) (B : Int) (m : Nat) : (outL l B m).length = l.length := by simp [outL]
theorem outL_get {l : List Int} {B : Int} {m j : Nat} (h : j < l.length) : (outL l B m).getD j 0 = if j < m then 0 else qd l B j := by
  unfold outL
  rw [List.getD_eq_getElem?_getD, List.getElem?_map, List.getElem?_range h]
  rfl
theorem ext_d {x y : List Int} (h : x.length = y.length) (hg : ∀ j, j < y.length → x.getD j 0 = y.getD j 0) : x = y := by
  apply List.ext_getElem h
  intro i h1 h2
  have := hg i h2
  rwa [getD_lt h1, getD_lt h2] at this
theorem outL_top (l : List Int) (B : Int) : outL l B l.length = List.replicate l.length 0 := by
  refine ext_d (by rw [outL_len, List.length_replicate]) (fun j hj => ?_)
  rw [List.length_replicate] at hj
  rw [outL_get hj, if_pos hj, getD_lt (by rw [List.length_replicate]; exact hj), List.getElem_replicate]
theorem outL_step {l : List Int} {B : Int} {m : Nat} (h : m < l.length) : (outL l B (m + 1)).set m (qd l B m) = outL l B m := by
  refine ext_d (by rw [List.length_set, outL_len, outL_len]) (fun j hj => ?_)
  rw [outL_len] at hj
  rw [getD_set _ m j _ (by rw [outL_len]; exact h), outL_get hj, outL_get hj]
  by_cases e : j = m
  · subst e
    rw [if_pos rfl, if_neg (Nat.lt_irrefl _)]
  · rw [if_neg e]
    by_cases h2 : j < m
    · rw [if_pos h2, if_pos (by omega)]
    · rw [if_neg h2, if_neg (by omega)]
section
variable {l : List Int} {B : Int} {m : Nat}
theorem rest_bd (hB : 0 < B) (m : Nat) : 0 ≤ restV l B m ∧ restV l B m < B := ⟨Int.emod_nonneg _ (by omega), Int.emod_lt_of_pos _ hB⟩
theorem top_bd (hd : Dig l) (hB : 0 < B) (m : Nat) : 0 ≤ topV l B m ∧ topV l B m < 10000 * B := by
  have h1 := rest_bd (l := l) hB (m + 1)
  have h2 := hd.getD m
  unfold topV
  omega
theorem top_val (m : Nat) (h : m < l.length) : val (l.drop m) = B * (10000 * (val (l.drop (m + 1)) / B)) + topV l B m := by
  have e1 := Int.mul_ediv_add_emod (val (l.drop (m + 1))) B
  have e2 : B * (10000 * (val (l.drop (m + 1)) / B)) = 10000 * (B * (val (l.drop (m + 1)) / B)) := by rw [← Int.mul_assoc, Int.mul_comm B 10000, Int.mul_assoc]
  rw [e2, drop_cons h]
  unfold topV restV
  show l.getD m 0 + 10000 * val (l.drop (m + 1)) = _
  omega
theorem top_mod (m : Nat) (h : m < l.length) : topV l B m % B = restV l B m := by
  unfold restV
  rw [top_val (B := B) m h, Int.mul_add_emod_self_left]
theorem top_div (hB : 0 < B) (m : Nat) (h : m < l.length) : val (l.drop m) / B = 10000 * (val (l.drop (m + 1)) / B) + qd l B m := by
  rw [top_val (B := B) m h, Int.mul_add_ediv_left _ _ (by omega)]
  rfl
theorem qd_bd (hd : Dig l) (hB : 0 < B) (m : Nat) : 0 ≤ qd l B m ∧ qd l B m ≤ 9999 := by
  obtain ⟨h0, h1⟩ := top_bd hd hB m
  refine ⟨Int.ediv_nonneg h0 (by omega), ?_⟩
  have : qd l B m < 10000 := Int.ediv_lt_of_lt_mul hB (by omega)
  omega
theorem outL_dig (hd : Dig l) (hB : 0 < B) (m : Nat) : Dig (outL l B m) := dig_of_getD fun i hi => by
  rw [outL_len] at hi
  rw [outL_get hi]
  split
  · omega
  · exact qd_bd hd hB i
theorem outL_val (hB : 0 < B) : ∀ (d m : Nat), m + d = l.length → val ((outL l B 0).drop m) = val (l.drop m) / B
  | 0, m, h => by
    rw [List.drop_eq_nil_of_le (by rw [outL_len]; omega), List.drop_eq_nil_of_le (by omega), val_nil, Int.zero_ediv]
  | d + 1, m, h => by
    rw [drop_cons (by rw [outL_len]; omega), top_div hB m (by omega), ← outL_val hB d (m + 1) (by omega), outL_get (by omega), if_neg (Nat.not_lt_zero _)]
    show qd l B m + 10000 * _ = _
    omega
theorem outL_all (hB : 0 < B) : val (outL l B 0) = val l / B := by
  have := outL_val (l := l) hB l.length 0 (by omega)
  rwa [List.drop_zero, List.drop_zero] at this
theorem rest_top : restV l B l.length = 0 := by
  unfold restV
  rw [List.drop_length, val_nil, Int.zero_emod]
theorem rest_all : restV l B 0 = val l % B := by unfold restV; rw [List.drop_zero]
end
def Srch (V B lo hi : Int) : Prop := 0 ≤ lo ∧ lo ≤ hi ∧ hi ≤ 9999 ∧ lo * B ≤ V ∧ V < (hi + 1) * B
theorem srch_start {V B : Int} (h0 : 0 ≤ V) (h1 : V < 10000 * B) : Srch V B 0 9999 := ⟨by omega, by omega, by omega, by omega, by omega⟩
theorem srch_end {V B lo hi : Int} (hB : 0 < B) (h : Srch V B lo hi) (hh : ¬ lo < hi) : lo = V / B ∧ V - B * lo = V % B ∧ lo * B ≤ V := by
  obtain ⟨a, b, c, d, e⟩ := h
  obtain rfl : lo = hi := by omega
  have e1 : lo = V / B := by
    refine Int.le_antisymm ((Int.le_ediv_iff_mul_le hB).2 d) ?_
    have : V / B < lo + 1 := Int.ediv_lt_of_lt_mul hB e
    omega
  have e2 := Int.mul_ediv_add_emod V B
  rw [← e1] at e2
  exact ⟨e1, by omega, d⟩
theorem srch_mid {V B lo hi : Int} (h : Srch V B lo hi) (hh : lo < hi) : lo < (lo + hi + 1) / 2 ∧ (lo + hi + 1) / 2 ≤ hi := by
  have := h.1
  omega
theorem srch_yes {V B lo hi m : Int} (h : Srch V B lo hi) (h1 : lo < m) (h2 : m ≤ hi) (hc : B * m - V ≤ 0) : Srch V B m hi := by
  obtain ⟨a, b, c, d, e⟩ := h
  exact ⟨by omega, h2, c, by rw [Int.mul_comm]; omega, e⟩
theorem srch_no {V B lo hi m : Int} (h : Srch V B lo hi) (h1 : lo < m) (h2 : m ≤ hi) (hc : ¬ (B * m - V ≤ 0)) : Srch V B lo (m - 1) := by
  obtain ⟨a, b, c, d, e⟩ := h
  exact ⟨a, by omega, by omega, d, by rw [show m - 1 + 1 = m by omega, Int.mul_comm]; omega⟩
end Go.Proofs.Ytdemeoncjcbojaa.Dv
end
section
namespace Go.Proofs.Ytdemeoncjcbojaa.Dw
open Go.RowKit Go.Shelf Go.Lib Go.Proofs.Ytdemeoncjcbojaa.Rng Go.Proofs.Ytdemeoncjcbojaa.Cv Go.Proofs.Ytdemeoncjcbojaa.Dv Go.Proofs.Ytdemeoncjcbojaa.Jt Go.Proofs.Ytdemeoncjcbojaa.Val Go.Proofs.Ytdemeoncjcbojaa.Pr Go.Proofs.Ytdemeoncjcbojaa.Ext Go.Proofs.YtdemeoncjcbojaaW.PrintWords Go.Proofs.YtdemeoncjcbojaaW.PrintLast Go.Proofs.YtdemeoncjcbojaaW.PrintMore
set_option linter.unusedVariables false
set_option linter.unusedSimpArgs false
def Rest (N0 : Nat) (W : World) (A : Option Addr) (c : Nat) (rv : List Int) : Prop :=
  rv.length ≤ c ∧ rv.length ≤ 9223372036854775807 ∧ (0 < rv.length → ∃ ad, A = some ad ∧ N0 ≤ ad.block ∧ ∀ j, j < rv.length → W.cell? (ad.add j) = some (.int .i64 (rv.getD j 0)))
theorem Rest.C {N0 : Nat} {W : World} {A : Option Addr} {c : Nat} {rv : List Int} (h : Rest N0 W A c rv) : Kd.C (Kd.int .i64) W A rv.length rv :=
  Kd.C_of_reads (enc := Value.int .i64) (d := (0 : Int)) ⟨rfl, h.2.1, fun hn => by
    obtain ⟨ad, e, _, hc⟩ := h.2.2 hn
    exact ⟨ad, e, hc⟩⟩
theorem cell_obj {W : World} {a : Addr} {v : Value} {o : Obj} (h : W.cell? a = some v) (ho : W.heap[a.block]? = some o) : o.isCells = true := by
  cases o <;> simp_all [World.cell?, Obj.isCells]
theorem Rest.of_V {N0 e b : Nat} {W : World} {ok : Nat → Prop} {A : Option Addr} {n c : Nat} {rv : List Int} (h : Kd.V (Kd.int .i64) e W b ok (.slice A n c) rv) (hok : ∀ k, ok k → N0 ≤ k) : Rest N0 W A c rv := by
  obtain ⟨hn, hl, hC⟩ := Kd.V_reads' h
  have hF := Kd.V_F h
  rw [hn] at hF
  refine ⟨hn ▸ hl, hC.2.1, fun hp => ?_⟩
  obtain ⟨ad, e, hc0⟩ := Kd.at_int hC 0 (by omega) (by omega)
  refine ⟨ad, e, ?_, fun j hj => ?_⟩
  · by_cases hk : ok ad.block
    · exact hok _ hk
    · exfalso
      have hC' := hF (W.putObj ad.block (.deferred none)) (fun k h1 h2 => World.putObj_heap_other (fun e => hk (e ▸ h1)))
      obtain ⟨ad', e', hc'⟩ := Kd.at_int hC' 0 (by omega) (by omega)
      rw [e] at e'
      cases e'
      have hlt := World.block_lt_of_cell? _ _ hc0
      rw [add_blk] at hlt
      have := cell_obj (o := .deferred none) hc' (by rw [add_blk]; exact World.putObj_heap_same hlt)
      cases this
  · obtain ⟨ad', e', hc⟩ := Kd.at_int hC (j : Int) (by omega) (by omega)
    rw [e] at e'
    cases e'
    rw [Int.toNat_natCast] at hc
    rw [hc]
    simp [rd]
theorem Rest.V {N0 n0 e b : Nat} {W : World} {A : Option Addr} {c : Nat} {rv : List Int} (h : Rest N0 W A c rv) (hn : n0 ≤ N0) : Kd.V (Kd.int .i64) e W b (fun k => n0 ≤ k) (.slice A rv.length c) rv :=
  Kd.V_mk h.1 (fun W' hW => Rest.C (N0 := N0) (c := c) ⟨h.1, h.2.1, fun hp => by
    obtain ⟨ad, e, hb, hc⟩ := h.2.2 hp
    refine ⟨ad, e, hb, fun j hj => ?_⟩
    have hlt := World.block_lt_of_cell? _ _ (hc j hj)
    rw [add_blk] at hlt
    rw [← hc j hj]
    exact World.cell?_of_block (by rw [add_blk]; exact hW _ (by omega) hlt)⟩)
theorem Rest.kept {N0 : Nat} {W W' : World} {S : Nat → Prop} {A : Option Addr} {c : Nat} {rv : List Int} (h : Rest N0 W A c rv) (hk : Kept W W' S) (hs : ∀ k, S k → k < N0) : Rest N0 W' A c rv :=
  ⟨h.1, h.2.1, fun hp => by
    obtain ⟨ad, e, hb, hc⟩ := h.2.2 hp
    refine ⟨ad, e, hb, fun j hj => Go.Proofs.YtdemeoncjcbojaaW.PrintWords.cell_kept (hc j hj) hk (fun hS => ?_)⟩
    rw [add_blk] at hS
    have := hs _ hS
    omega⟩
theorem Rest.grown {N0 : Nat} {W W' : World} {row : Option Nat} {A : Option Addr} {c : Nat} {rv : List Int} (h : Rest N0 W A c rv) (hg : W.grownBy W' row) (hr : ∀ r, row = some r → ∃ o : Obj, W.heap[r]? = some o ∧ o.isCells = false) : Rest N0 W' A c rv :=
  ⟨h.1, h.2.1, fun hp => by
    obtain ⟨ad, e, hb, hc⟩ := h.2.2 hp
    refine ⟨ad, e, hb, fun j hj => Go.Proofs.YtdemeoncjcbojaaW.PrintWords.cell_kept (S := fun k => row = some k) (hc j hj) ⟨hg.size, fun i hi hn => hg.block i hi (fun e => hn e.symm)⟩ (fun hS => ?_)⟩
    obtain ⟨o, ho, hcl⟩ := hr _ hS
    rw [cell_obj (hc j hj) ho] at hcl
    cases hcl⟩
structure Inv (w : World) (N0 gb go gr : Nat) (vb vo : Value) (O rv : List Int) (W : World) : Prop where
  below : Below w.heap.size w W
  big : N0 ≤ W.heap.size
  bb : W.heap[gb]? = some (.cells #[vb] 54 (0, 0))
  bo : W.heap[go]? = some (.cells #[vo] 54 (0, 0))
  ro : Kd.R (Kd.int .i64) 3 W w.heap.size (fun k => some k = vo.ownBlock) vo O
  br : ∃ A c, W.heap[gr]? = some (.cells #[.slice A rv.length c] 54 (0, 0)) ∧ Rest N0 W A c rv
theorem Inv.own {w W W' : World} {N0 gb go gr B : Nat} {vb vo : Value} {O rv : List Int} {row : Option Nat} (h : Inv w N0 gb go gr vb vo O rv W) (hB : w.heap.size ≤ B) (hg : W.grownBy W' row) (hr : ∀ r, row = some r → B ≤ r ∧ ∃ o : Obj, W.heap[r]? = some o ∧ o.isCells = false) : Inv w N0 gb go gr vb vo O rv W' := by
  have hr2 : ∀ r, row = some r → ∃ o : Obj, W.heap[r]? = some o ∧ o.isCells = false := fun r e => (hr r e).2
  obtain ⟨A, c, hb, hR⟩ := h.br
  refine ⟨h.below.grown hg h.below.size (fun k e => Nat.le_trans hB (hr k e).1), Nat.le_trans h.big hg.size, (grownBy_keeps_cells hg hr2 h.bb rfl).trans h.bb, (grownBy_keeps_cells hg hr2 h.bo rfl).trans h.bo, ?_, A, c, (grownBy_keeps_cells hg hr2 hb rfl).trans hb, hR.grown hg hr2⟩
  refine Kd.R_mono (Kd.R_move (Kd.R_bound h.ro) (fun k hk => ?_)) (fun k hk => hk.1)
  obtain ⟨_, _, _, q, _, cells, hc⟩ := hk
  exact grownBy_keeps_cells hg hr2 hc rfl
theorem Inv.step {w W W' : World} {N0 gb go gr : Nat} {vb vo : Value} {O rv : List Int} (h : Inv w N0 gb go gr vb vo O rv W) (hb : Below W.heap.size W W') : Inv w N0 gb go gr vb vo O rv W' := by
  obtain ⟨A, c, hbr, hR⟩ := h.br
  exact ⟨below_step h.below hb, Nat.le_trans h.big hb.size, blk_below h.bb hb, blk_below h.bo hb, Kd.R_below h.ro hb, A, c, blk_below hbr hb, hR.kept (Kept.of_below hb (fun _ => False)) (fun _ hk => hk.elim)⟩
theorem Inv.rest {w W : World} {N0 gb go gr : Nat} {vb vo : Value} {O rv rv' : List Int} (h : Inv w N0 gb go gr vb vo O rv W) (h1 : gb ≠ gr) (h2 : go ≠ gr) (h3 : w.heap.size ≤ gr) (h4 : ∀ k, some k = vo.ownBlock → k ≠ gr) (h5 : gr < N0) {A : Option Addr} {c : Nat} (hR : Rest N0 W A c rv') :
    Inv w N0 gb go gr vb vo O rv' (W.setCell ⟨gr, 0, none⟩ (.slice A rv'.length c)) := by
  obtain ⟨A', c', hbr, _⟩ := h.br
  exact ⟨below_set h.below h3, by simpa [World.setCell] using h.big, blk_far h.bb h1 _, blk_far h.bo h2 _, Kd.R_far (p := ⟨gr, 0, none⟩) h.ro (fun k hk => h4 k hk) _, A, c, blk_put hbr 0 _ rfl,
    hR.kept (Kept.setCell (Kept.refl W (fun k => k = gr)) (.inl rfl) _) (fun k hk => by rw [hk]; exact h5)⟩
theorem Inv.cell {w W : World} {N0 gb go gr g cap i n : Nat} {vb vo : Value} {O O' rv : List Int} {x' : Value} (h : Inv w N0 gb go gr vb vo O rv W) (hv : vo = .slice (some ⟨g, 0, none⟩) n cap) (hg : g < N0) (hg2 : w.heap.size ≤ g)
    (hro : Kd.R (Kd.int .i64) 3 (W.setCell ⟨g, i, none⟩ x') w.heap.size (fun k => some k = vo.ownBlock) vo O') : Inv w N0 gb go gr vb vo O' rv (W.setCell ⟨g, i, none⟩ x') := by
  have hgS : some g = vo.ownBlock := by rw [hv]; rfl
  obtain ⟨A, c, hbr, hR⟩ := h.br
  have ne : ∀ {k : Nat} {cs : Array Value}, W.heap[k]? = some (.cells cs 54 (0, 0)) → k ≠ g := fun hk e => Kd.R_ne h.ro hk (by decide) (by rw [e]; exact hgS)
  exact ⟨below_set h.below hg2, by simpa [World.setCell] using h.big, blk_far h.bb (ne h.bb) _, blk_far h.bo (ne h.bo) _, hro, A, c, blk_far hbr (ne hbr) _,
    hR.kept (Kept.setCell (Kept.refl W (fun k => k = g)) (.inl rfl) _) (fun k hk => by rw [hk]; exact hg)⟩
theorem trim_val {x v : Int} (hx : 0 ≤ x ∧ x ≤ 9999) (hv : 0 ≤ v) (hl : (rep v).length ≤ 900) : impl_limbs_trim.f 6000 ([x] ++ rep v) = some (rep (x + 10000 * v)) := by
  have hd : Dig ([x] ++ rep v) := Dig.cons hx.1 hx.2 (rep_dig v)
  rw [iTrim_ge _ (by simp; omega) 6000 (by simp; omega), trimL_rep hd]
  show some (rep (x + 10000 * val (rep v))) = _
  rw [rep_val hv]
theorem mul_val {b : List Int} (hd : Dig b) (hl : b.length ≤ 50) {m : Int} (h0 : 0 ≤ m) (h1 : m ≤ 9999) : ∃ lm, impl_limbsOf.f 6000 (IntKind.u64.wrap m) = some lm ∧ impl_limbs_mul.f 6000 b lm = some (rep (val b * m)) := by
  obtain ⟨lm, h2, h3, h4, h5⟩ := limbsOf_ge (x := m) h0 (by omega) 6000 (by omega)
  refine ⟨lm, ?_, ?_⟩
  · rw [u64w h0 (by omega)]; exact h2
  · rw [iMul_ge hd h3 hl h5 6000 (by omega), h4]
theorem cmp_val {x y : Int} (hx : 0 ≤ x) (hy : 0 ≤ y) (lx : (rep x).length ≤ 1000) (ly : (rep y).length ≤ 1000) : impl_limbs_cmp.f 6000 (rep x) (rep y) = some (sgn (x - y)) := by
  rw [iCmp_ge (rep_dig _) (rep_dig _) (rep_nz _) (rep_nz _) lx ly 6000 (by omega), rep_val hx, rep_val hy]
theorem sub_val {x y : Int} (hx : 0 ≤ x) (hy : 0 ≤ y) (lx : (rep x).length ≤ 1000) (h : y ≤ x) : impl_limbs_sub.f 6000 (rep x) (rep y) = some (rep (x - y)) := by
  rw [iSub_ge (rep_dig _) (rep_dig _) (rep_nz _) lx (by rw [rep_val hx, rep_val hy]; exact h) 6000 (by omega), rep_val hx, rep_val hy]
theorem sgn_le (x : Int) : sgn x ≤ 0 ↔ x ≤ 0 := by unfold sgn; split <;> (try split) <;> omega
theorem len_of {b : List Int} (hd : Dig b) (hl : b.length ≤ 40) {x : Int} (h0 : 0 ≤ x) (h1 : x < 10000 * val b) : (rep x).length ≤ 41 := by
  refine rep_len_le h0 ?_
  have h2 := val_lt hd
  have h3 := pw_mono hl
  rw [pw_succ]
  omega
def stp (B : Int) (s : List Int × Int) (x : Nat × Int) : List Int × Int := (s.1.set x.1 ((x.2 + 10000 * s.2) / B), (x.2 + 10000 * s.2) % B)
def runL (n : Nat) (B : Int) (pre : List (Nat × Int)) : List Int × Int := pre.foldl (stp B) (List.replicate n 0, 0)
theorem runL_snoc (n : Nat) (B : Int) (pre : List (Nat × Int)) (x : Nat × Int) : runL n B (pre ++ [x]) = stp B (runL n B pre) x := by simp [runL]
theorem foldl_len (B : Int) : ∀ (pre : List (Nat × Int)) (s : List Int × Int), (pre.foldl (stp B) s).1.length = s.1.length
  | [], _ => rfl
  | x :: r, s => by rw [List.foldl_cons, foldl_len B r]; simp [stp]
theorem runL_len (n : Nat) (B : Int) (pre : List (Nat × Int)) : (runL n B pre).1.length = n := by
  unfold runL
  rw [foldl_len, List.length_replicate]
theorem foldl_bd {B : Int} (hB : 0 < B) : ∀ (pre : List (Nat × Int)) (s : List Int × Int), 0 ≤ s.2 → s.2 < B → 0 ≤ (pre.foldl (stp B) s).2 ∧ (pre.foldl (stp B) s).2 < B
  | [], _, h0, h1 => ⟨h0, h1⟩
  | x :: r, s, h0, h1 => by
    rw [List.foldl_cons]
    exact foldl_bd hB r _ (Int.emod_nonneg _ (by omega)) (Int.emod_lt_of_pos _ hB)
theorem runL_bd {B : Int} (hB : 0 < B) (n : Nat) (pre : List (Nat × Int)) : 0 ≤ (runL n B pre).2 ∧ (runL n B pre).2 < B := foldl_bd hB pre _ (Int.le_refl _) hB
theorem runL_down (l : List Int) (B : Int) : ∀ k, k ≤ l.length → runL l.length B (down l l.length k) = (outL l B (l.length - k), restV l B (l.length - k))
  | 0, _ => by
    rw [Nat.sub_zero, outL_top, rest_top]
    rfl
  | k + 1, h => by
    have ih := runL_down l B k (by omega)
    have e1 := down_step l (len := l.length) (m := l.length - (k + 1)) (by omega)
    rw [show l.length - (l.length - (k + 1)) = k + 1 by omega, show l.length - (l.length - (k + 1) + 1) = k by omega] at e1
    rw [e1, runL_snoc, ih]
    have e2 : l[l.length - (k + 1)]?.getD 0 = l.getD (l.length - (k + 1)) 0 := (List.getD_eq_getElem?_getD ..).symm
    have e3 : l.length - k = l.length - (k + 1) + 1 := by omega
    unfold stp
    simp only
    rw [e2, e3]
    have e4 : l.getD (l.length - (k + 1)) 0 + 10000 * restV l B (l.length - (k + 1) + 1) = topV l B (l.length - (k + 1)) := rfl
    rw [e4, top_mod _ (by omega)]
    have e5 := outL_step (l := l) (B := B) (m := l.length - (k + 1)) (by omega)
    unfold qd at e5
    rw [e5]
theorem runL_all {l : List Int} {B : Int} (hB : 0 < B) (hd : Dig l) : Dig (runL l.length B (down l l.length l.length)).1 ∧ val (runL l.length B (down l l.length l.length)).1 = val l / B ∧ (runL l.length B (down l l.length l.length)).2 = val l % B := by
  rw [runL_down l B l.length (Nat.le_refl _), Nat.sub_self]
  exact ⟨outL_dig hd hB 0, outL_all hB, rest_all⟩
theorem dig_get {l : List Int} (hd : Dig l) (i : Nat) : 0 ≤ l[i]?.getD 0 ∧ l[i]?.getD 0 ≤ 9999 := by
  have := hd.getD i
  rwa [List.getD_eq_getElem?_getD] at this
theorem row_of {a : Option Addr} {l : List Int} {w w' : World} {S : Nat → Prop} (hS : ∀ x, x < w.heap.size → S x) (hr : Kd.C (Kd.int .i64) w a l.length l) (hb : Below w.heap.size w w') : RowIn S w' a l.length l := by
  cases hl : l with
  | nil => exact .inl rfl
  | cons x r =>
    right
    obtain ⟨ad, e, hc0⟩ := Kd.at_int hr 0 (by omega) (by rw [hl]; simp)
    have hlt := World.block_lt_of_cell? _ _ hc0
    rw [add_blk] at hlt
    rw [← hl]
    refine ⟨ad, e, hS _ hlt, fun j hj => ?_⟩
    obtain ⟨ad', e', hc⟩ := Kd.at_int hr (j : Int) (by omega) (by omega)
    rw [e] at e'; cases e'
    rw [hb.cell (by rw [add_blk]; exact hlt), ← Int.toNat_natCast j, hc]
    simp [rd, List.getD_eq_getElem?_getD]
end Go.Proofs.Ytdemeoncjcbojaa.Dw
end
section
namespace Go.Proofs.Ytdemeoncjcbojaa.Dw
open Go.RowKit Go.Shelf Go.Lib Go.Proofs.Ytdemeoncjcbojaa.Rng Go.Proofs.Ytdemeoncjcbojaa.Cv Go.Proofs.Ytdemeoncjcbojaa.Dv Go.Proofs.Ytdemeoncjcbojaa.Jt Go.Proofs.Ytdemeoncjcbojaa.Val Go.Proofs.Ytdemeoncjcbojaa.Pr Go.Proofs.Ytdemeoncjcbojaa.Ext Go.Proofs.YtdemeoncjcbojaaW.PrintWords Go.Proofs.YtdemeoncjcbojaaW.PrintLast Go.Proofs.YtdemeoncjcbojaaW.PrintMore
set_option linter.unusedVariables false
set_option linter.unusedSimpArgs false
attribute [local go_sem] Oper.semAt_some
def T10 : Bool × List (List Nat × List Nat) := (true, [([], []), ([], []), ([1], [1]), ([2], [2]), ([0, 3, 3], [0, 3]), ([], []), ([4, 5, 4], [4, 5]), ([6], [6])])
def B10 : List Nat := [0, 0, 2, 6, 15, 0, 63, 127]
theorem tab10 : rtab .any (opsOf Try.f78 10) = T10 := by kernel_rfl
theorem bits10 : waitsOk T10.2 B10 = true := by kernel_rfl
def T14 : Bool × List (List Nat × List Nat) := (true, [([], []), ([], []), ([], []), ([2], [2]), ([3], [3]), ([1, 4, 4], [1, 4]), ([0, 5, 5], [0, 5]), ([6, 6, 0, 1, 2, 3, 4, 5, 6], [6])])
def B14 : List Nat := [0, 0, 0, 4, 12, 30, 63, 127]
theorem tab14 : rtab .any (opsOf Try.f78 14) = T14 := by kernel_rfl
theorem bits14 : waitsOk T14.2 B14 = true := by kernel_rfl
def T15 : Bool × List (List Nat × List Nat) := (true, [([], []), ([0], [0]), ([], []), ([1, 1, 0, 1], [1]), ([2, 3, 0, 1, 2, 3], [2])])
def B15 : List Nat := [0, 1, 0, 3, 15]
theorem tab15 : rtab .any (opsOf Try.f78 15) = T15 := by kernel_rfl
theorem bits15 : waitsOk T15.2 B15 = true := by kernel_rfl
set_option maxRecDepth 100000 in
set_option maxHeartbeats 4000000 in
theorem div_in (A0 : Option Addr) (c0 : Nat) (l0 : List Int) (A1 : Option Addr) (c1 : Nat) (l1 : List Int) (hd0 : Dig l0) (hd1 : Dig l1) (hz1 : Nz l1) (hB : 0 < val l1) (n0 : l0.length ≤ 40) (n1 : l1.length ≤ 40) (w : World) (hr0 : Kd.C (Kd.int .i64) w A0 l0.length l0) (hc0 : l0.length ≤ c0) (hr1 : Kd.C (Kd.int .i64) w A1 l1.length l1) (hc1 : l1.length ≤ c1) :
    CallsIn Fence.wide 3 Try.prog 78 #[.slice A0 l0.length c0, .slice A1 l1.length c1] w fun e w' => ∃ v0_ v1_ : Value, e = .returned (.tuple #[v0_, v1_]) ∧ Kd.V (Kd.int .i64) 3 w' w.heap.size (fun k_ => (w.heap.size ≤ k_)) v0_ (rep (val l0 / val l1)) ∧ Kd.V (Kd.int .i64) 3 w' w.heap.size (fun k_ => (w.heap.size ≤ k_)) v1_ (rep (val l0 % val l1)) ∧ Below w.heap.size w w' := by
  refine callsIn_of_wp_marks Try.func78 rfl trivial ?_ rfl
  simp only [Try.ntmps78, List.size_toArray, List.length_cons, List.length_nil, Nat.reduceAdd, Nat.reduceSub, Array.replicate_succ, Array.replicate_zero, List.push_toArray, List.append_toArray, List.nil_append, List.cons_append]
  refine wpIn_wide.2 ?_
  have hmk : ((l0.length : Int)).toNat ≤ 35184372088832 := by omega
  have hnn : 0 ≤ (l0.length : Int) := by omega
  have hmkb : decide ((l0.length : Int).toNat ≤ 35184372088832) = true := decide_eq_true hmk
  have HB0 := Aside0.mk (Below.refl w.heap.size w)
  have HD := Aside0.mk (And.intro hd0 (And.intro hd1 (And.intro hz1 (And.intro hB (And.intro n0 n1)))))
  have HR0 := Aside0.mk hr0
  have HR1 := Aside0.mk hr1
  have HC := Aside0.mk (And.intro hc0 hc1)
  have HM := Aside0.mk (And.intro hmk hnn)
  clear hd0 hd1 hz1 hB n0 n1 hr0 hr1 hc0 hc1 hmk hnn hmkb
  go_wp2_with ((with_reducible refine gate_dst (N := 3) rfl ?_); refine Aside0.out ?_)
  refine ⟨?_⟩
  refine box_event ?hg (N := 3) ?hd (cs := #[.slice A1 l1.length c1]) (t := 54) ?hr ?_
  (case hd => rfl)
  (case hg => rfl)
  (case hr => first | (go_simp; done) | (go_simp; rfl))
  intro gb hgb w1 hbox1 hb1
  have HGB := Aside0.mk hgb
  clear hgb
  go_wp2_with ((with_reducible refine gate_dst (N := 15) rfl ?_); refine Aside0.out ?_)
  refine ⟨?_⟩
  refine Kd.R_make (Kd.int .i64) _ 3 rfl (N := 15) rfl 54 _ _ rfl (l0.length : Int) rfl rfl Try.underlying54 (.int .i64 0) 8 Ext.info3 rfl (by decide) (by omega) 0 (ok := fun _ => True) (okp := fun _ => True) rfl (fun _ hk => hk) trivial HM.out.2 (Nat.le_trans (Nat.mul_le_mul_right _ HM.out.1) (by omega)) (Below.refl _ _) (Nat.le_refl _) ?_
  intro vo w2 ho2 hb2 hg2 hn2
  have HO := Aside0.mk (Kd.R_tight rfl ho2)
  have HN := Aside0.mk hn2
  obtain ⟨Ao, co, eo⟩ := Kd.R_slice ho2
  rw [List.length_replicate, Int.toNat_natCast] at eo
  subst eo
  clear ho2 hn2 hg2
  go_wp2_with ((with_reducible refine gate_dst (N := 6) rfl ?_); refine Aside0.out ?_)
  refine ⟨?_⟩
  refine box_event ?hg (N := 6) ?hd (cs := #[.slice none 0 0]) (t := 54) ?hr ?_
  (case hd => rfl)
  (case hg => rfl)
  (case hr => first | (go_simp; done) | (go_simp; rfl))
  intro go hgo w3 hbox3 hb3
  have HGO := Aside0.mk hgo
  clear hgo
  have hco : w3.cell? ⟨go, 0, none⟩ = some (.slice none 0 0) := (blk_cell hbox3 0).trans rfl
  have hfo := blk_frozen hbox3 0
  go_wp2_with ((with_reducible refine gate_dst (N := 7) rfl ?_); refine Aside0.out ?_)
  refine ⟨?_⟩
  refine box_event ?hg (N := 7) ?hd (cs := #[.slice none 0 0]) (t := 54) ?hr ?_
  (case hd => rfl)
  (case hg => rfl)
  (case hr => first | (go_simp; done) | (go_simp; rfl))
  intro gr hgr w4 hbox4 hb4
  have HGR := Aside0.mk hgr
  clear hgr
  go_wp2_with ((with_reducible refine gate_dst (N := 17) rfl ?_); refine Aside0.out ?_)
  refine ⟨?_⟩
  refine goesL_ (some 17) rfl rfl Try.func96 (by kernel_rfl) rfl #[.slice A0 l0.length c0] rfl (by (try simp only [List.map_toArray, List.map_cons, List.map_nil]); first | done | rfl) ?_
  refine (callsIn_wide.1 (back_in Fence.wide 3 trivial rfl _ _ _ _)).mono ?_
  rintro e w5 ⟨rfl, rfl⟩
  refine ⟨_, rfl, ?_⟩
  go_wp2_with (fail)
  obtain ⟨vo, hvo⟩ : ∃ vo, vo = Value.slice Ao l0.length co := ⟨_, rfl⟩
  obtain ⟨W5, hW5⟩ : ∃ W5, w4.alloc (.cells #[.slice A0 l0.length c0] 54) = W5 := ⟨_, rfl⟩
  have s5 : W5.heap.size = w4.heap.size + 1 := by rw [← hW5, World.size_alloc]
  have egb := HGB.out
  have ego := HGO.out
  have egr := HGR.out
  have lb1 := blk_lt hbox1
  have lb3 := blk_lt hbox3
  have lb4 := blk_lt hbox4
  have ssc : (w3.setCell ⟨go, 0, none⟩ (Value.slice Ao l0.length co)).heap.size = w3.heap.size := by simp [World.setCell]
  rw [ssc] at egr
  have z1 := hb1.size
  have z2 := hb2.size
  have z3 := hb3.size
  have z4 := hb4.size
  rw [ssc] at z4
  have oge : ∀ k, some k = vo.ownBlock → w1.heap.size ≤ k ∧ k < w2.heap.size := fun k hk => by rw [hvo] at hk; exact ⟨Kd.R_base HO.out k hk.symm, Kd.R_lt HO.out k hk.symm⟩
  have hbb : W5.heap[gb]? = some (.cells #[.slice A1 l1.length c1] 54 (0, 0)) := by
    rw [← hW5]
    exact blk_alloc (blk_below (blk_far (blk_below (blk_below hbox1 hb2) hb3) (by show gb ≠ go; omega) _) hb4) _
  have hbo : W5.heap[go]? = some (.cells #[vo] 54 (0, 0)) := by
    rw [← hW5, hvo]
    exact blk_alloc (blk_below (blk_put (cs := #[.slice none 0 0]) hbox3 0 _ rfl) hb4) _
  have hbr : W5.heap[gr]? = some (.cells #[.slice none 0 0] 54 (0, 0)) := by
    rw [← hW5]
    exact blk_alloc hbox4 _
  have hro : Kd.R (Kd.int .i64) 3 W5 w.heap.size (fun k => some k = vo.ownBlock) vo (runL l0.length (val l1) []).1 := by
    rw [← hW5, hvo]
    refine Kd.R_lower (Kd.R_alloc (Kd.R_below (Kd.R_far (p := ⟨go, 0, none⟩) (Kd.R_below HO.out hb3) (fun k hk => ?_) _) hb4) _) z1
    have := oge k (by rw [hvo]; exact hk)
    show k ≠ go
    omega
  have hbe : Below w.heap.size w W5 := by
    rw [← hW5]
    exact below_alloc (below_step (below_set (below_step (below_step hb1 hb2) hb3) (by omega)) hb4) _
  have hI0 : Inv w W5.heap.size gb go gr (.slice A1 l1.length c1) vo (runL l0.length (val l1) []).1 (rep (runL l0.length (val l1) []).2) W5 :=
    ⟨hbe, Nat.le_refl _, hbb, hbo, hro, none, 0, by rw [show (rep (runL l0.length (val l1) []).2) = [] from rep_zero]; exact hbr, by rw [show (rep (runL l0.length (val l1) []).2) = [] from rep_zero]; simp [Rest]⟩
  have hbS : W5.heap[w4.heap.size]? = some (.cells #[.slice A0 l0.length c0] 54 (0, 0)) := by rw [← hW5]; exact blk_new _ _
  have hrow : RowIn (fun x => x < w.heap.size ∨ x = w4.heap.size) W5 A0 l0.length l0 := row_of (fun x hx => .inl hx) HR0.out hbe
  have n0' := HD.out.2.2.2.2.1
  have FX : Aside0 ((w.heap.size ≤ gb ∧ gb < go ∧ go < gr ∧ gr < w4.heap.size ∧ w4.heap.size < W5.heap.size) ∧ (∀ k, some k = vo.ownBlock → w.heap.size ≤ k ∧ k < go)) := ⟨⟨by omega, by omega, by omega, by omega, by omega⟩, fun k hk => by have := oge k hk; omega⟩
  have hn0 : w.heap.size ≤ w4.heap.size := by have := FX.out.1; omega
  rw [hW5]
  clear egb ego egr lb1 lb3 lb4 ssc z1 z2 z3 z4 oge hbb hbo hbr hro HGB HGO HGR hbox1 hbox3 hbox4 hb1 hb2 hb3 hb4 hco hfo HO HN HM HB0
  refine (wpIn_wide (n := 3)).1 ?_
  refine wpIn_rangeFunc_ownG rfl (by decide) (gf := 101) (lb := #[.pointer (some ⟨w4.heap.size, 0, none⟩)]) ?hg trivial (enters_of Try.func101 (by kernel_rfl) rfl)
    (back_stops Fence.wide 2 trivial rfl (by decide) w4.heap.size A0 l0.length c0 l0 (by omega) (fun x => x < w.heap.size ∨ x = w4.heap.size) (.inr rfl) W5 (fun x hx => by rw [s5]; omega) (blk_cell hbS 0) hrow) SameIn.trans (sameIn_b (fun x hx => by rw [s5]; omega)) (Below.refl _ _) (fun _ => rfl)
    (fun pre W => Inv w W5.heap.size gb go gr (.slice A1 l1.length c1) vo (runL l0.length (val l1) (pre.map Subtype.val)).1 (rep (runL l0.length (val l1) (pre.map Subtype.val)).2) W)
    (fun _ _ _ => False) ?hI (fun _ _ _ _ _ hs _ _ => hs) hI0
    (fun x => { tmps := #[.slice A0 l0.length c0, .slice A1 l1.length c1, undef, .pointer (some ⟨gb, 0, none⟩), .slice none 0 0, .slice none 0 0, .pointer (some ⟨go, 0, none⟩), .pointer (some ⟨gr, 0, none⟩), .int .i64 (x.1.1 : Int), .int .i64 x.1.2, undef, undef, undef, .slice A0 l0.length c0, .int .i64 (l0.length : Int), .slice Ao l0.length co, .slice A0 l0.length c0, .func (.func 101) #[] #[.pointer (some ⟨w4.heap.size, 0, none⟩)], .int .i64 (x.1.1 : Int), .int .i64 x.1.2, undef, undef, undef, undef, undef, undef, undef, undef, undef, undef, undef, undef, undef, undef, undef, undef, undef, undef, undef, undef, undef, undef, undef, undef, undef, undef, undef, undef, undef, undef, undef, undef, undef, undef, undef, undef, undef, undef], defers := [] }) ?assign ?body ?done ?stop
  case hg => rfl
  all_goals (have HVO := Aside0.mk hvo; clear hvo s5 hW5)
  case hI => exact fun s X Y row hs hg hr => hs.own (by have := FX.out.1; omega) hg hr
  case assign =>
    intro lo x W K hK
    gi_wp2
    exact hK
  case stop =>
    rintro D c pre W _ _ h _
    exact h.elim
  case done =>
    rintro D xs W hDn hxs hI hKD
    obtain ⟨hOd, hOv, hOr⟩ := runL_all HD.out.2.2.2.1 HD.out.1
    rw [← hxs] at hOd hOv hOr
    have hOl := runL_len l0.length (val l1) (xs.map Subtype.val)
    rw [hOr] at hI
    obtain ⟨O, hO⟩ : ∃ O, O = (runL l0.length (val l1) (xs.map Subtype.val)).1 := ⟨_, rfl⟩
    rw [← hO] at hI hOd hOv hOl
    have AT := Aside0.mk (show impl_limbs_trim.f 6000 O = some (rep (val l0 / val l1)) by rw [iTrim_ge O (by have := HD.out.2.2.2.2.1; omega) 6000 (by have := HD.out.2.2.2.2.1; omega), trimL_rep hOd, hOv])
    clear hO hOd hOv hOr hxs
    have hve := HVO.out
    obtain ⟨Ap, cp, hbp, hRp⟩ := hI.br
    have hbo := hI.bo
    rw [hve] at hbo
    have HV2 := Aside0.mk (Kd.V_mono (Kd.R_V (base' := W.heap.size) hI.ro) (ok' := fun k => w.heap.size ≤ k) (fun k hk => (FX.out.2 k hk).1))
    rw [hve, ← hOl] at HV2
    rw [← hOl] at hbo
    have hHD := Aside0.mk (And.intro hDn hKD)
    have HIR := Aside0.mk (And.intro hI hRp)
    clear hI hRp hve hDn hKD hOl
    go_wp2_with (fail)
    rename_i KK hKK
    simp only [Act.put, List.setIfInBounds_toArray, List.set_cons_zero, List.set_cons_succ]
    refine wp_mono (Q := Exit.then KK (fun _ _ _ => False)) ?_ (fun e a w h => by cases e <;> first | exact h | exact h.elim)
    have hKd : W.drew.heap[D]? = some (.deferred (some [])) := hHD.out.2
    refine start_ (n := 5) (S := fun w' => w'.cell? ⟨go, 0, none⟩ = some (.slice Ao O.length co) ∧ w'.cell? ⟨gr, 0, none⟩ = some (.slice Ap (rep (val l0 % val l1)).length cp)) (ds := []) #[false, false, false, false, false] (by kernel_rfl) rfl rfl ⟨(blk_cell hbo 0).trans rfl, (blk_cell hbp 0).trans rfl⟩ (fun hHeld => ?_)
    refine with_tabW tab15 bits15 (fun HT_ HW_ => ?_)
    have HBd := Aside0.mk (HIR.out.1.below.drew)
    replace hbp := blk_drew hbp
    replace hbo := blk_drew hbo
    replace HIR := Aside0.mk (HIR.out.2.kept (Kept.of_below ((Below.refl _ W).drew) (fun _ => False)) (fun _ hk => hk.elim))
    replace HV2 : Aside0 (Kd.V (Kd.int .i64) 3 W.drew W.drew.heap.size (fun k => w.heap.size ≤ k) (.slice Ao O.length co) O) := Aside0.mk (Kd.V_drew HV2.out)
    replace hHD := Aside0.mk (And.intro hHD.out.1 hKd)
    clear hKd
    generalize W.drew = wd at HBd hbp hbo HIR HV2 hHeld hHD ⊢
    refine take_ (i := 0) (N := some 55) (v := ?_) (a' := ?_) #[true, false, false, false, false] rfl rfl (take_ofW HT_.out HW_.out (by kernel_rfl)) (fun _ _ _ h => h) (Or.inl ⟨by rfl, ?_⟩) hHeld ?_ ?_
    rotate_left
    · rintro w' ⟨s0, s1⟩
      go_simp
      with_reducible rfl
    rotate_left
    · simp only [Act.put, List.setIfInBounds_toArray, List.set_cons_zero, List.set_cons_succ, i64_w, i32_w]
      rfl
    refine take_ (i := 2) (N := some 57) (v := ?_) (a' := ?_) #[true, false, true, false, false] rfl rfl (take_ofW HT_.out HW_.out (by kernel_rfl)) (fun _ _ _ h => h) (Or.inl ⟨by rfl, ?_⟩) hHeld ?_ ?_
    rotate_left
    · rintro w' ⟨s0, s1⟩
      go_simp
      with_reducible rfl
    rotate_left
    · simp only [Act.put, List.setIfInBounds_toArray, List.set_cons_zero, List.set_cons_succ, i64_w, i32_w]
      rfl
    refine one_ (i := 1) (N := some 56) #[true, true, true, false, false] rfl rfl (one_of HT_.out (by kernel_rfl)) (by decide) (fun K hK => ?_)
    refine goes_ Try.func82 (by kernel_rfl) rfl #[.slice Ao O.length co] (by rfl) rfl rfl (by (try simp only [List.map_toArray, List.map_cons, List.map_nil]); first | done | rfl) ?_
    refine (impl_limbs_trim.calls 6000 (fun k => w.heap.size ≤ k) Ao co O _ wd HV2.out AT.out).mono ?_
    rintro e we ⟨v56, rfl, ho56, hbe56⟩
    refine ⟨_, rfl, ?_⟩
    obtain ⟨A56, c56, rfl⟩ := Kd.V_slice ho56
    have hD56 : we.heap[D]? = some (.deferred (some [])) := blk_below hHD.out.2 hbe56
    replace hHD := Aside0.mk (And.intro hHD.out.1 hD56)
    replace HBd := Aside0.mk (And.intro HBd.out.size (below_step HBd.out hbe56))
    replace hbp := blk_below hbp hbe56
    replace hbo := blk_below hbo hbe56
    replace HIR := Aside0.mk (HIR.out.kept (Kept.of_below hbe56 (fun _ => False)) (fun _ hk => hk.elim))
    replace HV2 := Aside0.mk (Kd.V_mono (ok' := fun k => w.heap.size ≤ k) ho56 (fun k hk => by have := HBd.out.1; rcases hk with hk | hk <;> omega))
    clear hD56 ho56 hbe56 hHeld
    refine hK.out _ _ ⟨(blk_cell hbo 0).trans rfl, (blk_cell hbp 0).trans rfl⟩ (fun hHeld => ?_)
    clear hK K
    refine norm_ (a' := ?_) ?_ ?_
    rotate_left
    · show Act.put _ (some 56) _ = _
      simp only [Act.put, List.setIfInBounds_toArray, List.set_cons_zero, List.set_cons_succ, i64_w, i32_w]
      rfl
    refine pure_ (i := 3) (N := some 4) (v := ?_) (a' := ?_) #[true, true, true, true, false] rfl rfl (any_of HT_.out (by kernel_rfl)) (fun _ _ _ h => h) (Or.inl ⟨by rfl, ?_⟩) ?_ ?_
    rotate_left
    · intro w'
      go_simp
      with_reducible rfl
    rotate_left
    · simp only [Act.put, List.setIfInBounds_toArray, List.set_cons_zero, List.set_cons_succ, i64_w, i32_w]
      rfl
    refine pure_ (i := 4) (N := some 5) (v := ?_) (a' := ?_) #[true, true, true, true, true] rfl rfl (any_of HT_.out (by kernel_rfl)) (fun _ _ _ h => h) (Or.inl ⟨by rfl, ?_⟩) ?_ ?_
    rotate_left
    · intro w'
      go_simp
      with_reducible rfl
    rotate_left
    · simp only [Act.put, List.setIfInBounds_toArray, List.set_cons_zero, List.set_cons_succ, i64_w, i32_w]
      rfl
    refine done_ (done_of HT_.out (by kernel_rfl)) ?_
    clear hHeld
    refine hKK _ _ ?_
    go_wp2_with (fail)
    refine ⟨by simp, .inl ⟨_, _, rfl, run_takeDeferred hHD.out.2, ?_⟩⟩
    have hDN := hHD.out.1
    have hlast : Below w.heap.size w (we.putObj D (.deferred none)) := HBd.out.2.trans (belowK_b (w := W5) (by have := FX.out.1; omega) we D _ _ hDN hHD.out.2 rfl rfl)
    refine ⟨_, results_tmp2 rfl _ _ _, _, _, rfl, ?_, ?_, hlast⟩
    · exact Rest.V (N0 := w.heap.size) (Rest.grown (Rest.of_V HV2.out (fun _ hk => hk)) (grownBy_putObj' we D _) (fun r e => by cases e; exact ⟨_, hHD.out.2, rfl⟩)) (Nat.le_refl _)
    · exact Rest.V (N0 := W5.heap.size) (Rest.grown HIR.out (grownBy_putObj' we D _) (fun r e => by cases e; exact ⟨_, hHD.out.2, rfl⟩)) (by have := FX.out.1; omega)
  case body =>
    rintro lo pre x W hI hN
    obtain ⟨O, hO⟩ : ∃ O, O = (runL l0.length (val l1) (pre.map Subtype.val)).1 := ⟨_, rfl⟩
    obtain ⟨R, hR⟩ : ∃ R, R = (runL l0.length (val l1) (pre.map Subtype.val)).2 := ⟨_, rfl⟩
    have hstp : runL l0.length (val l1) ((pre ++ [x]).map Subtype.val) = (O.set x.1.1 ((x.1.2 + 10000 * R) / val l1), (x.1.2 + 10000 * R) % val l1) := by
      rw [List.map_append, List.map_cons, List.map_nil, runL_snoc, hO, hR]
      rfl
    have hRb : 0 ≤ R ∧ R < val l1 := by rw [hR]; exact runL_bd HD.out.2.2.2.1 _ _
    have hOl : O.length = l0.length := by rw [hO]; exact runL_len _ _ _
    rw [← hO, ← hR] at hI
    refine wpIn_mono (Q := fun e a' W' => e = .normal ∧ Kept W W' (fun k => k = gr ∨ some k = vo.ownBlock) ∧ Inv w W5.heap.size gb go gr (.slice A1 l1.length c1) vo (O.set x.1.1 ((x.1.2 + 10000 * R) / val l1)) (rep ((x.1.2 + 10000 * R) % val l1)) W') ?_ (by
      rintro e a' W' ⟨rfl, hk, hI'⟩
      have hSk : ∀ k, (k = gr ∨ some k = vo.ownBlock) → w.heap.size ≤ k ∧ k < w4.heap.size := fun k hS => by
        rcases hS with hS | hS
        · have := FX.out.1; omega
        · have := FX.out.1; have := FX.out.2 k hS; omega
      refine ⟨⟨hk.1, fun k o hB ho _ => blk_kept ho hk (fun hS => by have := hSk k hS; have := FX.out.1; omega)⟩, fun p hp => ?_, ?_⟩
      · have hlt := hI.below.size
        have hbg := hI.big
        have := hk.2 p.block (by have := FX.out.1; rcases hp with hp | hp <;> omega) (fun hS => by have := hSk _ hS; rcases hp with hp | hp <;> omega)
        exact World.cell?_of_block this
      · show Inv w _ gb go gr _ vo (runL l0.length (val l1) ((pre ++ [x]).map Subtype.val)).1 (rep (runL l0.length (val l1) ((pre ++ [x]).map Subtype.val)).2) W'
        rw [hstp]
        exact hI')
    clear hO hR hstp
    have hx : 0 ≤ x.1.2 ∧ x.1.2 ≤ 9999 := by
      rw [x.2.2]
      exact dig_get HD.out.1 _
    have hxi := x.2.1
    obtain ⟨i, hi⟩ : ∃ i, i = x.1.1 := ⟨_, rfl⟩
    obtain ⟨d, hd⟩ : ∃ d, d = x.1.2 := ⟨_, rfl⟩
    rw [← hi] at hxi
    rw [← hd] at hx
    rw [← hi, ← hd]
    clear hi hd
    obtain ⟨V, hV⟩ : ∃ V, V = d + 10000 * R := ⟨_, rfl⟩
    have hVb : 0 ≤ V ∧ V < 10000 * val l1 := by omega
    rw [← hV]
    have lR : (rep R).length ≤ 41 := len_of HD.out.2.1 HD.out.2.2.2.2.2 hRb.1 (by omega)
    have lV : (rep V).length ≤ 41 := len_of HD.out.2.1 HD.out.2.2.2.2.2 hVb.1 hVb.2
    have AT := Aside0.mk (show impl_limbs_trim.f 6000 ([d] ++ rep R) = some (rep V) by rw [trim_val hx hRb.1 (by omega), hV])
    have XV := Aside0.mk (And.intro hV (And.intro hVb (And.intro lR (And.intro lV (And.intro hx (And.intro hxi (And.intro hOl hRb)))))))
    clear hV hVb hx hxi hOl hRb
    obtain ⟨rl, hrl⟩ : ∃ rl, rl = rep R := ⟨_, rfl⟩
    rw [← hrl] at hI AT lR
    clear hrl
    obtain ⟨Ar, cr, hbr, hRest⟩ := hI.br
    have hcr : W.cell? ⟨gr, 0, none⟩ = some (.slice Ar rl.length cr) := (blk_cell hbr 0).trans rfl
    have hfr := blk_frozen hbr 0
    refine wpIn_block ?_
    refine wpIn_seq_k (fun K1 hK1 => ?_)
    refine region_in (by kernel_rfl) (by rintro ⟨a', w', h⟩; have h := And.left h; cases h) ?_
    go_wp2_with ((with_reducible refine gate_dst (N := 21) rfl ?_); refine Aside0.out ?_)
    refine ⟨?_⟩
    refine Kd.R_lit (Kd.int .i64) W.heap.size 3 ?hg (N := 21) ?hd (xs := ([d] : List Int)) (inner := [.int .i64 d]) (ok := fun k_ => W.heap.size ≤ k_) (okp := fun k_ => W.heap.size ≤ k_) ?hr ?hp (fun _ hk => hk) (Nat.le_refl _) (Below.refl _ W) (Nat.le_refl _) (by simp) ?_
    (case hd => rfl)
    (case hg => rfl)
    (case hr => first | (go_simp; done) | (go_simp; rfl))
    (case hp => exact (Reps.one (show Kd.M (Kd.int .i64) _ _ _ d [.int .i64 d] from rfl) (Reps.none _ _)))
    intro v21 W1 ho1 hb1 hg1 hn1
    have hbr1 := blk_below hbr hb1
    replace hcr : W1.cell? ⟨gr, 0, none⟩ = some (.slice Ar rl.length cr) := (blk_cell hbr1 0).trans rfl
    replace hfr := blk_frozen hbr1 0
    go_wp2_with ((with_reducible refine gate_builtin (b := .append) (xs := #[.tmp 21, .tmp 22]) rfl ?_); refine Aside0.out ?_)
    refine ⟨?_⟩
    at_builtin
    refine Kd.R_append_rows (Kd.int .i64) (w0 := W) W.heap.size rfl (.tmp 21) (.tmp 22) 54 3 (.int .i64 0) 8 rfl Try.underlying54 Ext.info3 rfl (by decide) (by omega) v21 ([d] : List Int) rl _ _ _ (fun k_ => W.heap.size ≤ k_) (fun _ => False) rfl rfl ?aO ?aR (fun _ _ h => h) (fun _ h => h.elim) ?aF ?aB ?aS ?aL ?_
    (case aO => exact ho1)
    (case aR => exact Kd.C_below hRest.C hb1)
    (case aF => exact fun k hk => Nat.le_trans hb1.size hk)
    (case aB => exact hb1)
    (case aS => exact hb1.size)
    (case aL => simp only [List.length_cons, List.length_nil]; omega)
    intro v23 W2 ho2 hb2 hg2 hn2
    clear ho1 hg1 hn1 hg2 hn2
    obtain ⟨yl, hyl⟩ : ∃ yl, yl = [d] ++ rl := ⟨_, rfl⟩
    rw [← hyl] at ho2 AT
    clear hyl
    obtain ⟨vl, hvl⟩ : ∃ vl, vl = rep V := ⟨_, rfl⟩
    rw [← hvl] at AT
    have HVL := Aside0.mk hvl
    clear hvl
    have hbr2 := blk_below hbr hb2
    clear hb1 hbr1 hcr hfr
    obtain ⟨A23, c23, rfl⟩ := Kd.R_slice ho2
    have HV2 := Aside0.mk (Kd.R_V (base' := W2.heap.size) ho2)
    clear ho2
    go_wp2_with ((with_reducible refine gate_callee (f := 82) rfl ?_); refine Aside0.out ?_)
    refine ⟨?_⟩
    refine goesL_ (some 24) rfl rfl Try.func82 (by kernel_rfl) rfl #[.slice A23 yl.length c23] rfl (by (try simp only [List.map_toArray, List.map_cons, List.map_nil]); first | done | rfl) ?_
    refine (impl_limbs_trim.calls 6000 (fun k_ => W.heap.size ≤ k_) A23 c23 yl vl W2 HV2.out AT.out).mono ?_
    rintro e W3 ⟨v24, rfl, ho3, hb3⟩
    refine ⟨_, rfl, ?_⟩
    obtain ⟨A24, c24, rfl⟩ := Kd.V_slice ho3
    have hb23 : Below W.heap.size W W3 := below_step hb2 hb3
    have HR3 := Aside0.mk (Rest.of_V (N0 := W5.heap.size) ho3 (fun k hk => by have := hI.big; have := hb2.size; rcases hk with hk | hk <;> omega))
    have hbr3 := blk_below hbr2 hb3
    have hcr : W3.cell? ⟨gr, 0, none⟩ = some (.slice Ar rl.length cr) := (blk_cell hbr3 0).trans rfl
    have hfr := blk_frozen hbr3 0
    clear hb2 hb3 ho3 hbr2 HV2 AT
    go_wp2_with (fail)
    have hI6 := (hI.step hb23).rest (by have := FX.out.1; omega) (by have := FX.out.1; omega) (by have := FX.out.1; omega) (fun k hk => by have := FX.out.1; have := FX.out.2 k hk; omega) (by have := FX.out.1; omega) HR3.out
    have hK6 : Kept W (W3.setCell ⟨gr, 0, none⟩ (.slice A24 vl.length c24)) (fun k => k = gr ∨ some k = vo.ownBlock) := (Kept.of_below hb23 _).setCell (.inl (.inl rfl)) _
    have HJ := Aside0.mk (And.intro hK6 hI6)
    generalize W3.setCell ⟨gr, 0, none⟩ (.slice A24 vl.length c24) = W6 at HJ ⊢
    clear hI6 hK6 hI hb23 HR3 hbr3 hcr hfr hbr hRest
    have HS := Aside0.mk (srch_start (V := V) (B := val l1) XV.out.2.1.1 XV.out.2.1.2)
    refine wpIn_seq_k (fun K2 hK2 => ?_)
    gi_wp2
    gi_loopw [10, 11] (fun v10 v11 wr => ∃ a b : Int, v10 = .int .i64 a ∧ v11 = .int .i64 b ∧ Aside0 (Srch V (val l1) a b) ∧ Aside0 ((Kept W wr fun k => k = gr ∨ some k = vo.ownBlock) ∧ Inv w W5.heap.size gb go gr (.slice A1 l1.length c1) vo O vl wr))
      (fun v10 v11 _ => (intOf v11 - intOf v10).toNat)
    case atStart => exact ⟨0, 9999, rfl, rfl, HS, HJ⟩
    case round =>
      clear HJ HS
      obtain ⟨a, b, rfl, rfl, HS, HJ⟩ := hrel
      have hSa := HS.out.1
      have hSb := HS.out.2.1
      have hSc := HS.out.2.2.1
      have hSm := srch_mid HS.out
      by_cases hlt : a < b
      · have hltb : decide (a < b) = true := decide_eq_true hlt
        gi_wp2
        have hm := srch_mid HS.out hlt
        have hmb : 0 ≤ (a + b + 1) / 2 ∧ (a + b + 1) / 2 ≤ 9999 := by omega
        obtain ⟨m, hme⟩ : ∃ m, m = (a + b + 1) / 2 := ⟨_, rfl⟩
        rw [← hme] at hm hmb
        have HM := Aside0.mk (And.intro hm hmb)
        clear hm
        simp only [← hme]
        clear hme hSm
        obtain ⟨lm, hlm1, hlm2⟩ := mul_val HD.out.2.1 (by have := HD.out.2.2.2.2.2; omega) HM.out.2.1 HM.out.2.2
        have HL := Aside0.mk hlm1
        have HU := Aside0.mk hlm2
        clear hlm1 hlm2 hmb
        obtain ⟨Ap, cp, hbp, hRp⟩ := HJ.out.2.br
        have hbb := HJ.out.2.bb
        refine start_in (m := 8) (S := fun w' => w'.cell? ⟨gb, 0, none⟩ = some (.slice A1 l1.length c1) ∧ w'.cell? ⟨gr, 0, none⟩ = some (.slice Ap vl.length cp)) (ds := []) #[false, false, false, false, false, false, false, false] (by kernel_rfl) rfl rfl (by kernel_rfl) (by rintro ⟨a', w', h⟩; have h := And.left h; cases h) ⟨(blk_cell hbb 0).trans rfl, (blk_cell hbp 0).trans rfl⟩ (fun hHeld => ?_)
        refine with_tabW tab10 bits10 (fun HT_ HW_ => ?_)
        have HJd := Aside0.mk (And.intro (HJ.out.1.drew) (HJ.out.2.step (Below.refl _ wr).drew))
        replace hbp := blk_drew hbp
        replace hbb := blk_drew hbb
        replace hRp := Aside0.mk (hRp.kept (Kept.of_below ((Below.refl _ wr).drew) (fun _ => False)) (fun _ hk => hk.elim))
        generalize wr.drew = wd at HJd hbp hbb hRp hHeld ⊢
        refine pure_ (i := 1) (N := some 34) (v := ?_) (a' := ?_) #[false, true, false, false, false, false, false, false] rfl rfl (any_of HT_.out (by kernel_rfl)) (fun _ _ _ h => h) (Or.inl ⟨by rfl, ?_⟩) ?_ ?_
        rotate_left
        · intro w'
          go_simp
          with_reducible rfl
        rotate_left
        · simp only [Act.put, List.setIfInBounds_toArray, List.set_cons_zero, List.set_cons_succ, i64_w, i32_w]
          rfl
        refine pure_ (i := 2) (N := some 35) (v := ?_) (a' := ?_) #[false, true, true, false, false, false, false, false] rfl rfl (any_of HT_.out (by kernel_rfl)) (fun _ _ _ h => h) (Or.inl ⟨by rfl, ?_⟩) ?_ ?_
        rotate_left
        · intro w'
          go_simp
          with_reducible rfl
        rotate_left
        · simp only [Act.put, List.setIfInBounds_toArray, List.set_cons_zero, List.set_cons_succ, i64_w, i32_w]
          rfl
        refine take_ (i := 0) (N := some 33) (v := ?_) (a' := ?_) #[true, true, true, false, false, false, false, false] rfl rfl (take_ofW HT_.out HW_.out (by kernel_rfl)) (fun _ _ _ h => h) (Or.inl ⟨by rfl, ?_⟩) hHeld ?_ ?_
        rotate_left
        · rintro w' ⟨s0, s1⟩
          go_simp
          with_reducible rfl
        rotate_left
        · simp only [Act.put, List.setIfInBounds_toArray, List.set_cons_zero, List.set_cons_succ, i64_w, i32_w]
          rfl
        refine take_ (i := 5) (N := some 38) (v := ?_) (a' := ?_) #[true, true, true, false, false, true, false, false] rfl rfl (take_ofW HT_.out HW_.out (by kernel_rfl)) (fun _ _ _ h => h) (Or.inl ⟨by rfl, ?_⟩) hHeld ?_ ?_
        rotate_left
        · rintro w' ⟨s0, s1⟩
          go_simp
          with_reducible rfl
        rotate_left
        · simp only [Act.put, List.setIfInBounds_toArray, List.set_cons_zero, List.set_cons_succ, i64_w, i32_w]
          rfl
        refine one_ (i := 3) (N := some 36) #[true, true, true, true, false, true, false, false] rfl rfl (one_of HT_.out (by kernel_rfl)) (by decide) (fun K hK => ?_)
        refine goes_ Try.func56 (by kernel_rfl) rfl #[.int .u64 (IntKind.u64.wrap m)] (by rfl) rfl rfl (by (try simp only [List.map_toArray, List.map_cons, List.map_nil]); first | done | rfl) ?_
        refine (impl_limbsOf.calls 6000 (IntKind.u64.wrap m) lm _ HL.out).mono ?_
        rintro e we ⟨v36, rfl, ho36, hbe36⟩
        refine ⟨_, rfl, ?_⟩
        obtain ⟨A36, c36, rfl⟩ := Kd.R_slice ho36
        have hC36 := Aside0.mk (Kd.R_reads' ho36).2
        replace HJd := Aside0.mk (And.intro (HJd.out.1.below hbe36) (HJd.out.2.step hbe36))
        replace hbp := blk_below hbp hbe36
        replace hbb := blk_below hbb hbe36
        replace hRp := Aside0.mk (hRp.out.kept (Kept.of_below hbe36 (fun _ => False)) (fun _ hk => hk.elim))
        clear ho36 hbe36 hHeld
        refine hK.out _ _ ⟨(blk_cell hbb 0).trans rfl, (blk_cell hbp 0).trans rfl⟩ (fun hHeld => ?_)
        clear hK K
        refine norm_ (a' := ?_) ?_ ?_
        rotate_left
        · show Act.put _ (some 36) _ = _
          simp only [Act.put, List.setIfInBounds_toArray, List.set_cons_zero, List.set_cons_succ, i64_w, i32_w]
          rfl
        refine one_ (i := 4) (N := some 37) #[true, true, true, true, true, true, false, false] rfl rfl (one_of HT_.out (by kernel_rfl)) (by decide) (fun K hK => ?_)
        refine goes_ Try.func85 (by kernel_rfl) rfl #[.slice A1 l1.length c1, .slice A36 lm.length c36] (by rfl) rfl rfl (by (try simp only [List.map_toArray, List.map_cons, List.map_nil]); first | done | rfl) ?_
        refine (impl_limbs_mul.calls 6000 A1 c1 l1 A36 c36 lm _ _ (Kd.C_below HR1.out HJd.out.2.below) HC.out.2 hC36.out.2 hC36.out.1 HU.out).mono ?_
        rintro e wf ⟨v37, rfl, ho37, hbe37⟩
        refine ⟨_, rfl, ?_⟩
        obtain ⟨A37, c37, rfl⟩ := Kd.V_slice ho37
        have hC37 := Aside0.mk (Kd.V_reads' ho37).2
        replace HJd := Aside0.mk (And.intro (HJd.out.1.below hbe37) (HJd.out.2.step hbe37))
        replace hbp := blk_below hbp hbe37
        replace hbb := blk_below hbb hbe37
        replace hRp := Aside0.mk (hRp.out.kept (Kept.of_below hbe37 (fun _ => False)) (fun _ hk => hk.elim))
        clear ho37 hbe37 hHeld hC36
        refine hK.out _ _ ⟨(blk_cell hbb 0).trans rfl, (blk_cell hbp 0).trans rfl⟩ (fun hHeld => ?_)
        clear hK K
        refine norm_ (a' := ?_) ?_ ?_
        rotate_left
        · show Act.put _ (some 37) _ = _
          simp only [Act.put, List.setIfInBounds_toArray, List.set_cons_zero, List.set_cons_succ, i64_w, i32_w]
          rfl
        have lBm : 0 ≤ val l1 * m := Int.mul_nonneg (Int.le_of_lt HD.out.2.2.2.1) HM.out.2.1
        have lBl : (rep (val l1 * m)).length ≤ 41 := len_of HD.out.2.1 HD.out.2.2.2.2.2 lBm (by have h_ := Int.mul_le_mul_of_nonneg_left HM.out.2.2 (Int.le_of_lt HD.out.2.2.2.1); have := HD.out.2.2.2.1; omega)
        have HCM := Aside0.mk (show impl_limbs_cmp.f 6000 (rep (val l1 * m)) vl = some (sgn (val l1 * m - V)) by rw [HVL.out]; exact cmp_val lBm XV.out.2.1.1 (by omega) (by omega))
        clear lBm lBl
        refine one_ (i := 6) (N := some 39) #[true, true, true, true, true, true, true, false] rfl rfl (one_of HT_.out (by kernel_rfl)) (by decide) (fun K hK => ?_)
        refine goes_ Try.func87 (by kernel_rfl) rfl #[.slice A37 (rep (val l1 * m)).length c37, .slice Ap vl.length cp] (by rfl) rfl rfl (by (try simp only [List.map_toArray, List.map_cons, List.map_nil]); first | done | rfl) ?_
        refine (impl_limbs_cmp.calls 6000 A37 c37 _ Ap cp vl _ _ hC37.out.2 hC37.out.1 hRp.out.C hRp.out.1 HCM.out).mono ?_
        rintro e wg ⟨rfl, hbe39⟩
        refine ⟨_, rfl, ?_⟩
        replace HJd := Aside0.mk (And.intro (HJd.out.1.below hbe39) (HJd.out.2.step hbe39))
        replace hbp := blk_below hbp hbe39
        replace hbb := blk_below hbb hbe39
        clear hbe39 hHeld hC37 hRp
        refine hK.out _ _ ⟨(blk_cell hbb 0).trans rfl, (blk_cell hbp 0).trans rfl⟩ (fun hHeld => ?_)
        clear hK K
        refine norm_ (a' := ?_) ?_ ?_
        rotate_left
        · show Act.put _ (some 39) _ = _
          simp only [Act.put, List.setIfInBounds_toArray, List.set_cons_zero, List.set_cons_succ, i64_w, i32_w]
          rfl
        obtain ⟨sg, hsg⟩ : ∃ sg, sg = sgn (val l1 * m - V) := ⟨_, rfl⟩
        have hsl := sgn_le (val l1 * m - V)
        simp only [← hsg] at hsl ⊢
        have HSG := Aside0.mk hsl
        clear hsl hsg HCM
        refine pure_ (i := 7) (N := some 40) (v := ?_) (a' := ?_) #[true, true, true, true, true, true, true, true] rfl rfl (any_of HT_.out (by kernel_rfl)) (fun _ _ _ h => h) (Or.inl ⟨by rfl, ?_⟩) ?_ ?_
        rotate_left
        · intro w'
          go_simp
          with_reducible rfl
        rotate_left
        · simp only [Act.put, List.setIfInBounds_toArray, List.set_cons_zero, List.set_cons_succ, i64_w, i32_w]
          rfl
        refine done_ (done_of HT_.out (by kernel_rfl)) ?_
        clear hHeld hbp hbb
        by_cases hsg0 : sg ≤ 0
        · have hsgb : decide (sg ≤ 0) = true := decide_eq_true hsg0
          have HS2 := Aside0.mk (srch_yes HS.out HM.out.1.1 HM.out.1.2 (HSG.out.1 hsg0))
          have hms : (b - m).toNat < (b - a).toNat := by have := HM.out.1; omega
          gi_wp2
          go_roundw
          case rel => exact ⟨m, b, rfl, rfl, HS2, HJd⟩
          case measure => simpa [intOf] using hms
        · have hsgb : decide (sg ≤ 0) = false := decide_eq_false hsg0
          have HS2 := Aside0.mk (srch_no HS.out HM.out.1.1 HM.out.1.2 (fun h => hsg0 (HSG.out.2 h)))
          have hms : (m - 1 - a).toNat < (b - a).toNat := by have := HM.out.1; omega
          have hm1 := HM.out.2.1
          have hm2 := HM.out.2.2
          gi_wp2
          go_roundw
          case rel => exact ⟨a, m - 1, rfl, rfl, HS2, HJd⟩
          case measure => simpa [intOf] using hms
      · have hltb : decide (a < b) = false := decide_eq_false hlt
        have hend := srch_end HD.out.2.2.2.1 HS.out hlt
        have HE := Aside0.mk hend
        have hab : 0 ≤ a ∧ a ≤ 9999 := by omega
        have HAB := Aside0.mk hab
        have hil : i < l0.length := XV.out.2.2.2.2.2.1
        have hOl : O.length = l0.length := XV.out.2.2.2.2.2.2.1
        obtain ⟨g, cap, hv, hg1, hg2, cells, hgc⟩ := Kd.R_form HJ.out.2.ro (by omega)
        have hro := HJ.out.2.ro
        rw [hv, hOl] at hro
        have hgS : some g = vo.ownBlock := by rw [hv]; rfl
        have hco2 : wr.cell? ⟨go, 0, none⟩ = some (.slice (some ⟨g, 0, none⟩) l0.length cap) := by rw [← hOl, ← hv]; exact (blk_cell HJ.out.2.bo 0).trans rfl
        obtain ⟨hcg, hfg⟩ := Kd.R_celln 0 hro (i : Int) (by omega) (by omega)
        rw [Int.toNat_natCast] at hcg hfg
        obtain ⟨hro2, _⟩ := Kd.R_putg hro (i : Int) a
        rw [Int.toNat_natCast] at hro2
        have p1 : decide ((0 : Int) ≤ (i : Int)) = true := decide_eq_true (by omega)
        have p2 : decide ((i : Int) < (l0.length : Int)) = true := decide_eq_true (by omega)
        have q1 : (0 : Int) ≤ (i : Int) := by omega
        have q2 : (i : Int) < (l0.length : Int) := by omega
        have HV' := Aside0.mk (And.intro hv (And.intro hgS (And.intro hro2 (And.intro hOl (And.intro hg1 hg2)))))
        clear hv hgS hro hro2 hOl hab hend hSm hSa hSb hSc hgc hg1 hg2
        gi_wp2
        have hgN : g < W5.heap.size := by have := FX.out.1; have := FX.out.2 g HV'.out.2.1; omega
        have hve : vo = .slice (some ⟨g, 0, none⟩) l0.length cap := by rw [← HV'.out.2.2.2.1]; exact HV'.out.1
        have hIn := HJ.out.2.cell hve hgN HV'.out.2.2.2.2.1 (i := i) (x' := .int .i64 a) (O' := O.set i a) (by have h_ := HV'.out.2.2.1; rw [← hve] at h_; exact h_)
        have hKn := HJ.out.1.setCell (p := ⟨g, i, none⟩) (.inl (.inr HV'.out.2.1)) (.int .i64 a)
        have HJn := Aside0.mk (And.intro hKn hIn)
        generalize wr.setCell ⟨g, i, none⟩ (.int .i64 a) = wn at HJn ⊢
        clear hIn hKn hgN hve HV' HJ HS hltb hil hco2 hcg hfg p1 p2 q1 q2 hlt
        obtain ⟨lm, hlm1, hlm2⟩ := mul_val HD.out.2.1 (by have := HD.out.2.2.2.2.2; omega) HAB.out.1 HAB.out.2
        have HL := Aside0.mk hlm1
        have HU := Aside0.mk hlm2
        clear hlm1 hlm2
        obtain ⟨Ap, cp, hbp, hRp⟩ := HJn.out.2.br
        have hbb := HJn.out.2.bb
        refine start_in (m := 8) (S := fun w' => w'.cell? ⟨gb, 0, none⟩ = some (.slice A1 l1.length c1) ∧ w'.cell? ⟨gr, 0, none⟩ = some (.slice Ap vl.length cp)) (ds := [7]) #[false, false, false, false, false, false, false, false] (by kernel_rfl) rfl rfl (by kernel_rfl) (by rintro ⟨a', w', h⟩; have h := And.left h; cases h) ⟨(blk_cell hbb 0).trans rfl, (blk_cell hbp 0).trans rfl⟩ (fun hHeld => ?_)
        refine with_tabW tab14 bits14 (fun HT_ HW_ => ?_)
        have HJd := Aside0.mk (And.intro (HJn.out.1.drew) (HJn.out.2.step (Below.refl _ wn).drew))
        replace hbp := blk_drew hbp
        replace hbb := blk_drew hbb
        replace hRp := Aside0.mk (hRp.kept (Kept.of_below ((Below.refl _ wn).drew) (fun _ => False)) (fun _ hk => hk.elim))
        generalize wn.drew = wd at HJd hbp hbb hRp hHeld ⊢
        refine pure_ (i := 2) (N := some 50) (v := ?_) (a' := ?_) #[false, false, true, false, false, false, false, false] rfl rfl (any_of HT_.out (by kernel_rfl)) (fun _ _ _ h => h) (Or.inl ⟨by rfl, ?_⟩) ?_ ?_
        rotate_left
        · intro w'
          go_simp
          with_reducible rfl
        rotate_left
        · simp only [Act.put, List.setIfInBounds_toArray, List.set_cons_zero, List.set_cons_succ, i64_w, i32_w]
          rfl
        refine pure_ (i := 3) (N := some 51) (v := ?_) (a' := ?_) #[false, false, true, true, false, false, false, false] rfl rfl (any_of HT_.out (by kernel_rfl)) (fun _ _ _ h => h) (Or.inl ⟨by rfl, ?_⟩) ?_ ?_
        rotate_left
        · intro w'
          go_simp
          with_reducible rfl
        rotate_left
        · simp only [Act.put, List.setIfInBounds_toArray, List.set_cons_zero, List.set_cons_succ, i64_w, i32_w]
          rfl
        refine take_ (i := 0) (N := some 48) (v := ?_) (a' := ?_) #[true, false, true, true, false, false, false, false] rfl rfl (take_ofW HT_.out HW_.out (by kernel_rfl)) (fun _ _ _ h => h) (Or.inl ⟨by rfl, ?_⟩) hHeld ?_ ?_
        rotate_left
        · rintro w' ⟨s0, s1⟩
          go_simp
          with_reducible rfl
        rotate_left
        · simp only [Act.put, List.setIfInBounds_toArray, List.set_cons_zero, List.set_cons_succ, i64_w, i32_w]
          rfl
        refine take_ (i := 1) (N := some 49) (v := ?_) (a' := ?_) #[true, true, true, true, false, false, false, false] rfl rfl (take_ofW HT_.out HW_.out (by kernel_rfl)) (fun _ _ _ h => h) (Or.inl ⟨by rfl, ?_⟩) hHeld ?_ ?_
        rotate_left
        · rintro w' ⟨s0, s1⟩
          go_simp
          with_reducible rfl
        rotate_left
        · simp only [Act.put, List.setIfInBounds_toArray, List.set_cons_zero, List.set_cons_succ, i64_w, i32_w]
          rfl
        refine one_ (i := 4) (N := some 52) #[true, true, true, true, true, false, false, false] rfl rfl (one_of HT_.out (by kernel_rfl)) (by decide) (fun K hK => ?_)
        refine goes_ Try.func56 (by kernel_rfl) rfl #[.int .u64 (IntKind.u64.wrap a)] (by rfl) rfl rfl (by (try simp only [List.map_toArray, List.map_cons, List.map_nil]); first | done | rfl) ?_
        refine (impl_limbsOf.calls 6000 (IntKind.u64.wrap a) lm _ HL.out).mono ?_
        rintro e we ⟨v52, rfl, ho52, hbe52⟩
        refine ⟨_, rfl, ?_⟩
        obtain ⟨A52, c52, rfl⟩ := Kd.R_slice ho52
        have hC52 := Aside0.mk (Kd.R_reads' ho52).2
        replace HJd := Aside0.mk (And.intro (HJd.out.1.below hbe52) (HJd.out.2.step hbe52))
        replace hbp := blk_below hbp hbe52
        replace hbb := blk_below hbb hbe52
        replace hRp := Aside0.mk (hRp.out.kept (Kept.of_below hbe52 (fun _ => False)) (fun _ hk => hk.elim))
        clear ho52 hbe52 hHeld
        refine hK.out _ _ ⟨(blk_cell hbb 0).trans rfl, (blk_cell hbp 0).trans rfl⟩ (fun hHeld => ?_)
        clear hK K
        refine norm_ (a' := ?_) ?_ ?_
        rotate_left
        · show Act.put _ (some 52) _ = _
          simp only [Act.put, List.setIfInBounds_toArray, List.set_cons_zero, List.set_cons_succ, i64_w, i32_w]
          rfl
        refine one_ (i := 5) (N := some 53) #[true, true, true, true, true, true, false, false] rfl rfl (one_of HT_.out (by kernel_rfl)) (by decide) (fun K hK => ?_)
        refine goes_ Try.func85 (by kernel_rfl) rfl #[.slice A1 l1.length c1, .slice A52 lm.length c52] (by rfl) rfl rfl (by (try simp only [List.map_toArray, List.map_cons, List.map_nil]); first | done | rfl) ?_
        refine (impl_limbs_mul.calls 6000 A1 c1 l1 A52 c52 lm _ _ (Kd.C_below HR1.out HJd.out.2.below) HC.out.2 hC52.out.2 hC52.out.1 HU.out).mono ?_
        rintro e wf ⟨v53, rfl, ho53, hbe53⟩
        refine ⟨_, rfl, ?_⟩
        obtain ⟨A53, c53, rfl⟩ := Kd.V_slice ho53
        have hC53 := Aside0.mk (Kd.V_reads' ho53).2
        replace HJd := Aside0.mk (And.intro (HJd.out.1.below hbe53) (HJd.out.2.step hbe53))
        replace hbp := blk_below hbp hbe53
        replace hbb := blk_below hbb hbe53
        replace hRp := Aside0.mk (hRp.out.kept (Kept.of_below hbe53 (fun _ => False)) (fun _ hk => hk.elim))
        clear ho53 hbe53 hHeld hC52
        refine hK.out _ _ ⟨(blk_cell hbb 0).trans rfl, (blk_cell hbp 0).trans rfl⟩ (fun hHeld => ?_)
        clear hK K
        refine norm_ (a' := ?_) ?_ ?_
        rotate_left
        · show Act.put _ (some 53) _ = _
          simp only [Act.put, List.setIfInBounds_toArray, List.set_cons_zero, List.set_cons_succ, i64_w, i32_w]
          rfl
        have lBm : 0 ≤ val l1 * a := Int.mul_nonneg (Int.le_of_lt HD.out.2.2.2.1) HAB.out.1
        have lBV : val l1 * a ≤ V := by rw [Int.mul_comm]; exact HE.out.2.2
        have HSU := Aside0.mk (show impl_limbs_sub.f 6000 vl (rep (val l1 * a)) = some (rep (V % val l1)) by rw [HVL.out, sub_val XV.out.2.1.1 lBm (by omega) lBV, HE.out.2.1])
        clear lBm lBV
        refine one_ (i := 6) (N := some 54) #[true, true, true, true, true, true, true, false] rfl rfl (one_of HT_.out (by kernel_rfl)) (by decide) (fun K hK => ?_)
        refine goes_ Try.func88 (by kernel_rfl) rfl #[.slice Ap vl.length cp, .slice A53 (rep (val l1 * a)).length c53] (by rfl) rfl rfl (by (try simp only [List.map_toArray, List.map_cons, List.map_nil]); first | done | rfl) ?_
        refine (impl_limbs_sub.calls 6000 Ap cp vl A53 c53 _ _ _ hRp.out.C hRp.out.1 hC53.out.2 hC53.out.1 HSU.out).mono ?_
        rintro e wg ⟨v54, rfl, ho54, hbe54⟩
        refine ⟨_, rfl, ?_⟩
        obtain ⟨A54, c54, rfl⟩ := Kd.V_slice ho54
        have hR54 := Aside0.mk (Rest.of_V (N0 := W5.heap.size) ho54 (fun k hk => by have := HJd.out.2.big; omega))
        replace HJd := Aside0.mk (And.intro (HJd.out.1.below hbe54) (HJd.out.2.step hbe54))
        replace hbp := blk_below hbp hbe54
        replace hbb := blk_below hbb hbe54
        clear ho54 hbe54 hHeld hC53 hRp
        refine hK.out _ _ ⟨(blk_cell hbb 0).trans rfl, (blk_cell hbp 0).trans rfl⟩ (fun hHeld => ?_)
        clear hK K
        refine norm_ (a' := ?_) ?_ ?_
        rotate_left
        · show Act.put _ (some 54) _ = _
          simp only [Act.put, List.setIfInBounds_toArray, List.set_cons_zero, List.set_cons_succ, i64_w, i32_w]
          rfl
        have hcr : wg.cell? ⟨gr, 0, none⟩ = some (.slice Ap vl.length cp) := (blk_cell hbp 0).trans rfl
        have hfr := blk_frozen hbp 0
        refine last_ (i := 7) (N := none) #[true, true, true, true, true, true, true, true] rfl rfl (one_of HT_.out (by kernel_rfl)) (by decide) (fun K hK => ?_)
        refine skip_ (w1 := ?_) (by rfl) rfl ?_ ?_
        rotate_left
        · go_simp
          rfl
        refine hK.out _ _ ?_
        clear hK K hcr hfr hHeld
        refine done_ (done_of HT_.out (by kernel_rfl)) ?_
        have hfin := HJd.out.2.rest (by have := FX.out.1; omega) (by have := FX.out.1; omega) (by have := FX.out.1; omega) (fun k hk => by have := FX.out.1; have := FX.out.2 k hk; omega) (by have := FX.out.1; omega) hR54.out
        rw [HE.out.1] at hfin
        exact ⟨rfl, HJd.out.1.setCell (.inl (.inl rfl)) _, hfin⟩
end Go.Proofs.Ytdemeoncjcbojaa.Dw
namespace Go.Proofs.Ytdemeoncjcbojaa.Ext
open Go.RowKit Go.Proofs.Ytdemeoncjcbojaa.Jt Go.Proofs.YtdemeoncjcbojaaW.PrintWords Go.Proofs.YtdemeoncjcbojaaW.PrintMore
instance decDig (l : List Int) : Decidable (Dig l) := inferInstanceAs (Decidable (∀ x ∈ l, _))
instance decNz (l : List Int) : Decidable (Nz l) := inferInstanceAs (Decidable (_ ∨ _))
def impl_limbs_div.f (l0 l1 : List Int) : Option (List Int × List Int) := if Dig l0 ∧ Dig l1 ∧ Nz l1 ∧ 0 < val l1 ∧ l0.length ≤ 40 ∧ l1.length ≤ 40 then some (rep (val l0 / val l1), rep (val l0 % val l1)) else none
theorem impl_limbs_div.calls (A0 : Option Addr) (c0 : Nat) (l0 : List Int) (A1 : Option Addr) (c1 : Nat) (l1 : List Int) (r1 : List Int) (r2 : List Int) (w : World) (hr0 : Kd.C (Kd.int .i64) w A0 l0.length l0) (hc0 : l0.length ≤ c0) (hr1 : Kd.C (Kd.int .i64) w A1 l1.length l1) (hc1 : l1.length ≤ c1) (h : impl_limbs_div.f l0 l1 = some (r1, r2)) :
    Calls Try.prog 78 #[.slice A0 l0.length c0, .slice A1 l1.length c1] w fun e w' => ∃ v0_ v1_ : Value, e = .returned (.tuple #[v0_, v1_]) ∧ Kd.V (Kd.int .i64) 3 w' w.heap.size (fun k_ => (w.heap.size ≤ k_)) v0_ r1 ∧ Kd.V (Kd.int .i64) 3 w' w.heap.size (fun k_ => (w.heap.size ≤ k_)) v1_ r2 ∧ Below w.heap.size w w' := by
  unfold impl_limbs_div.f at h
  split at h
  · rename_i hb
    obtain ⟨h1, h2, h3, h4, h5, h6⟩ := hb
    have h := Option.some.inj h
    obtain ⟨rfl, rfl⟩ := Prod.mk.inj h
    exact callsIn_wide.1 (Dw.div_in A0 c0 l0 A1 c1 l1 h1 h2 h3 h4 h5 h6 w hr0 hc0 hr1 hc1)
  · cases h
end Go.Proofs.Ytdemeoncjcbojaa.Ext
end
section
namespace Go.Proofs.Ytdemeoncjcbojaa.Pr
open Go.RowKit Go.Proofs.YtdemeoncjcbojaaW.PrintWords Go.Proofs.YtdemeoncjcbojaaW.PrintLast Go.Proofs.Ytdemeoncjcbojaa.Ext Go.Proofs.YtdemeoncjcbojaaW.PrintMore
attribute [local go_sem] max2_int min2_int max_two min_two max_three min_three max_four min_four
set_option linter.unusedVariables false
set_option linter.unusedSimpArgs false
def spec_DrawBigDiv.f (k : Nat) (l0 : List Int) : Option (Bool × List Int × Bool × List Int) := (spec_l1Open.f l0).bind fun bt0e => ((spec_l14AnyBig.f k bt0e.1 bt0e.2).bind fun bt0h => ((spec_l1Rd_pick.f k bt0e.1 bt0h.2.2 8).bind fun bt0n => (if bt0n.1 = 0 then ((spec_l14AnyBig.f k bt0e.1 bt0n.2).bind fun bt0p => (some (bt0h.1, bt0h.2.1, bt0p.1, bt0p.2.1))) else ((spec_l1Rd_pick.f k bt0e.1 bt0n.2 34).bind fun bt0u => ((spec_l14Big.f k bt0e.1 bt0u.2 (wrap64 (1 + bt0u.1))).bind fun bt0w => (some (bt0h.1, bt0h.2.1, bt0w.1, bt0w.2.1)))))))
def spec_DrawBigDiv.T5 : Bool × List (List Nat × List Nat) := (true, [([], []), ([], []), ([], []), ([2], [2]), ([3], [3]), ([1, 4, 3], [1, 4]), ([0, 5, 0], [0]), ([5, 6, 0, 1, 2, 3, 4, 5, 6], [5])])
def spec_DrawBigDiv.B5 : List Nat := [0, 0, 0, 4, 12, 30, 63, 127]
theorem spec_DrawBigDiv.tab5 : rtab .any (opsOf Try.f47 5) = spec_DrawBigDiv.T5 := by kernel_rfl
theorem spec_DrawBigDiv.bits5 : waitsOk spec_DrawBigDiv.T5.2 spec_DrawBigDiv.B5 = true := by kernel_rfl
set_option maxHeartbeats 8000000 in
set_option maxRecDepth 100000 in
theorem spec_DrawBigDiv.calls (k : Nat) (A0 : Option Addr) (c0 : Nat) (l0 : List Int) (r1 : Bool) (r2 : List Int) (r3 : Bool) (r4 : List Int) (w : World) (hr0 : Kd.C (Kd.int .u8) w A0 l0.length l0) (hc0 : l0.length ≤ c0) (h : spec_DrawBigDiv.f k l0 = some (r1, r2, r3, r4)) :
    Calls Try.prog 47 #[.slice A0 l0.length c0] w fun e w' => ∃ v1_ v3_ : Value, e = .returned (.tuple #[.agg #[.bool r1, v1_], .agg #[.bool r3, v3_]]) ∧ Kd.R (Kd.int .i64) 3 w' w.heap.size (fun k_ => some k_ ≠ (v3_ : Value).ownBlock) v1_ r2 ∧ Kd.R (Kd.int .i64) 3 w' w.heap.size (fun k_ => some k_ ≠ (v1_ : Value).ownBlock) v3_ r4 ∧ Below w.heap.size w w' := by
  have hu27 := Try.underlying27; have HR0 := zm hr0; have HC0 := zm hc0; clear hr0 hc0; have HB := zm (Below.refl w.heap.size w); have H : ((spec_l1Open.f l0).bind fun bt0e => ((spec_l14AnyBig.f k bt0e.1 bt0e.2).bind fun bt0h => ((spec_l1Rd_pick.f k bt0e.1 bt0h.2.2 8).bind fun bt0n => (if bt0n.1 = 0 then ((spec_l14AnyBig.f k bt0e.1 bt0n.2).bind fun bt0p => (some (bt0h.1, bt0h.2.1, bt0p.1, bt0p.2.1))) else ((spec_l1Rd_pick.f k bt0e.1 bt0n.2 34).bind fun bt0u => ((spec_l14Big.f k bt0e.1 bt0u.2 (wrap64 (1 + bt0u.1))).bind fun bt0w => (some (bt0h.1, bt0h.2.1, bt0w.1, bt0w.2.1)))))))) = some (r1, r2, r3, r4) := h; clear h; replace H := Option.bind_eq_some_iff.mp H; obtain ⟨⟨t0e, t0f⟩, A20, H⟩ := H; replace H : ((spec_l14AnyBig.f k t0e t0f).bind fun bt0h => ((spec_l1Rd_pick.f k t0e bt0h.2.2 8).bind fun bt0n => (if bt0n.1 = 0 then ((spec_l14AnyBig.f k t0e bt0n.2).bind fun bt0p => (some (bt0h.1, bt0h.2.1, bt0p.1, bt0p.2.1))) else ((spec_l1Rd_pick.f k t0e bt0n.2 34).bind fun bt0u => ((spec_l14Big.f k t0e bt0u.2 (wrap64 (1 + bt0u.1))).bind fun bt0w => (some (bt0h.1, bt0h.2.1, bt0w.1, bt0w.2.1))))))) = some (r1, r2, r3, r4) := H; have A2 := zm A20; clear A20; replace H := Option.bind_eq_some_iff.mp H; obtain ⟨⟨t0h, t0i, t0l⟩, A30, H⟩ := H; replace H : ((spec_l1Rd_pick.f k t0e t0l 8).bind fun bt0n => (if bt0n.1 = 0 then ((spec_l14AnyBig.f k t0e bt0n.2).bind fun bt0p => (some (t0h, t0i, bt0p.1, bt0p.2.1))) else ((spec_l1Rd_pick.f k t0e bt0n.2 34).bind fun bt0u => ((spec_l14Big.f k t0e bt0u.2 (wrap64 (1 + bt0u.1))).bind fun bt0w => (some (t0h, t0i, bt0w.1, bt0w.2.1)))))) = some (r1, r2, r3, r4) := H; have A3 := zm A30; clear A30; replace H := Option.bind_eq_some_iff.mp H; obtain ⟨⟨t0n, t0o⟩, A40, H⟩ := H; replace H : (if t0n = 0 then ((spec_l14AnyBig.f k t0e t0o).bind fun bt0p => (some (t0h, t0i, bt0p.1, bt0p.2.1))) else ((spec_l1Rd_pick.f k t0e t0o 34).bind fun bt0u => ((spec_l14Big.f k t0e bt0u.2 (wrap64 (1 + bt0u.1))).bind fun bt0w => (some (t0h, t0i, bt0w.1, bt0w.2.1))))) = some (r1, r2, r3, r4) := H; have A4 := zm A40; clear A40
  by_cases c5 : t0n = 0
  · rw [if_pos c5] at H
    have c5b0 : (t0n == 0) = true := beq_iff_eq.mpr c5; have c5b1 : (t0n != 0) = false := bne_eq_false_iff_eq.mpr c5; clear c5; replace H := Option.bind_eq_some_iff.mp H; obtain ⟨⟨t0p, t0q, t0t⟩, A60, H⟩ := H; replace H : (some (t0h, t0i, t0p, t0q)) = some (r1, r2, r3, r4) := H; have A6 := zm A60; clear A60; simp only [Option.some.injEq, Prod.mk.injEq] at H; obtain ⟨rfl, rfl, rfl, rfl⟩ := H; go_enter Try.func47, Try.ntmps47
    try go_wp2_with (first | ((with_reducible refine gate_dst (N := 2) rfl ?_); refine box_event ?hg (N := 2) ?hd (cs := #[.bool false, .slice none 0 0]) (t := 27) ?hr ?_; (case hd => rfl); (case hg => rfl); (case hr => first | (go_simp; done) | (go_simp; rfl)); intro gb0c hg w7 hbox hb; have n0_ := zm (below_step zb hb); have n1_ := zm (hbox); have n2_ := zm ((by rw [hg]; exact (below_size zb) : w.heap.size ≤ gb0c)); have n3_ := zm ((by rw [hg]; exact (below_size zb) : w.heap.size ≤ gb0c)); clear HB; have HB := n0_; have BK0c := n1_; have GW0c := n2_; have GE0c := n3_; clear n0_ n1_ n2_ n3_; clear hb hbox hg) | ((with_reducible refine gate_dst (N := 3) rfl ?_); refine box_event ?hg (N := 3) ?hd (cs := #[.bool false, .slice none 0 0]) (t := 27) ?hr ?_; (case hd => rfl); (case hg => rfl); (case hr => first | (go_simp; done) | (go_simp; rfl)); intro gb0d hg w8 hbox hb; have n0_ := zm (blk_below (g := gb0c) (o := .cells #[.bool false, .slice none 0 0] 27 (0, 0)) (zk BK0c.out) hb); have n1_ := zm (below_step zb hb); have n2_ := zm (hbox); have n3_ := zm ((by rw [hg]; exact (below_size zb) : w.heap.size ≤ gb0d)); have n4_ := zm ((by rw [hg]; exact (below_size zb) : w.heap.size ≤ gb0d)); have n5_ := zm ((by rw [hg]; exact Nat.ne_of_lt (blk_lt (g := gb0c) (o := .cells #[.bool false, .slice none 0 0] 27 (0, 0)) (zk BK0c.out)) : gb0c ≠ gb0d)); have n6_ := zm ((by rw [hg]; exact Nat.ne_of_gt (blk_lt (g := gb0c) (o := .cells #[.bool false, .slice none 0 0] 27 (0, 0)) (zk BK0c.out)) : gb0d ≠ gb0c)); clear BK0c; clear HB; have BK0c := n0_; have HB := n1_; have BK0d := n2_; have GW0d := n3_; have GE0d := n4_; have NB0c_0d := n5_; have NB0d_0c := n6_; clear n0_ n1_ n2_ n3_ n4_ n5_ n6_; clear hb hbox hg) | ((with_reducible refine gate_callee (f := 63) rfl ?_); refine goesL_ (some 7) rfl rfl Try.func63 (by kernel_rfl) rfl #[.slice A0 l0.length c0] rfl za ?_; (with_reducible refine (spec_l1Open.calls _ _ l0 t0e t0f w _ ?side1 ?side2 ?side3 A2.out).mono ?_); (case side1 => repeat (first | (with_reducible first | exact HB.out | apply below_alloc | apply pw_below_drewN | apply below_drew1 | refine below_set ?_ GE0c.out | refine below_set ?_ GE0d.out) | exact HB.out)); (case side2 => exact HR0.out); (case side3 => exact HC0.out); rintro e w9 ⟨g596, rfl, hi, hb, hb2⟩; refine ⟨_, rfl, ?_⟩; have n0_ := zm (blk_below (g := gb0c) (o := .cells #[.bool false, .slice none 0 0] 27 (0, 0)) (zk BK0c.out) hb2); have n1_ := zm (blk_below (g := gb0d) (o := .cells #[.bool false, .slice none 0 0] 27 (0, 0)) (zk BK0d.out) hb2); have n2_ := zm (hb); have n3_ := zm (hi); have n4_ := zm (IsS81.ne_blk hi (blk_below (g := gb0c) (o := .cells #[.bool false, .slice none 0 0] 27 (0, 0)) (zk BK0c.out) hb2) (by decide)); have n5_ := zm (Ne.symm (IsS81.ne_blk hi (blk_below (g := gb0c) (o := .cells #[.bool false, .slice none 0 0] 27 (0, 0)) (zk BK0c.out) hb2) (by decide))); have n6_ := zm (IsS81.ne_blk hi (blk_below (g := gb0d) (o := .cells #[.bool false, .slice none 0 0] 27 (0, 0)) (zk BK0d.out) hb2) (by decide)); have n7_ := zm (Ne.symm (IsS81.ne_blk hi (blk_below (g := gb0d) (o := .cells #[.bool false, .slice none 0 0] 27 (0, 0)) (zk BK0d.out) hb2) (by decide))); clear BK0c; clear BK0d; clear HB; have BK0c := n0_; have BK0d := n1_; have HB := n2_; have HI596 := n3_; have NB0g_0c := n4_; have NB0c_0g := n5_; have NB0g_0d := n6_; have NB0d_0g := n7_; clear n0_ n1_ n2_ n3_ n4_ n5_ n6_ n7_; (try clear hb); (try clear hb2); (try clear hk); (try clear hi)) | ((with_reducible refine gate_callee (f := 80) rfl ?_); refine goesL_ (some 9) rfl rfl Try.func80 (by kernel_rfl) rfl #[.pointer (some ⟨g596, 0, none⟩)] rfl za ?_; (with_reducible refine (spec_l14AnyBig.calls k g596 t0e t0f t0h t0i t0l w _ ?side1 ?side2 A3.out).mono ?_); (case side1 => repeat (first | (with_reducible first | exact HI596.out | apply IsS81.alloc | apply IsS81.drewN | apply IsS81.drew | apply IsS81.set_1 | refine IsS81.far ?_ NB0g_0c.out _ | refine IsS81.far ?_ NB0g_0d.out _) | exact HI596.out)); (case side2 => repeat (first | (with_reducible first | exact HB.out | apply below_alloc | apply pw_below_drewN | apply below_drew1 | refine below_set ?_ (IsS81.ge HI596.out) | refine below_set ?_ GE0c.out | refine below_set ?_ GE0d.out) | exact HB.out)); rintro e w10 ⟨v0j, rfl, ho0, hi, hb, hk⟩; refine ⟨_, rfl, ?_⟩; have n0_ := zm (KeepBut.blk hk (g' := gb0c) (o := .cells #[.bool false, .slice none 0 0] 27 (0, 0)) (zk BK0c.out) NB0c_0g.out (by simp)); have n1_ := zm (KeepBut.blk hk (g' := gb0d) (o := .cells #[.bool false, .slice none 0 0] 27 (0, 0)) (zk BK0d.out) NB0d_0g.out (by simp)); have n2_ := zm (Kd.R_lower ho0 (below_size (by repeat (first | (with_reducible first | exact HB.out | apply below_alloc | apply pw_below_drewN | apply below_drew1 | refine below_set ?_ (IsS81.ge HI596.out) | refine below_set ?_ GE0c.out | refine below_set ?_ GE0d.out) | exact HB.out)))); have n3_ := zm (hb); have n4_ := zm (hi); clear BK0c; clear BK0d; clear HB; clear HI596; have BK0c := n0_; have BK0d := n1_; have HO0k := n2_; have HB := n3_; have HI596 := n4_; clear n0_ n1_ n2_ n3_ n4_; (try clear hb); (try clear hb2); (try clear hk); (try clear hi); (try clear ho0)) | ((with_reducible refine gate_dst (N := 5) rfl ?_); refine box_event ?hg (N := 5) ?hd (cs := #[.bool false, .slice none 0 0]) (t := 27) ?hr ?_; (case hd => rfl); (case hg => rfl); (case hr => first | (go_simp; done) | (go_simp; rfl)); intro gb0m hg w11 hbox hb; have n0_ := zm (Kd.R_below (zR HO0k.out) hb); have n1_ := zm (blk_below (g := gb0c) (o := .cells #[.bool false, .slice none 0 0] 27 (0, 0)) (zk BK0c.out) hb); have n2_ := zm (blk_below (g := gb0d) (o := .cells #[.bool false, .slice none 0 0] 27 (0, 0)) (zk BK0d.out) hb); have n3_ := zm (IsS81.below (by repeat (first | (with_reducible first | exact HI596.out | apply IsS81.alloc | apply IsS81.drewN | apply IsS81.drew | apply IsS81.set_1 | refine IsS81.far ?_ NB0g_0c.out _ | refine IsS81.far ?_ NB0g_0d.out _) | exact HI596.out)) hb); have n4_ := zm (below_step (by repeat (first | (with_reducible first | exact HB.out | apply below_alloc | apply pw_below_drewN | apply below_drew1 | refine below_set ?_ (IsS81.ge HI596.out) | refine below_set ?_ GE0c.out | refine below_set ?_ GE0d.out) | exact HB.out)) hb); have n5_ := zm (hbox); have n6_ := zm ((by rw [hg]; exact (below_size (by repeat (first | (with_reducible first | exact HB.out | apply below_alloc | apply pw_below_drewN | apply below_drew1 | refine below_set ?_ (IsS81.ge HI596.out) | refine below_set ?_ GE0c.out | refine below_set ?_ GE0d.out) | exact HB.out))) : w.heap.size ≤ gb0m)); have n7_ := zm ((by rw [hg]; exact (below_size (by repeat (first | (with_reducible first | exact HB.out | apply below_alloc | apply pw_below_drewN | apply below_drew1 | refine below_set ?_ (IsS81.ge HI596.out) | refine below_set ?_ GE0c.out | refine below_set ?_ GE0d.out) | exact HB.out))) : w.heap.size ≤ gb0m)); have n8_ := zm ((by rw [hg]; exact Nat.ne_of_lt (blk_lt (g := gb0c) (o := .cells #[.bool false, .slice none 0 0] 27 (0, 0)) (zk BK0c.out)) : gb0c ≠ gb0m)); have n9_ := zm ((by rw [hg]; exact Nat.ne_of_gt (blk_lt (g := gb0c) (o := .cells #[.bool false, .slice none 0 0] 27 (0, 0)) (zk BK0c.out)) : gb0m ≠ gb0c)); have n10_ := zm ((by rw [hg]; exact Nat.ne_of_lt (blk_lt (g := gb0d) (o := .cells #[.bool false, .slice none 0 0] 27 (0, 0)) (zk BK0d.out)) : gb0d ≠ gb0m)); have n11_ := zm ((by rw [hg]; exact Nat.ne_of_gt (blk_lt (g := gb0d) (o := .cells #[.bool false, .slice none 0 0] 27 (0, 0)) (zk BK0d.out)) : gb0m ≠ gb0d)); have n12_ := zm ((by rw [hg]; exact Nat.ne_of_lt (IsS81.lt (show IsS81 w _ g596 t0e t0l from by repeat (first | (with_reducible first | exact HI596.out | apply IsS81.alloc | apply IsS81.drewN | apply IsS81.drew | apply IsS81.set_1 | refine IsS81.far ?_ NB0g_0c.out _ | refine IsS81.far ?_ NB0g_0d.out _) | exact HI596.out))) : g596 ≠ gb0m)); have n13_ := zm ((by rw [hg]; exact Nat.ne_of_gt (IsS81.lt (show IsS81 w _ g596 t0e t0l from by repeat (first | (with_reducible first | exact HI596.out | apply IsS81.alloc | apply IsS81.drewN | apply IsS81.drew | apply IsS81.set_1 | refine IsS81.far ?_ NB0g_0c.out _ | refine IsS81.far ?_ NB0g_0d.out _) | exact HI596.out))) : gb0m ≠ g596)); clear HO0k; clear BK0c; clear BK0d; clear HI596; clear HB; have HO0k := n0_; have BK0c := n1_; have BK0d := n2_; have HI596 := n3_; have HB := n4_; have BK0m := n5_; have GW0m := n6_; have GE0m := n7_; have NB0c_0m := n8_; have NB0m_0c := n9_; have NB0d_0m := n10_; have NB0m_0d := n11_; have NB0g_0m := n12_; have NB0m_0g := n13_; clear n0_ n1_ n2_ n3_ n4_ n5_ n6_ n7_ n8_ n9_ n10_ n11_ n12_ n13_; clear hb hbox hg; have hnb12 := NB0m_0c.out; have hnc12 := NB0c_0m.out; have hnb13 := NB0m_0d.out; have hnc13 := NB0d_0m.out; have hnb14 := NB0m_0g.out; have hnc14 := NB0g_0m.out; have hcz15_0 : w11.cell? ⟨gb0m, 0, none⟩ = some (.bool false) := (blk_cell BK0m.out 0).trans rfl; have hcz15_1 : w11.cell? ⟨gb0m, 1, none⟩ = some (.slice none 0 0) := (blk_cell BK0m.out 1).trans rfl; have hfz15_0 := blk_frozen BK0m.out 0; have hfz15_1 := blk_frozen BK0m.out 1; obtain ⟨Ao16, co16, eo16⟩ := Kd.R_slice HO0k.out; subst eo16) | ((with_reducible refine gate_callee (f := 64) rfl ?_); refine goesL_ (some 11) rfl rfl Try.func64 (by kernel_rfl) rfl #[.pointer (some ⟨g596, 0, none⟩), .int .i64 8] rfl za ?_; (with_reducible refine (spec_l1Rd_pick.calls k g596 t0e t0l 8 t0n t0o w _ ?side1 ?side2 A4.out).mono ?_); (case side1 => repeat (first | (with_reducible first | exact HI596.out | apply IsS81.alloc | apply IsS81.drewN | apply IsS81.drew | apply IsS81.set_1 | refine IsS81.far ?_ NB0g_0c.out _ | refine IsS81.far ?_ NB0g_0d.out _ | refine IsS81.far ?_ NB0g_0m.out _) | exact HI596.out)); (case side2 => repeat (first | (with_reducible first | exact HB.out | apply below_alloc | apply pw_below_drewN | apply below_drew1 | refine below_set ?_ (IsS81.ge HI596.out) | refine below_set ?_ GE0c.out | refine below_set ?_ GE0d.out | refine below_set ?_ GE0m.out) | exact HB.out)); rintro e w17 ⟨rfl, hi, hb, hk⟩; refine ⟨_, rfl, ?_⟩; have n0_ := zm (KeepBut.blk hk (g' := gb0c) (o := .cells #[.bool false, .slice none 0 0] 27 (0, 0)) (zk BK0c.out) NB0c_0g.out (by simp)); have n1_ := zm (KeepBut.blk hk (g' := gb0d) (o := .cells #[.bool false, .slice none 0 0] 27 (0, 0)) (zk BK0d.out) NB0d_0g.out (by simp)); have n2_ := zm (Kd.R_mono (Kd.R_keep (IsS81.apart (show IsS81 w _ g596 t0e t0l from by repeat (first | (with_reducible first | exact HI596.out | apply IsS81.alloc | apply IsS81.drewN | apply IsS81.drew | apply IsS81.set_1 | refine IsS81.far ?_ NB0g_0c.out _ | refine IsS81.far ?_ NB0g_0d.out _ | refine IsS81.far ?_ NB0g_0m.out _) | exact HI596.out)) (zR ((Kd.R_mono (Kd.R_far (p := ⟨gb0m, 1, none⟩) (Kd.R_far (p := ⟨gb0m, 0, none⟩) (Kd.R_types HO0k.out BK0m.out (by decide)) (fun _ hk => hk.2) (.bool t0h)) (fun _ hk => hk.2) (.slice Ao16 t0i.length co16)) (fun _ h_ => h_.1)))) (by decide)) hk (fun _ h => h.2)) (fun _ h => h.1)); have n3_ := zm (KeepBut.blk hk (g' := gb0m) (o := .cells #[.bool t0h, .slice Ao16 t0i.length co16] 27 (0, 0)) (by (with_reducible repeat (first | refine blk_drewN ?_ _ | refine blk_drew ?_ | refine blk_alloc ?_ _)); refine blk_put (cs := #[.bool t0h, .slice none 0 0]) ?_ 1 _ rfl; (with_reducible repeat (first | refine blk_drewN ?_ _ | refine blk_drew ?_ | refine blk_alloc ?_ _)); refine blk_put (cs := #[.bool false, .slice none 0 0]) ?_ 0 _ rfl; (with_reducible repeat (first | refine blk_drewN ?_ _ | refine blk_drew ?_ | refine blk_alloc ?_ _)); exact BK0m.out) NB0m_0g.out (by simp)); have n4_ := zm (hb); have n5_ := zm (hi); clear BK0c; clear BK0d; clear HO0k; clear BK0m; clear HB; clear HI596; have BK0c := n0_; have BK0d := n1_; have HO0k := n2_; have BK0m := n3_; have HB := n4_; have HI596 := n5_; clear n0_ n1_ n2_ n3_ n4_ n5_; (try clear hb); (try clear hb2); (try clear hk); (try clear hi)))
    have n0_ := zm (Kd.R_drew HO0k.out); have n1_ := zm (blk_drew BK0c.out); have n2_ := zm (blk_drew BK0d.out); have n3_ := zm (blk_drew BK0m.out); have n4_ := zm (IsS81.drew HI596.out); have n5_ := zm (below_drew1 HB.out); clear HO0k; clear BK0c; clear BK0d; clear BK0m; clear HI596; clear HB; have HO0k := n0_; have BK0c := n1_; have BK0d := n2_; have BK0m := n3_; have HI596 := n4_; have HB := n5_; clear n0_ n1_ n2_ n3_ n4_ n5_; (refine start_ (n := 5) (S := fun w' => w'.cell? ⟨gb0m, 0, none⟩ = some (.bool t0h) ∧ w'.cell? ⟨gb0m, 1, none⟩ = some (.slice Ao16 t0i.length co16)) (ds := []) #[false, false, false, false, false] (by kernel_rfl) rfl rfl ⟨(blk_cell BK0m.out 0).trans rfl, (blk_cell BK0m.out 1).trans rfl⟩ (fun hHeld => ?_))
    generalize w17.drew = w18 at HO0k BK0c BK0d BK0m HI596 HB hHeld ⊢
    (refine pure_ (i := 1) (N := some 14) (v := ?_) (a' := ?_) #[false, true, false, false, false] rfl rfl (by kernel_rfl) (fun _ _ _ h => h) (Or.inl ⟨by rfl, ?_⟩) ?_ ?_); rotate_left
    · intro w'
      go_simp
      with_reducible rfl
    rotate_left
    · simp only [Act.put, zs, zs0, zs1, i64_w, i32_w]
      rfl
    (refine take_ (i := 0) (N := some 13) (v := ?_) (a' := ?_) #[true, true, false, false, false] rfl rfl (by kernel_rfl) (fun _ _ _ h => h) (Or.inl ⟨by rfl, ?_⟩) hHeld ?_ ?_); rotate_left
    · rintro w' ⟨s0, s1⟩
      go_simp
      with_reducible rfl
    rotate_left
    · simp only [Act.put, zs, zs0, zs1, i64_w, i32_w]
      rfl
    (refine one_ (i := 2) (N := some 15) #[true, true, true, false, false] rfl rfl (by kernel_rfl) (by decide) (fun K hK => ?_)); (refine goes_ Try.func80 (by kernel_rfl) rfl #[.pointer (some ⟨g596, 0, none⟩)] (by rfl) rfl rfl za ?_)
    with_reducible refine (spec_l14AnyBig.calls k g596 t0e t0o t0p t0q t0t w _ ?side1 ?side2 A6.out).mono ?_
    (case side1 => repeat (first | (with_reducible first | exact HI596.out | apply IsS81.alloc | apply IsS81.drewN | apply IsS81.drew | apply IsS81.set_1 | refine IsS81.far ?_ NB0g_0c.out _ | refine IsS81.far ?_ NB0g_0d.out _ | refine IsS81.far ?_ NB0g_0m.out _) | exact HI596.out)); (case side2 => repeat (first | (with_reducible first | exact HB.out | apply below_alloc | apply pw_below_drewN | apply below_drew1 | refine below_set ?_ (IsS81.ge HI596.out) | refine below_set ?_ GE0c.out | refine below_set ?_ GE0d.out | refine below_set ?_ GE0m.out) | exact HB.out)); rintro e w19 ⟨v0r, rfl, ho0, hi, hb, hk⟩; (refine ⟨_, rfl, ?_⟩); have n0_ := zm (KeepBut.blk hk (g' := gb0c) (o := .cells #[.bool false, .slice none 0 0] 27 (0, 0)) (zk BK0c.out) NB0c_0g.out (by simp)); have n1_ := zm (KeepBut.blk hk (g' := gb0d) (o := .cells #[.bool false, .slice none 0 0] 27 (0, 0)) (zk BK0d.out) NB0d_0g.out (by simp)); have n2_ := zm (Kd.R_mono (Kd.R_told (Kd.R_oldK (IsS81.apart (show IsS81 w _ g596 t0e t0o from by repeat (first | (with_reducible first | exact HI596.out | apply IsS81.alloc | apply IsS81.drewN | apply IsS81.drew | apply IsS81.set_1 | refine IsS81.far ?_ NB0g_0c.out _ | refine IsS81.far ?_ NB0g_0d.out _ | refine IsS81.far ?_ NB0g_0m.out _) | exact HI596.out)) (zR HO0k.out) (by decide)) hk) (Kd.R_base ho0)) (fun _ h_ => h_.1)); have n3_ := zm (KeepBut.blk hk (g' := gb0m) (o := .cells #[.bool t0h, .slice Ao16 t0i.length co16] 27 (0, 0)) (zk BK0m.out) NB0m_0g.out (by simp)); have n4_ := zm (Kd.R_lower (Kd.R_new' ho0 (Kd.R_lt (zR HO0k.out))) (below_size (by repeat (first | (with_reducible first | exact HB.out | apply below_alloc | apply pw_below_drewN | apply below_drew1 | refine below_set ?_ (IsS81.ge HI596.out) | refine below_set ?_ GE0c.out | refine below_set ?_ GE0d.out | refine below_set ?_ GE0m.out) | exact HB.out)))); have n5_ := zm (hb); have n6_ := zm (hi); clear BK0c; clear BK0d; clear HO0k; clear BK0m; clear HB; clear HI596; have BK0c := n0_; have BK0d := n1_; have HO0k := n2_; have BK0m := n3_; have HO0s := n4_; have HB := n5_; have HI596 := n6_; clear n0_ n1_ n2_ n3_ n4_ n5_ n6_; (try clear hb); (try clear hb2); (try clear hk); (try clear hi); (try clear ho0); obtain ⟨Ao23, co23, eo23⟩ := Kd.R_slice HO0s.out; (first | subst eo23 | (injection eo23 with f1_ f2_ f3_; have f4_ := f1_.symm; have f5_ := f3_.symm; clear f1_ f2_ f3_; subst f4_; subst f5_)); (refine hK.out _ _ ⟨(blk_cell BK0m.out 0).trans rfl, (blk_cell BK0m.out 1).trans rfl⟩ (fun hHeld => ?_)); clear hK K
    refine norm_ (a' := ?_) ?_ ?_
    rotate_left
    · show Act.put _ (some 15) _ = _
      simp only [Act.put, zs, zs0, zs1, i64_w, i32_w]
      rfl
    (refine one_ (i := 3) (N := none) #[true, true, true, true, false] rfl rfl (by kernel_rfl) (by decide) (fun K hK => ?_)); have hs20 : w19.cell? ⟨gb0c, 0, none⟩ = some (.bool false) := (blk_cell BK0c.out 0).trans rfl; have hfs20 := blk_frozen BK0c.out 0; have hns20_1 := NB0d_0c.out; have hns20_2 := NB0m_0c.out; have hms20_1 := NB0c_0d.out; have hms20_2 := NB0c_0m.out; have hs21 : w19.cell? ⟨gb0c, 1, none⟩ = some (.slice none 0 0) := (blk_cell BK0c.out 1).trans rfl; have hfs21 := blk_frozen BK0c.out 1; have hns21_1 := NB0d_0c.out; have hns21_2 := NB0m_0c.out; have hms21_1 := NB0c_0d.out; have hms21_2 := NB0c_0m.out; (refine skip_ (w1 := ?_) (by rfl) rfl ?_ ?_); rotate_left
    · go_simp
      rfl
    (refine hK.out _ _ ⟨((cell_far (p := ⟨gb0c, _, none⟩) NB0m_0c.out _).trans (((cell_far (p := ⟨gb0c, _, none⟩) NB0m_0c.out _).trans (hHeld.1)))), ((cell_far (p := ⟨gb0c, _, none⟩) NB0m_0c.out _).trans (((cell_far (p := ⟨gb0c, _, none⟩) NB0m_0c.out _).trans (hHeld.2))))⟩ (fun hHeld => ?_)); clear hK K; (refine one_ (i := 4) (N := none) #[true, true, true, true, true] rfl rfl (by kernel_rfl) (by decide) (fun K hK => ?_)); have hs22 : w19.cell? ⟨gb0d, 0, none⟩ = some (.bool false) := (blk_cell BK0d.out 0).trans rfl; have hfs22 := blk_frozen BK0d.out 0; have hns22_0 := NB0c_0d.out; have hns22_2 := NB0m_0d.out; have hms22_0 := NB0d_0c.out; have hms22_2 := NB0d_0m.out; have hs24 : w19.cell? ⟨gb0d, 1, none⟩ = some (.slice none 0 0) := (blk_cell BK0d.out 1).trans rfl; have hfs24 := blk_frozen BK0d.out 1; have hns24_0 := NB0c_0d.out; have hns24_2 := NB0m_0d.out; have hms24_0 := NB0d_0c.out; have hms24_2 := NB0d_0m.out; (refine skip_ (w1 := ?_) (by rfl) rfl ?_ ?_); rotate_left
    · go_simp
      rfl
    (refine hK.out _ _ ⟨((cell_far (p := ⟨gb0d, _, none⟩) NB0m_0d.out _).trans (((cell_far (p := ⟨gb0d, _, none⟩) NB0m_0d.out _).trans (hHeld.1)))), ((cell_far (p := ⟨gb0d, _, none⟩) NB0m_0d.out _).trans (((cell_far (p := ⟨gb0d, _, none⟩) NB0m_0d.out _).trans (hHeld.2))))⟩ (fun hHeld => ?_)); clear hK K; (refine done_ (by kernel_rfl) ?_); (try go_wp2); (refine bodyPost_ret (results_cc rfl _ _ gb0c gb0d 27 27 #[.bool t0h, .slice Ao16 t0i.length co16] #[.bool t0p, .slice Ao23 t0q.length co23] (0, 0) (0, 0) _ _ rfl (by (with_reducible repeat (first | refine blk_drewN ?_ _ | refine blk_drew ?_ | refine blk_alloc ?_ _)); refine blk_far ?_ NB0c_0d.out _; (with_reducible repeat (first | refine blk_drewN ?_ _ | refine blk_drew ?_ | refine blk_alloc ?_ _)); refine blk_far ?_ NB0c_0d.out _; (with_reducible repeat (first | refine blk_drewN ?_ _ | refine blk_drew ?_ | refine blk_alloc ?_ _)); refine blk_put (cs := #[.bool t0h, .slice none 0 0]) ?_ 1 _ rfl; (with_reducible repeat (first | refine blk_drewN ?_ _ | refine blk_drew ?_ | refine blk_alloc ?_ _)); refine blk_put (cs := #[.bool false, .slice none 0 0]) ?_ 0 _ rfl; (with_reducible repeat (first | refine blk_drewN ?_ _ | refine blk_drew ?_ | refine blk_alloc ?_ _)); exact BK0c.out) Try.underlying27 rfl (by kernel_rfl) rfl (by (with_reducible repeat (first | refine blk_drewN ?_ _ | refine blk_drew ?_ | refine blk_alloc ?_ _)); refine blk_put (cs := #[.bool t0p, .slice none 0 0]) ?_ 1 _ rfl; (with_reducible repeat (first | refine blk_drewN ?_ _ | refine blk_drew ?_ | refine blk_alloc ?_ _)); refine blk_put (cs := #[.bool false, .slice none 0 0]) ?_ 0 _ rfl; (with_reducible repeat (first | refine blk_drewN ?_ _ | refine blk_drew ?_ | refine blk_alloc ?_ _)); refine blk_far ?_ NB0d_0c.out _; (with_reducible repeat (first | refine blk_drewN ?_ _ | refine blk_drew ?_ | refine blk_alloc ?_ _)); refine blk_far ?_ NB0d_0c.out _; (with_reducible repeat (first | refine blk_drewN ?_ _ | refine blk_drew ?_ | refine blk_alloc ?_ _)); exact BK0d.out) Try.underlying27 rfl (by kernel_rfl)) rfl ?_); (exact ⟨_, _, by first | rfl | (simp [errW_none, errW_some] <;> rfl) | (simp [*, errW_none, errW_some] <;> rfl), by (with_reducible repeat (first | apply Kd.R_alloc | apply Kd.R_drewN | apply Kd.R_drew)); exact Kd.R_mono (Kd.R_far (p := ⟨gb0d, 1, none⟩) (Kd.R_far (p := ⟨gb0d, 0, none⟩) (Kd.R_far (p := ⟨gb0c, 1, none⟩) (Kd.R_far (p := ⟨gb0c, 0, none⟩) (Kd.R_types (Kd.R_types HO0k.out BK0c.out (by decide)) BK0d.out (by decide)) (fun _ hk => hk.1.2) (.bool t0h)) (fun _ hk => hk.1.2) (.slice Ao16 t0i.length co16)) (fun _ hk => hk.2) (.bool t0p)) (fun _ hk => hk.2) (.slice Ao23 t0q.length co23)) (fun _ hk => hk.1.1.2), by (with_reducible repeat (first | apply Kd.R_alloc | apply Kd.R_drewN | apply Kd.R_drew)); exact Kd.R_mono (Kd.R_far (p := ⟨gb0d, 1, none⟩) (Kd.R_far (p := ⟨gb0d, 0, none⟩) (Kd.R_far (p := ⟨gb0c, 1, none⟩) (Kd.R_far (p := ⟨gb0c, 0, none⟩) (Kd.R_types (Kd.R_types HO0s.out BK0c.out (by decide)) BK0d.out (by decide)) (fun _ hk => hk.1.2) (.bool t0h)) (fun _ hk => hk.1.2) (.slice Ao16 t0i.length co16)) (fun _ hk => hk.2) (.bool t0p)) (fun _ hk => hk.2) (.slice Ao23 t0q.length co23)) (fun _ hk => hk.1.1.2), by repeat (first | (with_reducible first | exact HB.out | apply below_alloc | apply pw_below_drewN | apply below_drew1 | refine below_set ?_ (IsS81.ge HI596.out) | refine below_set ?_ GE0c.out | refine below_set ?_ GE0d.out | refine below_set ?_ GE0m.out) | exact HB.out)⟩)
  · rw [if_neg c5] at H
    have c5b0 : (t0n == 0) = false := beq_eq_false_iff_ne.mpr c5; have c5b1 : (t0n != 0) = true := bne_iff_ne.mpr c5; replace H := Option.bind_eq_some_iff.mp H; obtain ⟨⟨t0u, t0v⟩, A0a, H⟩ := H; replace H : ((spec_l14Big.f k t0e t0v (wrap64 (1 + t0u))).bind fun bt0w => (some (t0h, t0i, bt0w.1, bt0w.2.1))) = some (r1, r2, r3, r4) := H; have A25 := zm A0a; clear A0a; replace H := Option.bind_eq_some_iff.mp H; obtain ⟨⟨t0w, t0x, t1a⟩, A0b, H⟩ := H; replace H : (some (t0h, t0i, t0w, t0x)) = some (r1, r2, r3, r4) := H; have A26 := zm A0b; clear A0b; simp only [Option.some.injEq, Prod.mk.injEq] at H; obtain ⟨rfl, rfl, rfl, rfl⟩ := H; go_enter Try.func47, Try.ntmps47
    try go_wp2_with (first | ((with_reducible refine gate_dst (N := 2) rfl ?_); refine box_event ?hg (N := 2) ?hd (cs := #[.bool false, .slice none 0 0]) (t := 27) ?hr ?_; (case hd => rfl); (case hg => rfl); (case hr => first | (go_simp; done) | (go_simp; rfl)); intro gb0c hg w27 hbox hb; have n0_ := zm (below_step zb hb); have n1_ := zm (hbox); have n2_ := zm ((by rw [hg]; exact (below_size zb) : w.heap.size ≤ gb0c)); have n3_ := zm ((by rw [hg]; exact (below_size zb) : w.heap.size ≤ gb0c)); clear HB; have HB := n0_; have BK0c := n1_; have GW0c := n2_; have GE0c := n3_; clear n0_ n1_ n2_ n3_; clear hb hbox hg) | ((with_reducible refine gate_dst (N := 3) rfl ?_); refine box_event ?hg (N := 3) ?hd (cs := #[.bool false, .slice none 0 0]) (t := 27) ?hr ?_; (case hd => rfl); (case hg => rfl); (case hr => first | (go_simp; done) | (go_simp; rfl)); intro gb0d hg w28 hbox hb; have n0_ := zm (blk_below (g := gb0c) (o := .cells #[.bool false, .slice none 0 0] 27 (0, 0)) (zk BK0c.out) hb); have n1_ := zm (below_step zb hb); have n2_ := zm (hbox); have n3_ := zm ((by rw [hg]; exact (below_size zb) : w.heap.size ≤ gb0d)); have n4_ := zm ((by rw [hg]; exact (below_size zb) : w.heap.size ≤ gb0d)); have n5_ := zm ((by rw [hg]; exact Nat.ne_of_lt (blk_lt (g := gb0c) (o := .cells #[.bool false, .slice none 0 0] 27 (0, 0)) (zk BK0c.out)) : gb0c ≠ gb0d)); have n6_ := zm ((by rw [hg]; exact Nat.ne_of_gt (blk_lt (g := gb0c) (o := .cells #[.bool false, .slice none 0 0] 27 (0, 0)) (zk BK0c.out)) : gb0d ≠ gb0c)); clear BK0c; clear HB; have BK0c := n0_; have HB := n1_; have BK0d := n2_; have GW0d := n3_; have GE0d := n4_; have NB0c_0d := n5_; have NB0d_0c := n6_; clear n0_ n1_ n2_ n3_ n4_ n5_ n6_; clear hb hbox hg) | ((with_reducible refine gate_callee (f := 63) rfl ?_); refine goesL_ (some 7) rfl rfl Try.func63 (by kernel_rfl) rfl #[.slice A0 l0.length c0] rfl za ?_; (with_reducible refine (spec_l1Open.calls _ _ l0 t0e t0f w _ ?side1 ?side2 ?side3 A2.out).mono ?_); (case side1 => repeat (first | (with_reducible first | exact HB.out | apply below_alloc | apply pw_below_drewN | apply below_drew1 | refine below_set ?_ GE0c.out | refine below_set ?_ GE0d.out) | exact HB.out)); (case side2 => exact HR0.out); (case side3 => exact HC0.out); rintro e w29 ⟨g596, rfl, hi, hb, hb2⟩; refine ⟨_, rfl, ?_⟩; have n0_ := zm (blk_below (g := gb0c) (o := .cells #[.bool false, .slice none 0 0] 27 (0, 0)) (zk BK0c.out) hb2); have n1_ := zm (blk_below (g := gb0d) (o := .cells #[.bool false, .slice none 0 0] 27 (0, 0)) (zk BK0d.out) hb2); have n2_ := zm (hb); have n3_ := zm (hi); have n4_ := zm (IsS81.ne_blk hi (blk_below (g := gb0c) (o := .cells #[.bool false, .slice none 0 0] 27 (0, 0)) (zk BK0c.out) hb2) (by decide)); have n5_ := zm (Ne.symm (IsS81.ne_blk hi (blk_below (g := gb0c) (o := .cells #[.bool false, .slice none 0 0] 27 (0, 0)) (zk BK0c.out) hb2) (by decide))); have n6_ := zm (IsS81.ne_blk hi (blk_below (g := gb0d) (o := .cells #[.bool false, .slice none 0 0] 27 (0, 0)) (zk BK0d.out) hb2) (by decide)); have n7_ := zm (Ne.symm (IsS81.ne_blk hi (blk_below (g := gb0d) (o := .cells #[.bool false, .slice none 0 0] 27 (0, 0)) (zk BK0d.out) hb2) (by decide))); clear BK0c; clear BK0d; clear HB; have BK0c := n0_; have BK0d := n1_; have HB := n2_; have HI596 := n3_; have NB0g_0c := n4_; have NB0c_0g := n5_; have NB0g_0d := n6_; have NB0d_0g := n7_; clear n0_ n1_ n2_ n3_ n4_ n5_ n6_ n7_; (try clear hb); (try clear hb2); (try clear hk); (try clear hi)) | ((with_reducible refine gate_callee (f := 80) rfl ?_); refine goesL_ (some 9) rfl rfl Try.func80 (by kernel_rfl) rfl #[.pointer (some ⟨g596, 0, none⟩)] rfl za ?_; (with_reducible refine (spec_l14AnyBig.calls k g596 t0e t0f t0h t0i t0l w _ ?side1 ?side2 A3.out).mono ?_); (case side1 => repeat (first | (with_reducible first | exact HI596.out | apply IsS81.alloc | apply IsS81.drewN | apply IsS81.drew | apply IsS81.set_1 | refine IsS81.far ?_ NB0g_0c.out _ | refine IsS81.far ?_ NB0g_0d.out _) | exact HI596.out)); (case side2 => repeat (first | (with_reducible first | exact HB.out | apply below_alloc | apply pw_below_drewN | apply below_drew1 | refine below_set ?_ (IsS81.ge HI596.out) | refine below_set ?_ GE0c.out | refine below_set ?_ GE0d.out) | exact HB.out)); rintro e w30 ⟨v0j, rfl, ho0, hi, hb, hk⟩; refine ⟨_, rfl, ?_⟩; have n0_ := zm (KeepBut.blk hk (g' := gb0c) (o := .cells #[.bool false, .slice none 0 0] 27 (0, 0)) (zk BK0c.out) NB0c_0g.out (by simp)); have n1_ := zm (KeepBut.blk hk (g' := gb0d) (o := .cells #[.bool false, .slice none 0 0] 27 (0, 0)) (zk BK0d.out) NB0d_0g.out (by simp)); have n2_ := zm (Kd.R_lower ho0 (below_size (by repeat (first | (with_reducible first | exact HB.out | apply below_alloc | apply pw_below_drewN | apply below_drew1 | refine below_set ?_ (IsS81.ge HI596.out) | refine below_set ?_ GE0c.out | refine below_set ?_ GE0d.out) | exact HB.out)))); have n3_ := zm (hb); have n4_ := zm (hi); clear BK0c; clear BK0d; clear HB; clear HI596; have BK0c := n0_; have BK0d := n1_; have HO0k := n2_; have HB := n3_; have HI596 := n4_; clear n0_ n1_ n2_ n3_ n4_; (try clear hb); (try clear hb2); (try clear hk); (try clear hi); (try clear ho0)) | ((with_reducible refine gate_dst (N := 5) rfl ?_); refine box_event ?hg (N := 5) ?hd (cs := #[.bool false, .slice none 0 0]) (t := 27) ?hr ?_; (case hd => rfl); (case hg => rfl); (case hr => first | (go_simp; done) | (go_simp; rfl)); intro gb0m hg w31 hbox hb; have n0_ := zm (Kd.R_below (zR HO0k.out) hb); have n1_ := zm (blk_below (g := gb0c) (o := .cells #[.bool false, .slice none 0 0] 27 (0, 0)) (zk BK0c.out) hb); have n2_ := zm (blk_below (g := gb0d) (o := .cells #[.bool false, .slice none 0 0] 27 (0, 0)) (zk BK0d.out) hb); have n3_ := zm (IsS81.below (by repeat (first | (with_reducible first | exact HI596.out | apply IsS81.alloc | apply IsS81.drewN | apply IsS81.drew | apply IsS81.set_1 | refine IsS81.far ?_ NB0g_0c.out _ | refine IsS81.far ?_ NB0g_0d.out _) | exact HI596.out)) hb); have n4_ := zm (below_step (by repeat (first | (with_reducible first | exact HB.out | apply below_alloc | apply pw_below_drewN | apply below_drew1 | refine below_set ?_ (IsS81.ge HI596.out) | refine below_set ?_ GE0c.out | refine below_set ?_ GE0d.out) | exact HB.out)) hb); have n5_ := zm (hbox); have n6_ := zm ((by rw [hg]; exact (below_size (by repeat (first | (with_reducible first | exact HB.out | apply below_alloc | apply pw_below_drewN | apply below_drew1 | refine below_set ?_ (IsS81.ge HI596.out) | refine below_set ?_ GE0c.out | refine below_set ?_ GE0d.out) | exact HB.out))) : w.heap.size ≤ gb0m)); have n7_ := zm ((by rw [hg]; exact (below_size (by repeat (first | (with_reducible first | exact HB.out | apply below_alloc | apply pw_below_drewN | apply below_drew1 | refine below_set ?_ (IsS81.ge HI596.out) | refine below_set ?_ GE0c.out | refine below_set ?_ GE0d.out) | exact HB.out))) : w.heap.size ≤ gb0m)); have n8_ := zm ((by rw [hg]; exact Nat.ne_of_lt (blk_lt (g := gb0c) (o := .cells #[.bool false, .slice none 0 0] 27 (0, 0)) (zk BK0c.out)) : gb0c ≠ gb0m)); have n9_ := zm ((by rw [hg]; exact Nat.ne_of_gt (blk_lt (g := gb0c) (o := .cells #[.bool false, .slice none 0 0] 27 (0, 0)) (zk BK0c.out)) : gb0m ≠ gb0c)); have n10_ := zm ((by rw [hg]; exact Nat.ne_of_lt (blk_lt (g := gb0d) (o := .cells #[.bool false, .slice none 0 0] 27 (0, 0)) (zk BK0d.out)) : gb0d ≠ gb0m)); have n11_ := zm ((by rw [hg]; exact Nat.ne_of_gt (blk_lt (g := gb0d) (o := .cells #[.bool false, .slice none 0 0] 27 (0, 0)) (zk BK0d.out)) : gb0m ≠ gb0d)); have n12_ := zm ((by rw [hg]; exact Nat.ne_of_lt (IsS81.lt (show IsS81 w _ g596 t0e t0l from by repeat (first | (with_reducible first | exact HI596.out | apply IsS81.alloc | apply IsS81.drewN | apply IsS81.drew | apply IsS81.set_1 | refine IsS81.far ?_ NB0g_0c.out _ | refine IsS81.far ?_ NB0g_0d.out _) | exact HI596.out))) : g596 ≠ gb0m)); have n13_ := zm ((by rw [hg]; exact Nat.ne_of_gt (IsS81.lt (show IsS81 w _ g596 t0e t0l from by repeat (first | (with_reducible first | exact HI596.out | apply IsS81.alloc | apply IsS81.drewN | apply IsS81.drew | apply IsS81.set_1 | refine IsS81.far ?_ NB0g_0c.out _ | refine IsS81.far ?_ NB0g_0d.out _) | exact HI596.out))) : gb0m ≠ g596)); clear HO0k; clear BK0c; clear BK0d; clear HI596; clear HB; have HO0k := n0_; have BK0c := n1_; have BK0d := n2_; have HI596 := n3_; have HB := n4_; have BK0m := n5_; have GW0m := n6_; have GE0m := n7_; have NB0c_0m := n8_; have NB0m_0c := n9_; have NB0d_0m := n10_; have NB0m_0d := n11_; have NB0g_0m := n12_; have NB0m_0g := n13_; clear n0_ n1_ n2_ n3_ n4_ n5_ n6_ n7_ n8_ n9_ n10_ n11_ n12_ n13_; clear hb hbox hg; have hnb32 := NB0m_0c.out; have hnc32 := NB0c_0m.out; have hnb33 := NB0m_0d.out; have hnc33 := NB0d_0m.out; have hnb34 := NB0m_0g.out; have hnc34 := NB0g_0m.out; have hcz35_0 : w31.cell? ⟨gb0m, 0, none⟩ = some (.bool false) := (blk_cell BK0m.out 0).trans rfl; have hcz35_1 : w31.cell? ⟨gb0m, 1, none⟩ = some (.slice none 0 0) := (blk_cell BK0m.out 1).trans rfl; have hfz35_0 := blk_frozen BK0m.out 0; have hfz35_1 := blk_frozen BK0m.out 1; obtain ⟨Ao36, co36, eo36⟩ := Kd.R_slice HO0k.out; subst eo36) | ((with_reducible refine gate_callee (f := 64) rfl ?_); refine goesL_ (some 11) rfl rfl Try.func64 (by kernel_rfl) rfl #[.pointer (some ⟨g596, 0, none⟩), .int .i64 8] rfl za ?_; (with_reducible refine (spec_l1Rd_pick.calls k g596 t0e t0l 8 t0n t0o w _ ?side1 ?side2 A4.out).mono ?_); (case side1 => repeat (first | (with_reducible first | exact HI596.out | apply IsS81.alloc | apply IsS81.drewN | apply IsS81.drew | apply IsS81.set_1 | refine IsS81.far ?_ NB0g_0c.out _ | refine IsS81.far ?_ NB0g_0d.out _ | refine IsS81.far ?_ NB0g_0m.out _) | exact HI596.out)); (case side2 => repeat (first | (with_reducible first | exact HB.out | apply below_alloc | apply pw_below_drewN | apply below_drew1 | refine below_set ?_ (IsS81.ge HI596.out) | refine below_set ?_ GE0c.out | refine below_set ?_ GE0d.out | refine below_set ?_ GE0m.out) | exact HB.out)); rintro e w37 ⟨rfl, hi, hb, hk⟩; refine ⟨_, rfl, ?_⟩; have n0_ := zm (KeepBut.blk hk (g' := gb0c) (o := .cells #[.bool false, .slice none 0 0] 27 (0, 0)) (zk BK0c.out) NB0c_0g.out (by simp)); have n1_ := zm (KeepBut.blk hk (g' := gb0d) (o := .cells #[.bool false, .slice none 0 0] 27 (0, 0)) (zk BK0d.out) NB0d_0g.out (by simp)); have n2_ := zm (Kd.R_mono (Kd.R_keep (IsS81.apart (show IsS81 w _ g596 t0e t0l from by repeat (first | (with_reducible first | exact HI596.out | apply IsS81.alloc | apply IsS81.drewN | apply IsS81.drew | apply IsS81.set_1 | refine IsS81.far ?_ NB0g_0c.out _ | refine IsS81.far ?_ NB0g_0d.out _ | refine IsS81.far ?_ NB0g_0m.out _) | exact HI596.out)) (zR ((Kd.R_mono (Kd.R_far (p := ⟨gb0m, 1, none⟩) (Kd.R_far (p := ⟨gb0m, 0, none⟩) (Kd.R_types HO0k.out BK0m.out (by decide)) (fun _ hk => hk.2) (.bool t0h)) (fun _ hk => hk.2) (.slice Ao36 t0i.length co36)) (fun _ h_ => h_.1)))) (by decide)) hk (fun _ h => h.2)) (fun _ h => h.1)); have n3_ := zm (KeepBut.blk hk (g' := gb0m) (o := .cells #[.bool t0h, .slice Ao36 t0i.length co36] 27 (0, 0)) (by (with_reducible repeat (first | refine blk_drewN ?_ _ | refine blk_drew ?_ | refine blk_alloc ?_ _)); refine blk_put (cs := #[.bool t0h, .slice none 0 0]) ?_ 1 _ rfl; (with_reducible repeat (first | refine blk_drewN ?_ _ | refine blk_drew ?_ | refine blk_alloc ?_ _)); refine blk_put (cs := #[.bool false, .slice none 0 0]) ?_ 0 _ rfl; (with_reducible repeat (first | refine blk_drewN ?_ _ | refine blk_drew ?_ | refine blk_alloc ?_ _)); exact BK0m.out) NB0m_0g.out (by simp)); have n4_ := zm (hb); have n5_ := zm (hi); clear BK0c; clear BK0d; clear HO0k; clear BK0m; clear HB; clear HI596; have BK0c := n0_; have BK0d := n1_; have HO0k := n2_; have BK0m := n3_; have HB := n4_; have HI596 := n5_; clear n0_ n1_ n2_ n3_ n4_ n5_; (try clear hb); (try clear hb2); (try clear hk); (try clear hi)))
    have n0_ := zm (Kd.R_drew HO0k.out); have n1_ := zm (blk_drew BK0c.out); have n2_ := zm (blk_drew BK0d.out); have n3_ := zm (blk_drew BK0m.out); have n4_ := zm (IsS81.drew HI596.out); have n5_ := zm (below_drew1 HB.out); clear HO0k; clear BK0c; clear BK0d; clear BK0m; clear HI596; clear HB; have HO0k := n0_; have BK0c := n1_; have BK0d := n2_; have BK0m := n3_; have HI596 := n4_; have HB := n5_; clear n0_ n1_ n2_ n3_ n4_ n5_; (refine start_ (n := 8) (S := fun w' => w'.cell? ⟨gb0m, 0, none⟩ = some (.bool t0h) ∧ w'.cell? ⟨gb0m, 1, none⟩ = some (.slice Ao36 t0i.length co36)) (ds := []) #[false, false, false, false, false, false, false, false] (by kernel_rfl) rfl rfl ⟨(blk_cell BK0m.out 0).trans rfl, (blk_cell BK0m.out 1).trans rfl⟩ (fun hHeld => ?_); refine with_tabW spec_DrawBigDiv.tab5 spec_DrawBigDiv.bits5 (fun HT_ HW_ => ?_))
    generalize w37.drew = w38 at HO0k BK0c BK0d BK0m HI596 HB hHeld ⊢
    (refine pure_ (i := 1) (N := some 17) (v := ?_) (a' := ?_) #[false, true, false, false, false, false, false, false] rfl rfl (any_of HT_.out (by kernel_rfl)) (fun _ _ _ h => h) (Or.inl ⟨by rfl, ?_⟩) ?_ ?_); rotate_left
    · intro w'
      go_simp
      with_reducible rfl
    rotate_left
    · simp only [Act.put, zs, zs0, zs1, i64_w, i32_w]
      rfl
    (refine pure_ (i := 2) (N := some 18) (v := ?_) (a' := ?_) #[false, true, true, false, false, false, false, false] rfl rfl (any_of HT_.out (by kernel_rfl)) (fun _ _ _ h => h) (Or.inl ⟨by rfl, ?_⟩) ?_ ?_); rotate_left
    · intro w'
      go_simp
      with_reducible rfl
    rotate_left
    · simp only [Act.put, zs, zs0, zs1, i64_w, i32_w]
      rfl
    (refine take_ (i := 0) (N := some 16) (v := ?_) (a' := ?_) #[true, true, true, false, false, false, false, false] rfl rfl (take_ofW HT_.out HW_.out (by kernel_rfl)) (fun _ _ _ h => h) (Or.inl ⟨by rfl, ?_⟩) hHeld ?_ ?_); rotate_left
    · rintro w' ⟨s0, s1⟩
      go_simp
      with_reducible rfl
    rotate_left
    · simp only [Act.put, zs, zs0, zs1, i64_w, i32_w]
      rfl
    (refine one_ (i := 3) (N := some 19) #[true, true, true, true, false, false, false, false] rfl rfl (one_of HT_.out (by kernel_rfl)) (by decide) (fun K hK => ?_)); (refine goes_ Try.func64 (by kernel_rfl) rfl #[.pointer (some ⟨g596, 0, none⟩), .int .i64 34] (by rfl) rfl rfl za ?_)
    with_reducible refine (spec_l1Rd_pick.calls k g596 t0e t0o 34 t0u t0v w _ ?side1 ?side2 A25.out).mono ?_
    (case side1 => repeat (first | (with_reducible first | exact HI596.out | apply IsS81.alloc | apply IsS81.drewN | apply IsS81.drew | apply IsS81.set_1 | refine IsS81.far ?_ NB0g_0c.out _ | refine IsS81.far ?_ NB0g_0d.out _ | refine IsS81.far ?_ NB0g_0m.out _) | exact HI596.out)); (case side2 => repeat (first | (with_reducible first | exact HB.out | apply below_alloc | apply pw_below_drewN | apply below_drew1 | refine below_set ?_ (IsS81.ge HI596.out) | refine below_set ?_ GE0c.out | refine below_set ?_ GE0d.out | refine below_set ?_ GE0m.out) | exact HB.out)); rintro e w39 ⟨rfl, hi, hb, hk⟩; (refine ⟨_, rfl, ?_⟩); have n0_ := zm (KeepBut.blk hk (g' := gb0c) (o := .cells #[.bool false, .slice none 0 0] 27 (0, 0)) (zk BK0c.out) NB0c_0g.out (by simp)); have n1_ := zm (KeepBut.blk hk (g' := gb0d) (o := .cells #[.bool false, .slice none 0 0] 27 (0, 0)) (zk BK0d.out) NB0d_0g.out (by simp)); have n2_ := zm (Kd.R_mono (Kd.R_keep (IsS81.apart (show IsS81 w _ g596 t0e t0o from by repeat (first | (with_reducible first | exact HI596.out | apply IsS81.alloc | apply IsS81.drewN | apply IsS81.drew | apply IsS81.set_1 | refine IsS81.far ?_ NB0g_0c.out _ | refine IsS81.far ?_ NB0g_0d.out _ | refine IsS81.far ?_ NB0g_0m.out _) | exact HI596.out)) (zR HO0k.out) (by decide)) hk (fun _ h => h.2)) (fun _ h => h.1)); have n3_ := zm (KeepBut.blk hk (g' := gb0m) (o := .cells #[.bool t0h, .slice Ao36 t0i.length co36] 27 (0, 0)) (zk BK0m.out) NB0m_0g.out (by simp)); have n4_ := zm (hb); have n5_ := zm (hi); clear BK0c; clear BK0d; clear HO0k; clear BK0m; clear HB; clear HI596; have BK0c := n0_; have BK0d := n1_; have HO0k := n2_; have BK0m := n3_; have HB := n4_; have HI596 := n5_; clear n0_ n1_ n2_ n3_ n4_ n5_; (try clear hb); (try clear hb2); (try clear hk); (try clear hi); (refine hK.out _ _ ⟨(blk_cell BK0m.out 0).trans rfl, (blk_cell BK0m.out 1).trans rfl⟩ (fun hHeld => ?_)); clear hK K
    refine norm_ (a' := ?_) ?_ ?_
    rotate_left
    · show Act.put _ (some 19) _ = _
      simp only [Act.put, zs, zs0, zs1, i64_w, i32_w]
      rfl
    (refine pure_ (i := 4) (N := some 20) (v := ?_) (a' := ?_) #[true, true, true, true, true, false, false, false] rfl rfl (any_of HT_.out (by kernel_rfl)) (fun _ _ _ h => h) (Or.inl ⟨by rfl, ?_⟩) ?_ ?_); rotate_left
    · intro w'
      go_simp
      with_reducible rfl
    rotate_left
    · simp only [Act.put, zs, zs0, zs1, i64_w, i32_w]
      rfl
    (refine one_ (i := 5) (N := some 21) #[true, true, true, true, true, true, false, false] rfl rfl (one_of HT_.out (by kernel_rfl)) (by decide) (fun K hK => ?_)); (refine goes_ Try.func76 (by kernel_rfl) rfl #[.pointer (some ⟨g596, 0, none⟩), .int .i64 (wrap64 (1 + t0u))] (by rfl) rfl rfl za ?_)
    with_reducible refine (spec_l14Big.calls k g596 t0e t0v (wrap64 (1 + t0u)) t0w t0x t1a w _ ?side1 ?side2 A26.out).mono ?_
    (case side1 => repeat (first | (with_reducible first | exact HI596.out | apply IsS81.alloc | apply IsS81.drewN | apply IsS81.drew | apply IsS81.set_1 | refine IsS81.far ?_ NB0g_0c.out _ | refine IsS81.far ?_ NB0g_0d.out _ | refine IsS81.far ?_ NB0g_0m.out _) | exact HI596.out)); (case side2 => repeat (first | (with_reducible first | exact HB.out | apply below_alloc | apply pw_below_drewN | apply below_drew1 | refine below_set ?_ (IsS81.ge HI596.out) | refine below_set ?_ GE0c.out | refine below_set ?_ GE0d.out | refine below_set ?_ GE0m.out) | exact HB.out)); rintro e w40 ⟨v0y, rfl, ho0, hi, hb, hk⟩; (refine ⟨_, rfl, ?_⟩); have n0_ := zm (KeepBut.blk hk (g' := gb0c) (o := .cells #[.bool false, .slice none 0 0] 27 (0, 0)) (zk BK0c.out) NB0c_0g.out (by simp)); have n1_ := zm (KeepBut.blk hk (g' := gb0d) (o := .cells #[.bool false, .slice none 0 0] 27 (0, 0)) (zk BK0d.out) NB0d_0g.out (by simp)); have n2_ := zm (Kd.R_mono (Kd.R_told (Kd.R_oldK (IsS81.apart (show IsS81 w _ g596 t0e t0v from by repeat (first | (with_reducible first | exact HI596.out | apply IsS81.alloc | apply IsS81.drewN | apply IsS81.drew | apply IsS81.set_1 | refine IsS81.far ?_ NB0g_0c.out _ | refine IsS81.far ?_ NB0g_0d.out _ | refine IsS81.far ?_ NB0g_0m.out _) | exact HI596.out)) (zR HO0k.out) (by decide)) hk) (Kd.R_base ho0)) (fun _ h_ => h_.1)); have n3_ := zm (KeepBut.blk hk (g' := gb0m) (o := .cells #[.bool t0h, .slice Ao36 t0i.length co36] 27 (0, 0)) (zk BK0m.out) NB0m_0g.out (by simp)); have n4_ := zm (Kd.R_lower (Kd.R_new' ho0 (Kd.R_lt (zR HO0k.out))) (below_size (by repeat (first | (with_reducible first | exact HB.out | apply below_alloc | apply pw_below_drewN | apply below_drew1 | refine below_set ?_ (IsS81.ge HI596.out) | refine below_set ?_ GE0c.out | refine below_set ?_ GE0d.out | refine below_set ?_ GE0m.out) | exact HB.out)))); have n5_ := zm (hb); have n6_ := zm (hi); clear BK0c; clear BK0d; clear HO0k; clear BK0m; clear HB; clear HI596; have BK0c := n0_; have BK0d := n1_; have HO0k := n2_; have BK0m := n3_; have HO0z := n4_; have HB := n5_; have HI596 := n6_; clear n0_ n1_ n2_ n3_ n4_ n5_ n6_; (try clear hb); (try clear hb2); (try clear hk); (try clear hi); (try clear ho0); obtain ⟨Ao44, co44, eo44⟩ := Kd.R_slice HO0z.out; (first | subst eo44 | (injection eo44 with f1_ f2_ f3_; have f4_ := f1_.symm; have f5_ := f3_.symm; clear f1_ f2_ f3_; subst f4_; subst f5_)); (refine hK.out _ _ ⟨(blk_cell BK0m.out 0).trans rfl, (blk_cell BK0m.out 1).trans rfl⟩ (fun hHeld => ?_)); clear hK K
    refine norm_ (a' := ?_) ?_ ?_
    rotate_left
    · show Act.put _ (some 21) _ = _
      simp only [Act.put, zs, zs0, zs1, i64_w, i32_w]
      rfl
    (refine one_ (i := 6) (N := none) #[true, true, true, true, true, true, true, false] rfl rfl (one_of HT_.out (by kernel_rfl)) (by decide) (fun K hK => ?_)); have hs41 : w40.cell? ⟨gb0c, 0, none⟩ = some (.bool false) := (blk_cell BK0c.out 0).trans rfl; have hfs41 := blk_frozen BK0c.out 0; have hns41_1 := NB0d_0c.out; have hns41_2 := NB0m_0c.out; have hms41_1 := NB0c_0d.out; have hms41_2 := NB0c_0m.out; have hs42 : w40.cell? ⟨gb0c, 1, none⟩ = some (.slice none 0 0) := (blk_cell BK0c.out 1).trans rfl; have hfs42 := blk_frozen BK0c.out 1; have hns42_1 := NB0d_0c.out; have hns42_2 := NB0m_0c.out; have hms42_1 := NB0c_0d.out; have hms42_2 := NB0c_0m.out; (refine skip_ (w1 := ?_) (by rfl) rfl ?_ ?_); rotate_left
    · go_simp
      rfl
    (refine hK.out _ _ ⟨((cell_far (p := ⟨gb0c, _, none⟩) NB0m_0c.out _).trans (((cell_far (p := ⟨gb0c, _, none⟩) NB0m_0c.out _).trans (hHeld.1)))), ((cell_far (p := ⟨gb0c, _, none⟩) NB0m_0c.out _).trans (((cell_far (p := ⟨gb0c, _, none⟩) NB0m_0c.out _).trans (hHeld.2))))⟩ (fun hHeld => ?_)); clear hK K; (refine one_ (i := 7) (N := none) #[true, true, true, true, true, true, true, true] rfl rfl (one_of HT_.out (by kernel_rfl)) (by decide) (fun K hK => ?_)); have hs43 : w40.cell? ⟨gb0d, 0, none⟩ = some (.bool false) := (blk_cell BK0d.out 0).trans rfl; have hfs43 := blk_frozen BK0d.out 0; have hns43_0 := NB0c_0d.out; have hns43_2 := NB0m_0d.out; have hms43_0 := NB0d_0c.out; have hms43_2 := NB0d_0m.out; have hs45 : w40.cell? ⟨gb0d, 1, none⟩ = some (.slice none 0 0) := (blk_cell BK0d.out 1).trans rfl; have hfs45 := blk_frozen BK0d.out 1; have hns45_0 := NB0c_0d.out; have hns45_2 := NB0m_0d.out; have hms45_0 := NB0d_0c.out; have hms45_2 := NB0d_0m.out; (refine skip_ (w1 := ?_) (by rfl) rfl ?_ ?_); rotate_left
    · go_simp
      rfl
    (refine hK.out _ _ ⟨((cell_far (p := ⟨gb0d, _, none⟩) NB0m_0d.out _).trans (((cell_far (p := ⟨gb0d, _, none⟩) NB0m_0d.out _).trans (hHeld.1)))), ((cell_far (p := ⟨gb0d, _, none⟩) NB0m_0d.out _).trans (((cell_far (p := ⟨gb0d, _, none⟩) NB0m_0d.out _).trans (hHeld.2))))⟩ (fun hHeld => ?_)); clear hK K; (refine done_ (done_of HT_.out (by kernel_rfl)) ?_); (try go_wp2); (refine bodyPost_ret (results_cc rfl _ _ gb0c gb0d 27 27 #[.bool t0h, .slice Ao36 t0i.length co36] #[.bool t0w, .slice Ao44 t0x.length co44] (0, 0) (0, 0) _ _ rfl (by (with_reducible repeat (first | refine blk_drewN ?_ _ | refine blk_drew ?_ | refine blk_alloc ?_ _)); refine blk_far ?_ NB0c_0d.out _; (with_reducible repeat (first | refine blk_drewN ?_ _ | refine blk_drew ?_ | refine blk_alloc ?_ _)); refine blk_far ?_ NB0c_0d.out _; (with_reducible repeat (first | refine blk_drewN ?_ _ | refine blk_drew ?_ | refine blk_alloc ?_ _)); refine blk_put (cs := #[.bool t0h, .slice none 0 0]) ?_ 1 _ rfl; (with_reducible repeat (first | refine blk_drewN ?_ _ | refine blk_drew ?_ | refine blk_alloc ?_ _)); refine blk_put (cs := #[.bool false, .slice none 0 0]) ?_ 0 _ rfl; (with_reducible repeat (first | refine blk_drewN ?_ _ | refine blk_drew ?_ | refine blk_alloc ?_ _)); exact BK0c.out) Try.underlying27 rfl (by kernel_rfl) rfl (by (with_reducible repeat (first | refine blk_drewN ?_ _ | refine blk_drew ?_ | refine blk_alloc ?_ _)); refine blk_put (cs := #[.bool t0w, .slice none 0 0]) ?_ 1 _ rfl; (with_reducible repeat (first | refine blk_drewN ?_ _ | refine blk_drew ?_ | refine blk_alloc ?_ _)); refine blk_put (cs := #[.bool false, .slice none 0 0]) ?_ 0 _ rfl; (with_reducible repeat (first | refine blk_drewN ?_ _ | refine blk_drew ?_ | refine blk_alloc ?_ _)); refine blk_far ?_ NB0d_0c.out _; (with_reducible repeat (first | refine blk_drewN ?_ _ | refine blk_drew ?_ | refine blk_alloc ?_ _)); refine blk_far ?_ NB0d_0c.out _; (with_reducible repeat (first | refine blk_drewN ?_ _ | refine blk_drew ?_ | refine blk_alloc ?_ _)); exact BK0d.out) Try.underlying27 rfl (by kernel_rfl)) rfl ?_); (exact ⟨_, _, by first | rfl | (simp [errW_none, errW_some] <;> rfl) | (simp [*, errW_none, errW_some] <;> rfl), by (with_reducible repeat (first | apply Kd.R_alloc | apply Kd.R_drewN | apply Kd.R_drew)); exact Kd.R_mono (Kd.R_far (p := ⟨gb0d, 1, none⟩) (Kd.R_far (p := ⟨gb0d, 0, none⟩) (Kd.R_far (p := ⟨gb0c, 1, none⟩) (Kd.R_far (p := ⟨gb0c, 0, none⟩) (Kd.R_types (Kd.R_types HO0k.out BK0c.out (by decide)) BK0d.out (by decide)) (fun _ hk => hk.1.2) (.bool t0h)) (fun _ hk => hk.1.2) (.slice Ao36 t0i.length co36)) (fun _ hk => hk.2) (.bool t0w)) (fun _ hk => hk.2) (.slice Ao44 t0x.length co44)) (fun _ hk => hk.1.1.2), by (with_reducible repeat (first | apply Kd.R_alloc | apply Kd.R_drewN | apply Kd.R_drew)); exact Kd.R_mono (Kd.R_far (p := ⟨gb0d, 1, none⟩) (Kd.R_far (p := ⟨gb0d, 0, none⟩) (Kd.R_far (p := ⟨gb0c, 1, none⟩) (Kd.R_far (p := ⟨gb0c, 0, none⟩) (Kd.R_types (Kd.R_types HO0z.out BK0c.out (by decide)) BK0d.out (by decide)) (fun _ hk => hk.1.2) (.bool t0h)) (fun _ hk => hk.1.2) (.slice Ao36 t0i.length co36)) (fun _ hk => hk.2) (.bool t0w)) (fun _ hk => hk.2) (.slice Ao44 t0x.length co44)) (fun _ hk => hk.1.1.2), by repeat (first | (with_reducible first | exact HB.out | apply below_alloc | apply pw_below_drewN | apply below_drew1 | refine below_set ?_ (IsS81.ge HI596.out) | refine below_set ?_ GE0c.out | refine below_set ?_ GE0d.out | refine below_set ?_ GE0m.out) | exact HB.out)⟩)
end Go.Proofs.Ytdemeoncjcbojaa.Pr
end
section
namespace Go.Proofs.Ytdemeoncjcbojaa.Pr
open Go.RowKit Go.Proofs.YtdemeoncjcbojaaW.PrintWords Go.Proofs.YtdemeoncjcbojaaW.PrintLast Go.Proofs.Ytdemeoncjcbojaa.Ext Go.Proofs.YtdemeoncjcbojaaW.PrintMore
attribute [local go_sem] max2_int min2_int max_two min_two max_three min_three max_four min_four
set_option linter.unusedVariables false
set_option linter.unusedSimpArgs false
def impl_BigDiv.j0 : Nat → Bool → Bool → List Int → Bool → List Int → Option (Bool × List Int × Bool × List Int × Bool)
  | 0, _, _, _, _, _ => none
  | k + 1, x22, x348000, x348001, x349000, x349001 => if x22 = true then (some (false, ([] : List Int), false, ([] : List Int), false)) else ((impl_limbs_div.f x348001 x349001).bind fun bt0f => ((impl_big.f k (x348000 != x349000) bt0f.1).bind fun bt0l => ((impl_big.f k x348000 bt0f.2).bind fun bt0r => (some (bt0l.1, bt0l.2.1, bt0r.1, bt0r.2.1, true)))))
def impl_BigDiv.f (k : Nat) (a0_0 : Bool) (l0_1 : List Int) (a1_0 : Bool) (l1_1 : List Int) : Option (Bool × List Int × Bool × List Int × Bool) := (impl_bigs.f a0_0 l0_1 a1_0 l1_1).bind fun t0e => (if t0e = true then (impl_BigDiv.j0 k ((l1_1.length : Int) == 0) a0_0 l0_1 a1_0 l1_1) else (impl_BigDiv.j0 k true a0_0 l0_1 a1_0 l1_1))
set_option maxHeartbeats 8000000 in
set_option maxRecDepth 100000 in
theorem impl_BigDiv.calls (k : Nat) (a0_0 : Bool) (A0_1 : Option Addr) (c0_1 : Nat) (l0_1 : List Int) (a1_0 : Bool) (A1_1 : Option Addr) (c1_1 : Nat) (l1_1 : List Int) (r1 : Bool) (r2 : List Int) (r3 : Bool) (r4 : List Int) (r5 : Bool) (w : World) (hr0_1 : Kd.C (Kd.int .i64) w A0_1 l0_1.length l0_1) (hc0_1 : l0_1.length ≤ c0_1) (hr1_1 : Kd.C (Kd.int .i64) w A1_1 l1_1.length l1_1) (hc1_1 : l1_1.length ≤ c1_1) (h : impl_BigDiv.f k a0_0 l0_1 a1_0 l1_1 = some (r1, r2, r3, r4, r5)) :
    Calls Try.prog 43 #[.agg #[.bool a0_0, .slice A0_1 l0_1.length c0_1], .agg #[.bool a1_0, .slice A1_1 l1_1.length c1_1]] w fun e w' => ∃ v1_ v3_ : Value, e = .returned (.tuple #[.agg #[.bool r1, v1_], .agg #[.bool r3, v3_], .bool r5]) ∧ Kd.V (Kd.int .i64) 3 w' w.heap.size (fun k_ => (w.heap.size ≤ k_)) v1_ r2 ∧ Kd.V (Kd.int .i64) 3 w' w.heap.size (fun k_ => (w.heap.size ≤ k_)) v3_ r4 ∧ Below w.heap.size w w' := by
  have hu27 := Try.underlying27; have HR0_1 := zm hr0_1; have HC0_1 := zm hc0_1; clear hr0_1 hc0_1; have HR1_1 := zm hr1_1; have HC1_1 := zm hc1_1; clear hr1_1 hc1_1; have HB := zm (Below.refl w.heap.size w); have H : ((impl_bigs.f a0_0 l0_1 a1_0 l1_1).bind fun t0e => (if t0e = true then (impl_BigDiv.j0 k ((l1_1.length : Int) == 0) a0_0 l0_1 a1_0 l1_1) else (impl_BigDiv.j0 k true a0_0 l0_1 a1_0 l1_1))) = some (r1, r2, r3, r4, r5) := h; clear h; have HC3 := zm H; clear H; go_enter Try.func43, Try.ntmps43
  go_upto_region 1 with (first | ((with_reducible refine gate_dst (N := 2) rfl ?_); (try (refine gate_guard (by rfl) ?_; dsimp only)); refine box_event ?hg (N := 2) ?hd (cs := #[.bool a0_0, .slice A0_1 l0_1.length c0_1]) (t := 27) ?hr ?_; (case hd => rfl); (case hg => rfl); (case hr => first | (go_simp; done) | (go_simp; rfl)); intro gb0a hg w4 hbox hb; have n0_ := zm (below_step zb hb); have n1_ := zm (hbox); have n2_ := zm ((by rw [hg]; exact (below_size zb) : w.heap.size ≤ gb0a)); have n3_ := zm ((by rw [hg]; exact (below_size zb) : w.heap.size ≤ gb0a)); clear HB; have HB := n0_; have BK0a := n1_; have GW0a := n2_; have GE0a := n3_; clear n0_ n1_ n2_ n3_; clear hb hbox hg) | ((with_reducible refine gate_dst (N := 3) rfl ?_); (try (refine gate_guard (by rfl) ?_; dsimp only)); refine box_event ?hg (N := 3) ?hd (cs := #[.bool a1_0, .slice A1_1 l1_1.length c1_1]) (t := 27) ?hr ?_; (case hd => rfl); (case hg => rfl); (case hr => first | (go_simp; done) | (go_simp; rfl)); intro gb0b hg w5 hbox hb; have n0_ := zm (blk_below (g := gb0a) (o := .cells #[.bool a0_0, .slice A0_1 l0_1.length c0_1] 27 (0, 0)) (zk BK0a.out) hb); have n1_ := zm (below_step zb hb); have n2_ := zm (hbox); have n3_ := zm ((by rw [hg]; exact (below_size zb) : w.heap.size ≤ gb0b)); have n4_ := zm ((by rw [hg]; exact (below_size zb) : w.heap.size ≤ gb0b)); have n5_ := zm ((by rw [hg]; exact Nat.ne_of_lt (blk_lt (g := gb0a) (o := .cells #[.bool a0_0, .slice A0_1 l0_1.length c0_1] 27 (0, 0)) (zk BK0a.out)) : gb0a ≠ gb0b)); have n6_ := zm ((by rw [hg]; exact Nat.ne_of_gt (blk_lt (g := gb0a) (o := .cells #[.bool a0_0, .slice A0_1 l0_1.length c0_1] 27 (0, 0)) (zk BK0a.out)) : gb0b ≠ gb0a)); clear BK0a; clear HB; have BK0a := n0_; have HB := n1_; have BK0b := n2_; have GW0b := n3_; have GE0b := n4_; have NB0a_0b := n5_; have NB0b_0a := n6_; clear n0_ n1_ n2_ n3_ n4_ n5_ n6_; clear hb hbox hg) | ((with_reducible refine gate_dst (N := 4) rfl ?_); (try (refine gate_guard (by rfl) ?_; dsimp only)); refine box_event ?hg (N := 4) ?hd (cs := #[.bool false, .slice none 0 0]) (t := 27) ?hr ?_; (case hd => rfl); (case hg => rfl); (case hr => first | (go_simp; done) | (go_simp; rfl)); intro gb0c hg w6 hbox hb; have n0_ := zm (blk_below (g := gb0a) (o := .cells #[.bool a0_0, .slice A0_1 l0_1.length c0_1] 27 (0, 0)) (zk BK0a.out) hb); have n1_ := zm (blk_below (g := gb0b) (o := .cells #[.bool a1_0, .slice A1_1 l1_1.length c1_1] 27 (0, 0)) (zk BK0b.out) hb); have n2_ := zm (below_step zb hb); have n3_ := zm (hbox); have n4_ := zm ((by rw [hg]; exact (below_size zb) : w.heap.size ≤ gb0c)); have n5_ := zm ((by rw [hg]; exact (below_size zb) : w.heap.size ≤ gb0c)); have n6_ := zm ((by rw [hg]; exact Nat.ne_of_lt (blk_lt (g := gb0a) (o := .cells #[.bool a0_0, .slice A0_1 l0_1.length c0_1] 27 (0, 0)) (zk BK0a.out)) : gb0a ≠ gb0c)); have n7_ := zm ((by rw [hg]; exact Nat.ne_of_gt (blk_lt (g := gb0a) (o := .cells #[.bool a0_0, .slice A0_1 l0_1.length c0_1] 27 (0, 0)) (zk BK0a.out)) : gb0c ≠ gb0a)); have n8_ := zm ((by rw [hg]; exact Nat.ne_of_lt (blk_lt (g := gb0b) (o := .cells #[.bool a1_0, .slice A1_1 l1_1.length c1_1] 27 (0, 0)) (zk BK0b.out)) : gb0b ≠ gb0c)); have n9_ := zm ((by rw [hg]; exact Nat.ne_of_gt (blk_lt (g := gb0b) (o := .cells #[.bool a1_0, .slice A1_1 l1_1.length c1_1] 27 (0, 0)) (zk BK0b.out)) : gb0c ≠ gb0b)); clear BK0a; clear BK0b; clear HB; have BK0a := n0_; have BK0b := n1_; have HB := n2_; have BK0c := n3_; have GW0c := n4_; have GE0c := n5_; have NB0a_0c := n6_; have NB0c_0a := n7_; have NB0b_0c := n8_; have NB0c_0b := n9_; clear n0_ n1_ n2_ n3_ n4_ n5_ n6_ n7_ n8_ n9_; clear hb hbox hg) | ((with_reducible refine gate_dst (N := 5) rfl ?_); (try (refine gate_guard (by rfl) ?_; dsimp only)); refine box_event ?hg (N := 5) ?hd (cs := #[.bool false, .slice none 0 0]) (t := 27) ?hr ?_; (case hd => rfl); (case hg => rfl); (case hr => first | (go_simp; done) | (go_simp; rfl)); intro gb0d hg w7 hbox hb; have n0_ := zm (blk_below (g := gb0a) (o := .cells #[.bool a0_0, .slice A0_1 l0_1.length c0_1] 27 (0, 0)) (zk BK0a.out) hb); have n1_ := zm (blk_below (g := gb0b) (o := .cells #[.bool a1_0, .slice A1_1 l1_1.length c1_1] 27 (0, 0)) (zk BK0b.out) hb); have n2_ := zm (blk_below (g := gb0c) (o := .cells #[.bool false, .slice none 0 0] 27 (0, 0)) (zk BK0c.out) hb); have n3_ := zm (below_step zb hb); have n4_ := zm (hbox); have n5_ := zm ((by rw [hg]; exact (below_size zb) : w.heap.size ≤ gb0d)); have n6_ := zm ((by rw [hg]; exact (below_size zb) : w.heap.size ≤ gb0d)); have n7_ := zm ((by rw [hg]; exact Nat.ne_of_lt (blk_lt (g := gb0a) (o := .cells #[.bool a0_0, .slice A0_1 l0_1.length c0_1] 27 (0, 0)) (zk BK0a.out)) : gb0a ≠ gb0d)); have n8_ := zm ((by rw [hg]; exact Nat.ne_of_gt (blk_lt (g := gb0a) (o := .cells #[.bool a0_0, .slice A0_1 l0_1.length c0_1] 27 (0, 0)) (zk BK0a.out)) : gb0d ≠ gb0a)); have n9_ := zm ((by rw [hg]; exact Nat.ne_of_lt (blk_lt (g := gb0b) (o := .cells #[.bool a1_0, .slice A1_1 l1_1.length c1_1] 27 (0, 0)) (zk BK0b.out)) : gb0b ≠ gb0d)); have n10_ := zm ((by rw [hg]; exact Nat.ne_of_gt (blk_lt (g := gb0b) (o := .cells #[.bool a1_0, .slice A1_1 l1_1.length c1_1] 27 (0, 0)) (zk BK0b.out)) : gb0d ≠ gb0b)); have n11_ := zm ((by rw [hg]; exact Nat.ne_of_lt (blk_lt (g := gb0c) (o := .cells #[.bool false, .slice none 0 0] 27 (0, 0)) (zk BK0c.out)) : gb0c ≠ gb0d)); have n12_ := zm ((by rw [hg]; exact Nat.ne_of_gt (blk_lt (g := gb0c) (o := .cells #[.bool false, .slice none 0 0] 27 (0, 0)) (zk BK0c.out)) : gb0d ≠ gb0c)); clear BK0a; clear BK0b; clear BK0c; clear HB; have BK0a := n0_; have BK0b := n1_; have BK0c := n2_; have HB := n3_; have BK0d := n4_; have GW0d := n5_; have GE0d := n6_; have NB0a_0d := n7_; have NB0d_0a := n8_; have NB0b_0d := n9_; have NB0d_0b := n10_; have NB0c_0d := n11_; have NB0d_0c := n12_; clear n0_ n1_ n2_ n3_ n4_ n5_ n6_ n7_ n8_ n9_ n10_ n11_ n12_; clear hb hbox hg))
  (try simp only [Act.put, zs, zs0, zs1])
  go_cut [22] (fun v22 wc => ∃ (kq : Nat) (x22_2 : Bool), v22 = .bool x22_2 ∧ Aside0 (impl_BigDiv.j0 kq x22_2 a0_0 l0_1 a1_0 l1_1 = some (r1, r2, r3, r4, r5)) ∧ Aside0 (kq ≤ k) ∧ Aside0 (wc.heap[gb0a]? = some (.cells #[.bool a0_0, (.slice A0_1 l0_1.length c0_1)] 27 (0, 0))) ∧ Aside0 (wc.heap[gb0b]? = some (.cells #[.bool a1_0, (.slice A1_1 l1_1.length c1_1)] 27 (0, 0))) ∧ Aside0 (wc.heap[gb0c]? = some (.cells #[.bool false, (.slice none 0 0)] 27 (0, 0))) ∧ Aside0 (wc.heap[gb0d]? = some (.cells #[.bool false, (.slice none 0 0)] 27 (0, 0))) ∧ Aside0 (Below w.heap.size w wc))
  case first =>
    have H := HC3.out; clear HC3; replace H := Option.bind_eq_some_iff.mp H; obtain ⟨t0e, A80, H⟩ := H; replace H : (if t0e = true then (impl_BigDiv.j0 k ((l1_1.length : Int) == 0) a0_0 l0_1 a1_0 l1_1) else (impl_BigDiv.j0 k true a0_0 l0_1 a1_0 l1_1)) = some (r1, r2, r3, r4, r5) := H; have A8 := zm A80; clear A80
    by_cases c9 : t0e = true
    · subst c9
      (have H1 : (impl_BigDiv.j0 k ((l1_1.length : Int) == 0) a0_0 l0_1 a1_0 l1_1) = some (r1, r2, r3, r4, r5) := by rw [if_pos rfl] at H; exact H); clear H; have H := H1; clear H1; have H' := zm H; clear H; have hnb10 := NB0a_0b.out; have hnc10 := NB0b_0a.out; have hnb11 := NB0a_0c.out; have hnc11 := NB0c_0a.out; have hnb12 := NB0a_0d.out; have hnc12 := NB0d_0a.out; have hcz13_0 : w7.cell? ⟨gb0a, 0, none⟩ = some (.bool a0_0) := (blk_cell BK0a.out 0).trans rfl; have hcz13_1 : w7.cell? ⟨gb0a, 1, none⟩ = some (.slice A0_1 l0_1.length c0_1) := (blk_cell BK0a.out 1).trans rfl; have hfz13_0 := blk_frozen BK0a.out 0; have hfz13_1 := blk_frozen BK0a.out 1; have hnb14 := NB0b_0c.out; have hnc14 := NB0c_0b.out; have hnb15 := NB0b_0d.out; have hnc15 := NB0d_0b.out; have hcz16_0 : w7.cell? ⟨gb0b, 0, none⟩ = some (.bool a1_0) := (blk_cell BK0b.out 0).trans rfl; have hcz16_1 : w7.cell? ⟨gb0b, 1, none⟩ = some (.slice A1_1 l1_1.length c1_1) := (blk_cell BK0b.out 1).trans rfl; have hfz16_0 := blk_frozen BK0b.out 0; have hfz16_1 := blk_frozen BK0b.out 1
      go_wp2_with (first | ((with_reducible refine gate_callee (f := 67) rfl ?_); refine goesL_ (some 15) rfl rfl Try.func67 (by kernel_rfl) rfl #[.agg #[.bool a0_0, .slice A0_1 l0_1.length c0_1], .agg #[.bool a1_0, .slice A1_1 l1_1.length c1_1]] rfl za ?_; (with_reducible refine (impl_bigs.calls a0_0 _ _ l0_1 a1_0 _ _ l1_1 true _ ?side1 ?side2 ?side3 ?side4 A8.out).mono ?_); (case side1 => exact zc (Kd.C_below HR0_1.out HB.out)); (case side2 => exact HC0_1.out); (case side3 => exact zc (Kd.C_below HR1_1.out HB.out)); (case side4 => exact HC1_1.out); rintro e w17 ⟨rfl, hb⟩; refine ⟨_, rfl, ?_⟩; have n0_ := zm (blk_below (g := gb0a) (o := .cells #[.bool a0_0, .slice A0_1 l0_1.length c0_1] 27 (0, 0)) (zk BK0a.out) hb); have n1_ := zm (blk_below (g := gb0b) (o := .cells #[.bool a1_0, .slice A1_1 l1_1.length c1_1] 27 (0, 0)) (zk BK0b.out) hb); have n2_ := zm (blk_below (g := gb0c) (o := .cells #[.bool false, .slice none 0 0] 27 (0, 0)) (zk BK0c.out) hb); have n3_ := zm (blk_below (g := gb0d) (o := .cells #[.bool false, .slice none 0 0] 27 (0, 0)) (zk BK0d.out) hb); have n4_ := zm (below_step zb hb); clear BK0a; clear BK0b; clear BK0c; clear BK0d; clear HB; have BK0a := n0_; have BK0b := n1_; have BK0c := n2_; have BK0d := n3_; have HB := n4_; clear n0_ n1_ n2_ n3_ n4_; (try clear hb); (try clear hb2); (try clear hk); (try clear hi); have hcz18_0 : w17.cell? ⟨gb0b, 0, none⟩ = some (.bool a1_0) := (blk_cell BK0b.out 0).trans rfl; have hcz18_1 : w17.cell? ⟨gb0b, 1, none⟩ = some (.slice A1_1 l1_1.length c1_1) := (blk_cell BK0b.out 1).trans rfl; have hfz18_0 := blk_frozen BK0b.out 0; have hfz18_1 := blk_frozen BK0b.out 1))
      go_meet
      case rel => exact ⟨_, (((l1_1.length : Int) == 0)), (by first | rfl | (simp; done) | (simp [*]; done)), H', ⟨by first | omega | exact Nat.le_refl _⟩, ⟨by (with_reducible repeat (first | refine blk_drewN ?_ _ | refine blk_drew ?_ | refine blk_alloc ?_ _)); exact BK0a.out⟩, ⟨by (with_reducible repeat (first | refine blk_drewN ?_ _ | refine blk_drew ?_ | refine blk_alloc ?_ _)); exact BK0b.out⟩, ⟨by (with_reducible repeat (first | refine blk_drewN ?_ _ | refine blk_drew ?_ | refine blk_alloc ?_ _)); exact BK0c.out⟩, ⟨by (with_reducible repeat (first | refine blk_drewN ?_ _ | refine blk_drew ?_ | refine blk_alloc ?_ _)); exact BK0d.out⟩, ⟨zb⟩⟩
    · replace c9 := Bool.eq_false_iff.mpr c9
      subst c9; (have H1 : (impl_BigDiv.j0 k true a0_0 l0_1 a1_0 l1_1) = some (r1, r2, r3, r4, r5) := by rw [if_neg (show ¬ (false = true) by decide)] at H; exact H); clear H; have H := H1; clear H1; have H' := zm H; clear H; have hnb19 := NB0a_0b.out; have hnc19 := NB0b_0a.out; have hnb20 := NB0a_0c.out; have hnc20 := NB0c_0a.out; have hnb21 := NB0a_0d.out; have hnc21 := NB0d_0a.out; have hcz22_0 : w7.cell? ⟨gb0a, 0, none⟩ = some (.bool a0_0) := (blk_cell BK0a.out 0).trans rfl; have hcz22_1 : w7.cell? ⟨gb0a, 1, none⟩ = some (.slice A0_1 l0_1.length c0_1) := (blk_cell BK0a.out 1).trans rfl; have hfz22_0 := blk_frozen BK0a.out 0; have hfz22_1 := blk_frozen BK0a.out 1; have hnb23 := NB0b_0c.out; have hnc23 := NB0c_0b.out; have hnb24 := NB0b_0d.out; have hnc24 := NB0d_0b.out; have hcz25_0 : w7.cell? ⟨gb0b, 0, none⟩ = some (.bool a1_0) := (blk_cell BK0b.out 0).trans rfl; have hcz25_1 : w7.cell? ⟨gb0b, 1, none⟩ = some (.slice A1_1 l1_1.length c1_1) := (blk_cell BK0b.out 1).trans rfl; have hfz25_0 := blk_frozen BK0b.out 0; have hfz25_1 := blk_frozen BK0b.out 1
      go_wp2_with (first | ((with_reducible refine gate_callee (f := 67) rfl ?_); refine goesL_ (some 15) rfl rfl Try.func67 (by kernel_rfl) rfl #[.agg #[.bool a0_0, .slice A0_1 l0_1.length c0_1], .agg #[.bool a1_0, .slice A1_1 l1_1.length c1_1]] rfl za ?_; (with_reducible refine (impl_bigs.calls a0_0 _ _ l0_1 a1_0 _ _ l1_1 false _ ?side1 ?side2 ?side3 ?side4 A8.out).mono ?_); (case side1 => exact zc (Kd.C_below HR0_1.out HB.out)); (case side2 => exact HC0_1.out); (case side3 => exact zc (Kd.C_below HR1_1.out HB.out)); (case side4 => exact HC1_1.out); rintro e w26 ⟨rfl, hb⟩; refine ⟨_, rfl, ?_⟩; have n0_ := zm (blk_below (g := gb0a) (o := .cells #[.bool a0_0, .slice A0_1 l0_1.length c0_1] 27 (0, 0)) (zk BK0a.out) hb); have n1_ := zm (blk_below (g := gb0b) (o := .cells #[.bool a1_0, .slice A1_1 l1_1.length c1_1] 27 (0, 0)) (zk BK0b.out) hb); have n2_ := zm (blk_below (g := gb0c) (o := .cells #[.bool false, .slice none 0 0] 27 (0, 0)) (zk BK0c.out) hb); have n3_ := zm (blk_below (g := gb0d) (o := .cells #[.bool false, .slice none 0 0] 27 (0, 0)) (zk BK0d.out) hb); have n4_ := zm (below_step zb hb); clear BK0a; clear BK0b; clear BK0c; clear BK0d; clear HB; have BK0a := n0_; have BK0b := n1_; have BK0c := n2_; have BK0d := n3_; have HB := n4_; clear n0_ n1_ n2_ n3_ n4_; (try clear hb); (try clear hb2); (try clear hk); (try clear hi)))
      go_meet
      case rel => exact ⟨_, (true), (by first | rfl | (simp; done) | (simp [*]; done)), H', ⟨by first | omega | exact Nat.le_refl _⟩, ⟨by (with_reducible repeat (first | refine blk_drewN ?_ _ | refine blk_drew ?_ | refine blk_alloc ?_ _)); exact BK0a.out⟩, ⟨by (with_reducible repeat (first | refine blk_drewN ?_ _ | refine blk_drew ?_ | refine blk_alloc ?_ _)); exact BK0b.out⟩, ⟨by (with_reducible repeat (first | refine blk_drewN ?_ _ | refine blk_drew ?_ | refine blk_alloc ?_ _)); exact BK0c.out⟩, ⟨by (with_reducible repeat (first | refine blk_drewN ?_ _ | refine blk_drew ?_ | refine blk_alloc ?_ _)); exact BK0d.out⟩, ⟨zb⟩⟩
  case rest =>
    clear HC3; (try clear c1); (try clear c2); (try clear p2); (try clear c4); (try clear c6); (try clear c9); (try clear c10); (try clear c11); (try clear c12); (try clear c14); (try clear c15); (try clear c19); (try clear c20); (try clear c21); (try clear c23); (try clear c24); (try clear hcz13_0); (try clear hcz13_1); (try clear hcz16_0); (try clear hcz16_1); (try clear hcz18_0); (try clear hcz18_1); (try clear hcz22_0); (try clear hcz22_1); (try clear hcz25_0); (try clear hcz25_1); (try clear hfz13_0); (try clear hfz13_1); (try clear hfz16_0); (try clear hfz16_1); (try clear hfz18_0); (try clear hfz18_1); (try clear hfz22_0); (try clear hfz22_1); (try clear hfz25_0); (try clear hfz25_1); obtain ⟨kq, x22_2, rfl, HA, HJ2, BK0a, BK0b, BK0c, BK0d, HB⟩ := hcut
    cases kq with
    | zero => exact absurd HA.out (by simp [impl_BigDiv.j0])
    | succ kj2 =>
      have H := HA.out; clear HA; simp only [impl_BigDiv.j0] at H
      by_cases c27 : x22_2 = true
      · subst c27
        (have H1 : (some (false, ([] : List Int), false, ([] : List Int), false)) = some (r1, r2, r3, r4, r5) := by rw [if_pos rfl] at H; exact H); clear H; have H := H1; clear H1; simp only [Option.some.injEq, Prod.mk.injEq] at H; obtain ⟨rfl, rfl, rfl, rfl, rfl⟩ := H; have hnb28 := NB0c_0a.out; have hnc28 := NB0a_0c.out; have hnb29 := NB0c_0b.out; have hnc29 := NB0b_0c.out; have hnb30 := NB0c_0d.out; have hnc30 := NB0d_0c.out; have hcz31_0 : wc.cell? ⟨gb0c, 0, none⟩ = some (.bool false) := (blk_cell BK0c.out 0).trans rfl; have hcz31_1 : wc.cell? ⟨gb0c, 1, none⟩ = some (.slice none 0 0) := (blk_cell BK0c.out 1).trans rfl; have hfz31_0 := blk_frozen BK0c.out 0; have hfz31_1 := blk_frozen BK0c.out 1; have hnb32 := NB0d_0a.out; have hnc32 := NB0a_0d.out; have hnb33 := NB0d_0b.out; have hnc33 := NB0b_0d.out; have hcz34_0 : wc.cell? ⟨gb0d, 0, none⟩ = some (.bool false) := (blk_cell BK0d.out 0).trans rfl; have hcz34_1 : wc.cell? ⟨gb0d, 1, none⟩ = some (.slice none 0 0) := (blk_cell BK0d.out 1).trans rfl; have hfz34_0 := blk_frozen BK0d.out 0; have hfz34_1 := blk_frozen BK0d.out 1
        go_wp2
        (refine bodyPost_ret (results_list (rs := [.cell 4 27, .cell 5 27, .tmp 6]) rfl (by simp) (.cell gb0c 27 #[.bool false, .slice none 0 0] (0, 0) _ rfl (by (with_reducible repeat (first | refine blk_drewN ?_ _ | refine blk_drew ?_ | refine blk_alloc ?_ _)); refine blk_far ?_ NB0c_0d.out _; (with_reducible repeat (first | refine blk_drewN ?_ _ | refine blk_drew ?_ | refine blk_alloc ?_ _)); refine blk_far ?_ NB0c_0d.out _; (with_reducible repeat (first | refine blk_drewN ?_ _ | refine blk_drew ?_ | refine blk_alloc ?_ _)); refine blk_put (cs := #[.bool false, .slice none 0 0]) ?_ 1 _ rfl; (with_reducible repeat (first | refine blk_drewN ?_ _ | refine blk_drew ?_ | refine blk_alloc ?_ _)); refine blk_put (cs := #[.bool false, .slice none 0 0]) ?_ 0 _ rfl; (with_reducible repeat (first | refine blk_drewN ?_ _ | refine blk_drew ?_ | refine blk_alloc ?_ _)); exact BK0c.out) Try.underlying27 rfl (by kernel_rfl) (.cell gb0d 27 #[.bool false, .slice none 0 0] (0, 0) _ rfl (by (with_reducible repeat (first | refine blk_drewN ?_ _ | refine blk_drew ?_ | refine blk_alloc ?_ _)); refine blk_put (cs := #[.bool false, .slice none 0 0]) ?_ 1 _ rfl; (with_reducible repeat (first | refine blk_drewN ?_ _ | refine blk_drew ?_ | refine blk_alloc ?_ _)); refine blk_put (cs := #[.bool false, .slice none 0 0]) ?_ 0 _ rfl; (with_reducible repeat (first | refine blk_drewN ?_ _ | refine blk_drew ?_ | refine blk_alloc ?_ _)); refine blk_far ?_ NB0d_0c.out _; (with_reducible repeat (first | refine blk_drewN ?_ _ | refine blk_drew ?_ | refine blk_alloc ?_ _)); refine blk_far ?_ NB0d_0c.out _; (with_reducible repeat (first | refine blk_drewN ?_ _ | refine blk_drew ?_ | refine blk_alloc ?_ _)); exact BK0d.out) Try.underlying27 rfl (by kernel_rfl) (.tmp .nil)))) rfl ?_); (exact ⟨_, _, by first | rfl | (simp [errW_none, errW_some] <;> rfl) | (simp [*, errW_none, errW_some] <;> rfl), Kd.V_nil _ _ _ _ _, Kd.V_nil _ _ _ _ _, zb⟩)
      · replace c27 := Bool.eq_false_iff.mpr c27
        subst c27; (have H1 : ((impl_limbs_div.f l0_1 l1_1).bind fun bt0f => ((impl_big.f kj2 (a0_0 != a1_0) bt0f.1).bind fun bt0l => ((impl_big.f kj2 a0_0 bt0f.2).bind fun bt0r => (some (bt0l.1, bt0l.2.1, bt0r.1, bt0r.2.1, true))))) = some (r1, r2, r3, r4, r5) := by rw [if_neg (show ¬ (false = true) by decide)] at H; exact H); clear H; have H := H1; clear H1; replace H := Option.bind_eq_some_iff.mp H; obtain ⟨⟨t0f, t0i⟩, A0d, H⟩ := H; replace H : ((impl_big.f kj2 (a0_0 != a1_0) t0f).bind fun bt0l => ((impl_big.f kj2 a0_0 t0i).bind fun bt0r => (some (bt0l.1, bt0l.2.1, bt0r.1, bt0r.2.1, true)))) = some (r1, r2, r3, r4, r5) := H; have A35 := zm A0d; clear A0d; replace H := Option.bind_eq_some_iff.mp H; obtain ⟨⟨t0l, t0m, t0p⟩, A0n, H⟩ := H; replace H : ((impl_big.f kj2 a0_0 t0i).bind fun bt0r => (some (t0l, t0m, bt0r.1, bt0r.2.1, true))) = some (r1, r2, r3, r4, r5) := H; have A36 := zm A0n; clear A0n; replace H := Option.bind_eq_some_iff.mp H; obtain ⟨⟨t0r, t0s, t0v⟩, A0x, H⟩ := H; replace H : (some (t0l, t0m, t0r, t0s, true)) = some (r1, r2, r3, r4, r5) := H; have A37 := zm A0x; clear A0x; simp only [Option.some.injEq, Prod.mk.injEq] at H; obtain ⟨rfl, rfl, rfl, rfl, rfl⟩ := H; have hnb38 := NB0a_0b.out; have hnc38 := NB0b_0a.out; have hnb39 := NB0a_0c.out; have hnc39 := NB0c_0a.out; have hnb40 := NB0a_0d.out; have hnc40 := NB0d_0a.out; have hcz41_0 : wc.cell? ⟨gb0a, 0, none⟩ = some (.bool a0_0) := (blk_cell BK0a.out 0).trans rfl; have hcz41_1 : wc.cell? ⟨gb0a, 1, none⟩ = some (.slice A0_1 l0_1.length c0_1) := (blk_cell BK0a.out 1).trans rfl; have hfz41_0 := blk_frozen BK0a.out 0; have hfz41_1 := blk_frozen BK0a.out 1; have hnb42 := NB0b_0c.out; have hnc42 := NB0c_0b.out; have hnb43 := NB0b_0d.out; have hnc43 := NB0d_0b.out; have hcz44_0 : wc.cell? ⟨gb0b, 0, none⟩ = some (.bool a1_0) := (blk_cell BK0b.out 0).trans rfl; have hcz44_1 : wc.cell? ⟨gb0b, 1, none⟩ = some (.slice A1_1 l1_1.length c1_1) := (blk_cell BK0b.out 1).trans rfl; have hfz44_0 := blk_frozen BK0b.out 0; have hfz44_1 := blk_frozen BK0b.out 1
        try go_wp2_with (first | ((with_reducible refine gate_callee (f := 78) rfl ?_); refine goesL_ (some 30) rfl rfl Try.func78 (by kernel_rfl) rfl #[.slice A0_1 l0_1.length c0_1, .slice A1_1 l1_1.length c1_1] rfl za ?_; (with_reducible refine (impl_limbs_div.calls _ _ l0_1 _ _ l1_1 t0f t0i _ ?side1 ?side2 ?side3 ?side4 A35.out).mono ?_); (case side1 => exact zc (Kd.C_below HR0_1.out HB.out)); (case side2 => exact HC0_1.out); (case side3 => exact zc (Kd.C_below HR1_1.out HB.out)); (case side4 => exact HC1_1.out); rintro e w45 ⟨v0g, v0j, rfl, ho0, ho1, hb⟩; refine ⟨_, rfl, ?_⟩; have n0_ := zm (Kd.V_lower (Kd.V_mono (ok' := fun k_ => (w.heap.size ≤ k_) ∧ k_ ≠ gb0a ∧ k_ ≠ gb0b ∧ k_ ≠ gb0c ∧ k_ ≠ gb0d) ho0 (fun k_ hk_ => ⟨(Nat.le_trans (below_size zb) hk_), (Kd.freshB (g := gb0a) (o := .cells #[.bool a0_0, .slice A0_1 l0_1.length c0_1] 27 (0, 0)) (zk BK0a.out) k_ hk_), (Kd.freshB (g := gb0b) (o := .cells #[.bool a1_0, .slice A1_1 l1_1.length c1_1] 27 (0, 0)) (zk BK0b.out) k_ hk_), (Kd.freshB (g := gb0c) (o := .cells #[.bool false, .slice none 0 0] 27 (0, 0)) (zk BK0c.out) k_ hk_), (Kd.freshB (g := gb0d) (o := .cells #[.bool false, .slice none 0 0] 27 (0, 0)) (zk BK0d.out) k_ hk_)⟩)) (below_size zb)); have n1_ := zm (Kd.V_lower (Kd.V_mono (ok' := fun k_ => (w.heap.size ≤ k_) ∧ k_ ≠ gb0a ∧ k_ ≠ gb0b ∧ k_ ≠ gb0c ∧ k_ ≠ gb0d) ho1 (fun k_ hk_ => ⟨(Nat.le_trans (below_size zb) hk_), (Kd.freshB (g := gb0a) (o := .cells #[.bool a0_0, .slice A0_1 l0_1.length c0_1] 27 (0, 0)) (zk BK0a.out) k_ hk_), (Kd.freshB (g := gb0b) (o := .cells #[.bool a1_0, .slice A1_1 l1_1.length c1_1] 27 (0, 0)) (zk BK0b.out) k_ hk_), (Kd.freshB (g := gb0c) (o := .cells #[.bool false, .slice none 0 0] 27 (0, 0)) (zk BK0c.out) k_ hk_), (Kd.freshB (g := gb0d) (o := .cells #[.bool false, .slice none 0 0] 27 (0, 0)) (zk BK0d.out) k_ hk_)⟩)) (below_size zb)); have n2_ := zm (blk_below (g := gb0a) (o := .cells #[.bool a0_0, .slice A0_1 l0_1.length c0_1] 27 (0, 0)) (zk BK0a.out) hb); have n3_ := zm (blk_below (g := gb0b) (o := .cells #[.bool a1_0, .slice A1_1 l1_1.length c1_1] 27 (0, 0)) (zk BK0b.out) hb); have n4_ := zm (blk_below (g := gb0c) (o := .cells #[.bool false, .slice none 0 0] 27 (0, 0)) (zk BK0c.out) hb); have n5_ := zm (blk_below (g := gb0d) (o := .cells #[.bool false, .slice none 0 0] 27 (0, 0)) (zk BK0d.out) hb); have n6_ := zm (below_step zb hb); clear BK0a; clear BK0b; clear BK0c; clear BK0d; clear HB; have HO0h := n0_; have HO0k := n1_; have BK0a := n2_; have BK0b := n3_; have BK0c := n4_; have BK0d := n5_; have HB := n6_; clear n0_ n1_ n2_ n3_ n4_ n5_ n6_; (try clear hb); (try clear hb2); (try clear hk); (try clear hi); (try clear ho0); (try clear ho1); have hcz46_0 : w45.cell? ⟨gb0a, 0, none⟩ = some (.bool a0_0) := (blk_cell BK0a.out 0).trans rfl; have hcz46_1 : w45.cell? ⟨gb0a, 1, none⟩ = some (.slice A0_1 l0_1.length c0_1) := (blk_cell BK0a.out 1).trans rfl; have hfz46_0 := blk_frozen BK0a.out 0; have hfz46_1 := blk_frozen BK0a.out 1; have hcz47_0 : w45.cell? ⟨gb0b, 0, none⟩ = some (.bool a1_0) := (blk_cell BK0b.out 0).trans rfl; have hcz47_1 : w45.cell? ⟨gb0b, 1, none⟩ = some (.slice A1_1 l1_1.length c1_1) := (blk_cell BK0b.out 1).trans rfl; have hfz47_0 := blk_frozen BK0b.out 0; have hfz47_1 := blk_frozen BK0b.out 1; obtain ⟨Ao48, co48, eo48⟩ := Kd.V_slice HO0h.out; subst eo48) | ((with_reducible refine gate_callee (f := 55) rfl ?_); refine goesL_ (some 40) rfl rfl Try.func55 (by kernel_rfl) rfl #[.bool (a0_0 != a1_0), .slice Ao48 t0f.length co48] rfl za ?_; (with_reducible refine (impl_big.calls kj2 (a0_0 != a1_0) (fun k_ => ((w.heap.size ≤ k_) ∧ (k_ ≠ gb0a ∧ (k_ ≠ gb0b ∧ (k_ ≠ gb0c ∧ k_ ≠ gb0d))))) _ _ t0f t0l t0m t0p _ ?side1 A36.out).mono ?_); (case side1 => exact HO0h.out); rintro e w49 ⟨v0n, rfl, ho0, hb⟩; refine ⟨_, rfl, ?_⟩; have n0_ := zm (Kd.V_below (zV HO0h.out) hb); have n1_ := zm (Kd.V_below (zV HO0k.out) hb); have n2_ := zm (Kd.V_lower (Kd.V_mono (ok' := fun k_ => (w.heap.size ≤ k_) ∧ k_ ≠ gb0a ∧ k_ ≠ gb0b ∧ k_ ≠ gb0c ∧ k_ ≠ gb0d) ho0 (fun k_ hk_ => ⟨Or.elim hk_ (fun hs_ => hs_.1) (fun hn_ => (Nat.le_trans (below_size zb) hn_)), Or.elim hk_ (fun hs_ => hs_.2.1) (fun hn_ => (Kd.freshB (g := gb0a) (o := .cells #[.bool a0_0, .slice A0_1 l0_1.length c0_1] 27 (0, 0)) (zk BK0a.out) k_ hn_)), Or.elim hk_ (fun hs_ => hs_.2.2.1) (fun hn_ => (Kd.freshB (g := gb0b) (o := .cells #[.bool a1_0, .slice A1_1 l1_1.length c1_1] 27 (0, 0)) (zk BK0b.out) k_ hn_)), Or.elim hk_ (fun hs_ => hs_.2.2.2.1) (fun hn_ => (Kd.freshB (g := gb0c) (o := .cells #[.bool false, .slice none 0 0] 27 (0, 0)) (zk BK0c.out) k_ hn_)), Or.elim hk_ (fun hs_ => hs_.2.2.2.2) (fun hn_ => (Kd.freshB (g := gb0d) (o := .cells #[.bool false, .slice none 0 0] 27 (0, 0)) (zk BK0d.out) k_ hn_))⟩)) (below_size zb)); have n3_ := zm (blk_below (g := gb0a) (o := .cells #[.bool a0_0, .slice A0_1 l0_1.length c0_1] 27 (0, 0)) (zk BK0a.out) hb); have n4_ := zm (blk_below (g := gb0b) (o := .cells #[.bool a1_0, .slice A1_1 l1_1.length c1_1] 27 (0, 0)) (zk BK0b.out) hb); have n5_ := zm (blk_below (g := gb0c) (o := .cells #[.bool false, .slice none 0 0] 27 (0, 0)) (zk BK0c.out) hb); have n6_ := zm (blk_below (g := gb0d) (o := .cells #[.bool false, .slice none 0 0] 27 (0, 0)) (zk BK0d.out) hb); have n7_ := zm (below_step zb hb); clear HO0h; clear HO0k; clear BK0a; clear BK0b; clear BK0c; clear BK0d; clear HB; have HO0h := n0_; have HO0k := n1_; have HO0o := n2_; have BK0a := n3_; have BK0b := n4_; have BK0c := n5_; have BK0d := n6_; have HB := n7_; clear n0_ n1_ n2_ n3_ n4_ n5_ n6_ n7_; (try clear hb); (try clear hb2); (try clear hk); (try clear hi); (try clear ho0)) | ((with_reducible refine gate_dst (N := 9) rfl ?_); (try (refine gate_guard (by rfl) ?_; dsimp only)); refine box_event ?hg (N := 9) ?hd (cs := #[.bool false, .slice none 0 0]) (t := 27) ?hr ?_; (case hd => rfl); (case hg => rfl); (case hr => first | (go_simp; done) | (go_simp; rfl)); intro gb0q hg w50 hbox hb; have n0_ := zm (Kd.V_below (Kd.V_elderB (zV HO0h.out) gb0q (Nat.le_of_eq hg.symm)) hb); have n1_ := zm (Kd.V_below (Kd.V_elderB (zV HO0k.out) gb0q (Nat.le_of_eq hg.symm)) hb); have n2_ := zm (Kd.V_below (Kd.V_elderB (zV HO0o.out) gb0q (Nat.le_of_eq hg.symm)) hb); have n3_ := zm (blk_below (g := gb0a) (o := .cells #[.bool a0_0, .slice A0_1 l0_1.length c0_1] 27 (0, 0)) (zk BK0a.out) hb); have n4_ := zm (blk_below (g := gb0b) (o := .cells #[.bool a1_0, .slice A1_1 l1_1.length c1_1] 27 (0, 0)) (zk BK0b.out) hb); have n5_ := zm (blk_below (g := gb0c) (o := .cells #[.bool false, .slice none 0 0] 27 (0, 0)) (zk BK0c.out) hb); have n6_ := zm (blk_below (g := gb0d) (o := .cells #[.bool false, .slice none 0 0] 27 (0, 0)) (zk BK0d.out) hb); have n7_ := zm (below_step zb hb); have n8_ := zm (hbox); have n9_ := zm ((by rw [hg]; exact (below_size zb) : w.heap.size ≤ gb0q)); have n10_ := zm ((by rw [hg]; exact (below_size zb) : w.heap.size ≤ gb0q)); have n11_ := zm ((by rw [hg]; exact Nat.ne_of_lt (blk_lt (g := gb0a) (o := .cells #[.bool a0_0, .slice A0_1 l0_1.length c0_1] 27 (0, 0)) (zk BK0a.out)) : gb0a ≠ gb0q)); have n12_ := zm ((by rw [hg]; exact Nat.ne_of_gt (blk_lt (g := gb0a) (o := .cells #[.bool a0_0, .slice A0_1 l0_1.length c0_1] 27 (0, 0)) (zk BK0a.out)) : gb0q ≠ gb0a)); have n13_ := zm ((by rw [hg]; exact Nat.ne_of_lt (blk_lt (g := gb0b) (o := .cells #[.bool a1_0, .slice A1_1 l1_1.length c1_1] 27 (0, 0)) (zk BK0b.out)) : gb0b ≠ gb0q)); have n14_ := zm ((by rw [hg]; exact Nat.ne_of_gt (blk_lt (g := gb0b) (o := .cells #[.bool a1_0, .slice A1_1 l1_1.length c1_1] 27 (0, 0)) (zk BK0b.out)) : gb0q ≠ gb0b)); have n15_ := zm ((by rw [hg]; exact Nat.ne_of_lt (blk_lt (g := gb0c) (o := .cells #[.bool false, .slice none 0 0] 27 (0, 0)) (zk BK0c.out)) : gb0c ≠ gb0q)); have n16_ := zm ((by rw [hg]; exact Nat.ne_of_gt (blk_lt (g := gb0c) (o := .cells #[.bool false, .slice none 0 0] 27 (0, 0)) (zk BK0c.out)) : gb0q ≠ gb0c)); have n17_ := zm ((by rw [hg]; exact Nat.ne_of_lt (blk_lt (g := gb0d) (o := .cells #[.bool false, .slice none 0 0] 27 (0, 0)) (zk BK0d.out)) : gb0d ≠ gb0q)); have n18_ := zm ((by rw [hg]; exact Nat.ne_of_gt (blk_lt (g := gb0d) (o := .cells #[.bool false, .slice none 0 0] 27 (0, 0)) (zk BK0d.out)) : gb0q ≠ gb0d)); clear HO0h; clear HO0k; clear HO0o; clear BK0a; clear BK0b; clear BK0c; clear BK0d; clear HB; have HO0h := n0_; have HO0k := n1_; have HO0o := n2_; have BK0a := n3_; have BK0b := n4_; have BK0c := n5_; have BK0d := n6_; have HB := n7_; have BK0q := n8_; have GW0q := n9_; have GE0q := n10_; have NB0a_0q := n11_; have NB0q_0a := n12_; have NB0b_0q := n13_; have NB0q_0b := n14_; have NB0c_0q := n15_; have NB0q_0c := n16_; have NB0d_0q := n17_; have NB0q_0d := n18_; clear n0_ n1_ n2_ n3_ n4_ n5_ n6_ n7_ n8_ n9_ n10_ n11_ n12_ n13_ n14_ n15_ n16_ n17_ n18_; clear hb hbox hg; have hnb51 := NB0q_0a.out; have hnc51 := NB0a_0q.out; have hnb52 := NB0q_0b.out; have hnc52 := NB0b_0q.out; have hnb53 := NB0q_0c.out; have hnc53 := NB0c_0q.out; have hnb54 := NB0q_0d.out; have hnc54 := NB0d_0q.out; have hcz55_0 : w50.cell? ⟨gb0q, 0, none⟩ = some (.bool false) := (blk_cell BK0q.out 0).trans rfl; have hcz55_1 : w50.cell? ⟨gb0q, 1, none⟩ = some (.slice none 0 0) := (blk_cell BK0q.out 1).trans rfl; have hfz55_0 := blk_frozen BK0q.out 0; have hfz55_1 := blk_frozen BK0q.out 1; obtain ⟨Ao56, co56, eo56⟩ := Kd.V_slice HO0o.out; subst eo56) | ((with_reducible refine gate_store (t := 27) (p := 9) rfl ?_); refine store_event (t := 27) (p := 9) (v := ?vo_w57) (w1 := ((w50.setCell ⟨gb0q, 0, none⟩ (.bool t0l)).setCell ⟨gb0q, 1, none⟩ (.slice Ao56 t0m.length co56))) ?hg ?ho ?hn ?hr ?_; (case ho => rfl); (case hg => rfl); (case hn => rfl); (case hr => first | (go_simp; done) | (go_simp; rfl)); intro w57 hw; have n0_ : Aside0 (Kd.V (Kd.int .i64) 3 w57 w.heap.size (fun k_ => (w.heap.size ≤ k_) ∧ k_ ≠ gb0a ∧ k_ ≠ gb0b ∧ k_ ≠ gb0c ∧ k_ ≠ gb0d ∧ k_ ≠ gb0q) (.slice Ao48 t0f.length co48) t0f) := ⟨(by rw [hw]; exact (by (with_reducible repeat (first | apply Kd.V_alloc | apply Kd.V_drewN | apply Kd.V_drew)); exact Kd.V_mono (Kd.V_far (p := ⟨gb0q, 1, none⟩) (Kd.V_far (p := ⟨gb0q, 0, none⟩) (Kd.V_mono HO0h.out (fun k_ hk => (⟨hk, hk.2⟩ : _ ∧ k_ ≠ gb0q))) (fun _ hk => hk.2) (.bool t0l)) (fun _ hk => hk.2) (.slice Ao56 t0m.length co56)) (fun _ hk => ⟨hk.1.1.1, ⟨hk.1.1.2.1, ⟨hk.1.1.2.2.1, ⟨hk.1.1.2.2.2.1, ⟨hk.1.1.2.2.2.2, hk.1.2⟩⟩⟩⟩⟩)))⟩; have n1_ : Aside0 (Kd.V (Kd.int .i64) 3 w57 w.heap.size (fun k_ => (w.heap.size ≤ k_) ∧ k_ ≠ gb0a ∧ k_ ≠ gb0b ∧ k_ ≠ gb0c ∧ k_ ≠ gb0d ∧ k_ ≠ gb0q) v0j t0i) := ⟨(by rw [hw]; exact (by (with_reducible repeat (first | apply Kd.V_alloc | apply Kd.V_drewN | apply Kd.V_drew)); exact Kd.V_mono (Kd.V_far (p := ⟨gb0q, 1, none⟩) (Kd.V_far (p := ⟨gb0q, 0, none⟩) (Kd.V_mono HO0k.out (fun k_ hk => (⟨hk, hk.2⟩ : _ ∧ k_ ≠ gb0q))) (fun _ hk => hk.2) (.bool t0l)) (fun _ hk => hk.2) (.slice Ao56 t0m.length co56)) (fun _ hk => ⟨hk.1.1.1, ⟨hk.1.1.2.1, ⟨hk.1.1.2.2.1, ⟨hk.1.1.2.2.2.1, ⟨hk.1.1.2.2.2.2, hk.1.2⟩⟩⟩⟩⟩)))⟩; have n2_ : Aside0 (Kd.V (Kd.int .i64) 3 w57 w.heap.size (fun k_ => (w.heap.size ≤ k_) ∧ k_ ≠ gb0a ∧ k_ ≠ gb0b ∧ k_ ≠ gb0c ∧ k_ ≠ gb0d ∧ k_ ≠ gb0q) (.slice Ao56 t0m.length co56) t0m) := ⟨(by rw [hw]; exact (by (with_reducible repeat (first | apply Kd.V_alloc | apply Kd.V_drewN | apply Kd.V_drew)); exact Kd.V_mono (Kd.V_far (p := ⟨gb0q, 1, none⟩) (Kd.V_far (p := ⟨gb0q, 0, none⟩) (Kd.V_mono HO0o.out (fun k_ hk => (⟨hk, hk.2⟩ : _ ∧ k_ ≠ gb0q))) (fun _ hk => hk.2) (.bool t0l)) (fun _ hk => hk.2) (.slice Ao56 t0m.length co56)) (fun _ hk => ⟨hk.1.1.1, ⟨hk.1.1.2.1, ⟨hk.1.1.2.2.1, ⟨hk.1.1.2.2.2.1, ⟨hk.1.1.2.2.2.2, hk.1.2⟩⟩⟩⟩⟩)))⟩; have n3_ : Aside0 (w57.heap[gb0a]? = some (.cells #[.bool a0_0, .slice A0_1 l0_1.length c0_1] 27 (0, 0))) := ⟨(by rw [hw]; exact (zk BK0a.out))⟩; have n4_ : Aside0 (w57.heap[gb0b]? = some (.cells #[.bool a1_0, .slice A1_1 l1_1.length c1_1] 27 (0, 0))) := ⟨(by rw [hw]; exact (zk BK0b.out))⟩; have n5_ : Aside0 (w57.heap[gb0c]? = some (.cells #[.bool false, .slice none 0 0] 27 (0, 0))) := ⟨(by rw [hw]; exact (zk BK0c.out))⟩; have n6_ : Aside0 (w57.heap[gb0d]? = some (.cells #[.bool false, .slice none 0 0] 27 (0, 0))) := ⟨(by rw [hw]; exact (zk BK0d.out))⟩; have n7_ : Aside0 (w57.heap[gb0q]? = some (.cells #[.bool t0l, .slice Ao56 t0m.length co56] 27 (0, 0))) := ⟨(by rw [hw]; exact (by (with_reducible repeat (first | refine blk_drewN ?_ _ | refine blk_drew ?_ | refine blk_alloc ?_ _)); refine blk_put (cs := #[.bool t0l, .slice none 0 0]) ?_ 1 _ rfl; (with_reducible repeat (first | refine blk_drewN ?_ _ | refine blk_drew ?_ | refine blk_alloc ?_ _)); refine blk_put (cs := #[.bool false, .slice none 0 0]) ?_ 0 _ rfl; (with_reducible repeat (first | refine blk_drewN ?_ _ | refine blk_drew ?_ | refine blk_alloc ?_ _)); exact BK0q.out))⟩; have n8_ : Aside0 (Below w.heap.size w w57) := ⟨(by rw [hw]; exact zb)⟩; clear hw; clear HO0h; clear HO0k; clear HO0o; clear BK0a; clear BK0b; clear BK0c; clear BK0d; clear BK0q; clear HB; have HO0h := n0_; have HO0k := n1_; have HO0o := n2_; have BK0a := n3_; have BK0b := n4_; have BK0c := n5_; have BK0d := n6_; have BK0q := n7_; have HB := n8_; clear n0_ n1_ n2_ n3_ n4_ n5_ n6_ n7_ n8_; have hcz58_0 : w57.cell? ⟨gb0a, 0, none⟩ = some (.bool a0_0) := (blk_cell BK0a.out 0).trans rfl; have hcz58_1 : w57.cell? ⟨gb0a, 1, none⟩ = some (.slice A0_1 l0_1.length c0_1) := (blk_cell BK0a.out 1).trans rfl; have hfz58_0 := blk_frozen BK0a.out 0; have hfz58_1 := blk_frozen BK0a.out 1; obtain ⟨Ao59, co59, eo59⟩ := Kd.V_slice HO0k.out; subst eo59) | ((with_reducible refine gate_callee (f := 55) rfl ?_); refine goesL_ (some 47) rfl rfl Try.func55 (by kernel_rfl) rfl #[.bool a0_0, .slice Ao59 t0i.length co59] rfl za ?_; (with_reducible refine (impl_big.calls kj2 a0_0 (fun k_ => ((w.heap.size ≤ k_) ∧ (k_ ≠ gb0a ∧ (k_ ≠ gb0b ∧ (k_ ≠ gb0c ∧ (k_ ≠ gb0d ∧ k_ ≠ gb0q)))))) _ _ t0i t0r t0s t0v _ ?side1 A37.out).mono ?_); (case side1 => exact HO0k.out); rintro e w60 ⟨v0t, rfl, ho0, hb⟩; refine ⟨_, rfl, ?_⟩; have n0_ := zm (Kd.V_below (zV HO0h.out) hb); have n1_ := zm (Kd.V_below (zV HO0k.out) hb); have n2_ := zm (Kd.V_below (zV HO0o.out) hb); have n3_ := zm (Kd.V_lower (Kd.V_mono (ok' := fun k_ => (w.heap.size ≤ k_) ∧ k_ ≠ gb0a ∧ k_ ≠ gb0b ∧ k_ ≠ gb0c ∧ k_ ≠ gb0d ∧ k_ ≠ gb0q) ho0 (fun k_ hk_ => ⟨Or.elim hk_ (fun hs_ => hs_.1) (fun hn_ => (Nat.le_trans (below_size zb) hn_)), Or.elim hk_ (fun hs_ => hs_.2.1) (fun hn_ => (Kd.freshB (g := gb0a) (o := .cells #[.bool a0_0, .slice A0_1 l0_1.length c0_1] 27 (0, 0)) (zk BK0a.out) k_ hn_)), Or.elim hk_ (fun hs_ => hs_.2.2.1) (fun hn_ => (Kd.freshB (g := gb0b) (o := .cells #[.bool a1_0, .slice A1_1 l1_1.length c1_1] 27 (0, 0)) (zk BK0b.out) k_ hn_)), Or.elim hk_ (fun hs_ => hs_.2.2.2.1) (fun hn_ => (Kd.freshB (g := gb0c) (o := .cells #[.bool false, .slice none 0 0] 27 (0, 0)) (zk BK0c.out) k_ hn_)), Or.elim hk_ (fun hs_ => hs_.2.2.2.2.1) (fun hn_ => (Kd.freshB (g := gb0d) (o := .cells #[.bool false, .slice none 0 0] 27 (0, 0)) (zk BK0d.out) k_ hn_)), Or.elim hk_ (fun hs_ => hs_.2.2.2.2.2) (fun hn_ => (Kd.freshB (g := gb0q) (o := .cells #[.bool t0l, .slice Ao56 t0m.length co56] 27 (0, 0)) (zk BK0q.out) k_ hn_))⟩)) (below_size zb)); have n4_ := zm (blk_below (g := gb0a) (o := .cells #[.bool a0_0, .slice A0_1 l0_1.length c0_1] 27 (0, 0)) (zk BK0a.out) hb); have n5_ := zm (blk_below (g := gb0b) (o := .cells #[.bool a1_0, .slice A1_1 l1_1.length c1_1] 27 (0, 0)) (zk BK0b.out) hb); have n6_ := zm (blk_below (g := gb0c) (o := .cells #[.bool false, .slice none 0 0] 27 (0, 0)) (zk BK0c.out) hb); have n7_ := zm (blk_below (g := gb0d) (o := .cells #[.bool false, .slice none 0 0] 27 (0, 0)) (zk BK0d.out) hb); have n8_ := zm (blk_below (g := gb0q) (o := .cells #[.bool t0l, .slice Ao56 t0m.length co56] 27 (0, 0)) (zk BK0q.out) hb); have n9_ := zm (below_step zb hb); clear HO0h; clear HO0k; clear HO0o; clear BK0a; clear BK0b; clear BK0c; clear BK0d; clear BK0q; clear HB; have HO0h := n0_; have HO0k := n1_; have HO0o := n2_; have HO0u := n3_; have BK0a := n4_; have BK0b := n5_; have BK0c := n6_; have BK0d := n7_; have BK0q := n8_; have HB := n9_; clear n0_ n1_ n2_ n3_ n4_ n5_ n6_ n7_ n8_ n9_; (try clear hb); (try clear hb2); (try clear hk); (try clear hi); (try clear ho0)) | ((with_reducible refine gate_dst (N := 11) rfl ?_); (try (refine gate_guard (by rfl) ?_; dsimp only)); refine box_event ?hg (N := 11) ?hd (cs := #[.bool false, .slice none 0 0]) (t := 27) ?hr ?_; (case hd => rfl); (case hg => rfl); (case hr => first | (go_simp; done) | (go_simp; rfl)); intro gb0w hg w61 hbox hb; have n0_ := zm (Kd.V_below (Kd.V_elderB (zV HO0h.out) gb0w (Nat.le_of_eq hg.symm)) hb); have n1_ := zm (Kd.V_below (Kd.V_elderB (zV HO0k.out) gb0w (Nat.le_of_eq hg.symm)) hb); have n2_ := zm (Kd.V_below (Kd.V_elderB (zV HO0o.out) gb0w (Nat.le_of_eq hg.symm)) hb); have n3_ := zm (Kd.V_below (Kd.V_elderB (zV HO0u.out) gb0w (Nat.le_of_eq hg.symm)) hb); have n4_ := zm (blk_below (g := gb0a) (o := .cells #[.bool a0_0, .slice A0_1 l0_1.length c0_1] 27 (0, 0)) (zk BK0a.out) hb); have n5_ := zm (blk_below (g := gb0b) (o := .cells #[.bool a1_0, .slice A1_1 l1_1.length c1_1] 27 (0, 0)) (zk BK0b.out) hb); have n6_ := zm (blk_below (g := gb0c) (o := .cells #[.bool false, .slice none 0 0] 27 (0, 0)) (zk BK0c.out) hb); have n7_ := zm (blk_below (g := gb0d) (o := .cells #[.bool false, .slice none 0 0] 27 (0, 0)) (zk BK0d.out) hb); have n8_ := zm (blk_below (g := gb0q) (o := .cells #[.bool t0l, .slice Ao56 t0m.length co56] 27 (0, 0)) (zk BK0q.out) hb); have n9_ := zm (below_step zb hb); have n10_ := zm (hbox); have n11_ := zm ((by rw [hg]; exact (below_size zb) : w.heap.size ≤ gb0w)); have n12_ := zm ((by rw [hg]; exact (below_size zb) : w.heap.size ≤ gb0w)); have n13_ := zm ((by rw [hg]; exact Nat.ne_of_lt (blk_lt (g := gb0a) (o := .cells #[.bool a0_0, .slice A0_1 l0_1.length c0_1] 27 (0, 0)) (zk BK0a.out)) : gb0a ≠ gb0w)); have n14_ := zm ((by rw [hg]; exact Nat.ne_of_gt (blk_lt (g := gb0a) (o := .cells #[.bool a0_0, .slice A0_1 l0_1.length c0_1] 27 (0, 0)) (zk BK0a.out)) : gb0w ≠ gb0a)); have n15_ := zm ((by rw [hg]; exact Nat.ne_of_lt (blk_lt (g := gb0b) (o := .cells #[.bool a1_0, .slice A1_1 l1_1.length c1_1] 27 (0, 0)) (zk BK0b.out)) : gb0b ≠ gb0w)); have n16_ := zm ((by rw [hg]; exact Nat.ne_of_gt (blk_lt (g := gb0b) (o := .cells #[.bool a1_0, .slice A1_1 l1_1.length c1_1] 27 (0, 0)) (zk BK0b.out)) : gb0w ≠ gb0b)); have n17_ := zm ((by rw [hg]; exact Nat.ne_of_lt (blk_lt (g := gb0c) (o := .cells #[.bool false, .slice none 0 0] 27 (0, 0)) (zk BK0c.out)) : gb0c ≠ gb0w)); have n18_ := zm ((by rw [hg]; exact Nat.ne_of_gt (blk_lt (g := gb0c) (o := .cells #[.bool false, .slice none 0 0] 27 (0, 0)) (zk BK0c.out)) : gb0w ≠ gb0c)); have n19_ := zm ((by rw [hg]; exact Nat.ne_of_lt (blk_lt (g := gb0d) (o := .cells #[.bool false, .slice none 0 0] 27 (0, 0)) (zk BK0d.out)) : gb0d ≠ gb0w)); have n20_ := zm ((by rw [hg]; exact Nat.ne_of_gt (blk_lt (g := gb0d) (o := .cells #[.bool false, .slice none 0 0] 27 (0, 0)) (zk BK0d.out)) : gb0w ≠ gb0d)); have n21_ := zm ((by rw [hg]; exact Nat.ne_of_lt (blk_lt (g := gb0q) (o := .cells #[.bool t0l, .slice Ao56 t0m.length co56] 27 (0, 0)) (zk BK0q.out)) : gb0q ≠ gb0w)); have n22_ := zm ((by rw [hg]; exact Nat.ne_of_gt (blk_lt (g := gb0q) (o := .cells #[.bool t0l, .slice Ao56 t0m.length co56] 27 (0, 0)) (zk BK0q.out)) : gb0w ≠ gb0q)); clear HO0h; clear HO0k; clear HO0o; clear HO0u; clear BK0a; clear BK0b; clear BK0c; clear BK0d; clear BK0q; clear HB; have HO0h := n0_; have HO0k := n1_; have HO0o := n2_; have HO0u := n3_; have BK0a := n4_; have BK0b := n5_; have BK0c := n6_; have BK0d := n7_; have BK0q := n8_; have HB := n9_; have BK0w := n10_; have GW0w := n11_; have GE0w := n12_; have NB0a_0w := n13_; have NB0w_0a := n14_; have NB0b_0w := n15_; have NB0w_0b := n16_; have NB0c_0w := n17_; have NB0w_0c := n18_; have NB0d_0w := n19_; have NB0w_0d := n20_; have NB0q_0w := n21_; have NB0w_0q := n22_; clear n0_ n1_ n2_ n3_ n4_ n5_ n6_ n7_ n8_ n9_ n10_ n11_ n12_ n13_ n14_ n15_ n16_ n17_ n18_ n19_ n20_ n21_ n22_; clear hb hbox hg; have hnb62 := NB0w_0a.out; have hnc62 := NB0a_0w.out; have hnb63 := NB0w_0b.out; have hnc63 := NB0b_0w.out; have hnb64 := NB0w_0c.out; have hnc64 := NB0c_0w.out; have hnb65 := NB0w_0d.out; have hnc65 := NB0d_0w.out; have hnb66 := NB0w_0q.out; have hnc66 := NB0q_0w.out; have hcz67_0 : w61.cell? ⟨gb0w, 0, none⟩ = some (.bool false) := (blk_cell BK0w.out 0).trans rfl; have hcz67_1 : w61.cell? ⟨gb0w, 1, none⟩ = some (.slice none 0 0) := (blk_cell BK0w.out 1).trans rfl; have hfz67_0 := blk_frozen BK0w.out 0; have hfz67_1 := blk_frozen BK0w.out 1; obtain ⟨Ao68, co68, eo68⟩ := Kd.V_slice HO0u.out; subst eo68))
        have n0_ : Aside0 (Kd.V (Kd.int .i64) 3 ((w61.setCell ⟨gb0w, 0, none⟩ (.bool t0r)).setCell ⟨gb0w, 1, none⟩ (.slice Ao68 t0s.length co68)) w.heap.size (fun k_ => (w.heap.size ≤ k_) ∧ k_ ≠ gb0a ∧ k_ ≠ gb0b ∧ k_ ≠ gb0c ∧ k_ ≠ gb0d ∧ k_ ≠ gb0q ∧ k_ ≠ gb0w) (.slice Ao48 t0f.length co48) t0f) := ⟨by (with_reducible repeat (first | apply Kd.V_alloc | apply Kd.V_drewN | apply Kd.V_drew)); exact Kd.V_mono (Kd.V_far (p := ⟨gb0w, 1, none⟩) (Kd.V_far (p := ⟨gb0w, 0, none⟩) (Kd.V_mono HO0h.out (fun k_ hk => (⟨hk, hk.2⟩ : _ ∧ k_ ≠ gb0w))) (fun _ hk => hk.2) (.bool t0r)) (fun _ hk => hk.2) (.slice Ao68 t0s.length co68)) (fun _ hk => ⟨hk.1.1.1, ⟨hk.1.1.2.1, ⟨hk.1.1.2.2.1, ⟨hk.1.1.2.2.2.1, ⟨hk.1.1.2.2.2.2.1, ⟨hk.1.1.2.2.2.2.2, hk.1.2⟩⟩⟩⟩⟩⟩)⟩
        have n1_ : Aside0 (Kd.V (Kd.int .i64) 3 ((w61.setCell ⟨gb0w, 0, none⟩ (.bool t0r)).setCell ⟨gb0w, 1, none⟩ (.slice Ao68 t0s.length co68)) w.heap.size (fun k_ => (w.heap.size ≤ k_) ∧ k_ ≠ gb0a ∧ k_ ≠ gb0b ∧ k_ ≠ gb0c ∧ k_ ≠ gb0d ∧ k_ ≠ gb0q ∧ k_ ≠ gb0w) (.slice Ao59 t0i.length co59) t0i) := ⟨by (with_reducible repeat (first | apply Kd.V_alloc | apply Kd.V_drewN | apply Kd.V_drew)); exact Kd.V_mono (Kd.V_far (p := ⟨gb0w, 1, none⟩) (Kd.V_far (p := ⟨gb0w, 0, none⟩) (Kd.V_mono HO0k.out (fun k_ hk => (⟨hk, hk.2⟩ : _ ∧ k_ ≠ gb0w))) (fun _ hk => hk.2) (.bool t0r)) (fun _ hk => hk.2) (.slice Ao68 t0s.length co68)) (fun _ hk => ⟨hk.1.1.1, ⟨hk.1.1.2.1, ⟨hk.1.1.2.2.1, ⟨hk.1.1.2.2.2.1, ⟨hk.1.1.2.2.2.2.1, ⟨hk.1.1.2.2.2.2.2, hk.1.2⟩⟩⟩⟩⟩⟩)⟩
        have n2_ : Aside0 (Kd.V (Kd.int .i64) 3 ((w61.setCell ⟨gb0w, 0, none⟩ (.bool t0r)).setCell ⟨gb0w, 1, none⟩ (.slice Ao68 t0s.length co68)) w.heap.size (fun k_ => (w.heap.size ≤ k_) ∧ k_ ≠ gb0a ∧ k_ ≠ gb0b ∧ k_ ≠ gb0c ∧ k_ ≠ gb0d ∧ k_ ≠ gb0q ∧ k_ ≠ gb0w) (.slice Ao56 t0m.length co56) t0m) := ⟨by (with_reducible repeat (first | apply Kd.V_alloc | apply Kd.V_drewN | apply Kd.V_drew)); exact Kd.V_mono (Kd.V_far (p := ⟨gb0w, 1, none⟩) (Kd.V_far (p := ⟨gb0w, 0, none⟩) (Kd.V_mono HO0o.out (fun k_ hk => (⟨hk, hk.2⟩ : _ ∧ k_ ≠ gb0w))) (fun _ hk => hk.2) (.bool t0r)) (fun _ hk => hk.2) (.slice Ao68 t0s.length co68)) (fun _ hk => ⟨hk.1.1.1, ⟨hk.1.1.2.1, ⟨hk.1.1.2.2.1, ⟨hk.1.1.2.2.2.1, ⟨hk.1.1.2.2.2.2.1, ⟨hk.1.1.2.2.2.2.2, hk.1.2⟩⟩⟩⟩⟩⟩)⟩
        have n3_ : Aside0 (Kd.V (Kd.int .i64) 3 ((w61.setCell ⟨gb0w, 0, none⟩ (.bool t0r)).setCell ⟨gb0w, 1, none⟩ (.slice Ao68 t0s.length co68)) w.heap.size (fun k_ => (w.heap.size ≤ k_) ∧ k_ ≠ gb0a ∧ k_ ≠ gb0b ∧ k_ ≠ gb0c ∧ k_ ≠ gb0d ∧ k_ ≠ gb0q ∧ k_ ≠ gb0w) (.slice Ao68 t0s.length co68) t0s) := ⟨by (with_reducible repeat (first | apply Kd.V_alloc | apply Kd.V_drewN | apply Kd.V_drew)); exact Kd.V_mono (Kd.V_far (p := ⟨gb0w, 1, none⟩) (Kd.V_far (p := ⟨gb0w, 0, none⟩) (Kd.V_mono HO0u.out (fun k_ hk => (⟨hk, hk.2⟩ : _ ∧ k_ ≠ gb0w))) (fun _ hk => hk.2) (.bool t0r)) (fun _ hk => hk.2) (.slice Ao68 t0s.length co68)) (fun _ hk => ⟨hk.1.1.1, ⟨hk.1.1.2.1, ⟨hk.1.1.2.2.1, ⟨hk.1.1.2.2.2.1, ⟨hk.1.1.2.2.2.2.1, ⟨hk.1.1.2.2.2.2.2, hk.1.2⟩⟩⟩⟩⟩⟩)⟩
        have n4_ : Aside0 (((w61.setCell ⟨gb0w, 0, none⟩ (.bool t0r)).setCell ⟨gb0w, 1, none⟩ (.slice Ao68 t0s.length co68)).heap[gb0a]? = some (.cells #[.bool a0_0, .slice A0_1 l0_1.length c0_1] 27 (0, 0))) := ⟨by (with_reducible repeat (first | refine blk_drewN ?_ _ | refine blk_drew ?_ | refine blk_alloc ?_ _)); refine blk_far ?_ NB0a_0w.out _; (with_reducible repeat (first | refine blk_drewN ?_ _ | refine blk_drew ?_ | refine blk_alloc ?_ _)); refine blk_far ?_ NB0a_0w.out _; (with_reducible repeat (first | refine blk_drewN ?_ _ | refine blk_drew ?_ | refine blk_alloc ?_ _)); exact BK0a.out⟩
        have n5_ : Aside0 (((w61.setCell ⟨gb0w, 0, none⟩ (.bool t0r)).setCell ⟨gb0w, 1, none⟩ (.slice Ao68 t0s.length co68)).heap[gb0b]? = some (.cells #[.bool a1_0, .slice A1_1 l1_1.length c1_1] 27 (0, 0))) := ⟨by (with_reducible repeat (first | refine blk_drewN ?_ _ | refine blk_drew ?_ | refine blk_alloc ?_ _)); refine blk_far ?_ NB0b_0w.out _; (with_reducible repeat (first | refine blk_drewN ?_ _ | refine blk_drew ?_ | refine blk_alloc ?_ _)); refine blk_far ?_ NB0b_0w.out _; (with_reducible repeat (first | refine blk_drewN ?_ _ | refine blk_drew ?_ | refine blk_alloc ?_ _)); exact BK0b.out⟩
        have n6_ : Aside0 (((w61.setCell ⟨gb0w, 0, none⟩ (.bool t0r)).setCell ⟨gb0w, 1, none⟩ (.slice Ao68 t0s.length co68)).heap[gb0c]? = some (.cells #[.bool false, .slice none 0 0] 27 (0, 0))) := ⟨by (with_reducible repeat (first | refine blk_drewN ?_ _ | refine blk_drew ?_ | refine blk_alloc ?_ _)); refine blk_far ?_ NB0c_0w.out _; (with_reducible repeat (first | refine blk_drewN ?_ _ | refine blk_drew ?_ | refine blk_alloc ?_ _)); refine blk_far ?_ NB0c_0w.out _; (with_reducible repeat (first | refine blk_drewN ?_ _ | refine blk_drew ?_ | refine blk_alloc ?_ _)); exact BK0c.out⟩
        have n7_ : Aside0 (((w61.setCell ⟨gb0w, 0, none⟩ (.bool t0r)).setCell ⟨gb0w, 1, none⟩ (.slice Ao68 t0s.length co68)).heap[gb0d]? = some (.cells #[.bool false, .slice none 0 0] 27 (0, 0))) := ⟨by (with_reducible repeat (first | refine blk_drewN ?_ _ | refine blk_drew ?_ | refine blk_alloc ?_ _)); refine blk_far ?_ NB0d_0w.out _; (with_reducible repeat (first | refine blk_drewN ?_ _ | refine blk_drew ?_ | refine blk_alloc ?_ _)); refine blk_far ?_ NB0d_0w.out _; (with_reducible repeat (first | refine blk_drewN ?_ _ | refine blk_drew ?_ | refine blk_alloc ?_ _)); exact BK0d.out⟩
        have n8_ : Aside0 (((w61.setCell ⟨gb0w, 0, none⟩ (.bool t0r)).setCell ⟨gb0w, 1, none⟩ (.slice Ao68 t0s.length co68)).heap[gb0q]? = some (.cells #[.bool t0l, .slice Ao56 t0m.length co56] 27 (0, 0))) := ⟨by (with_reducible repeat (first | refine blk_drewN ?_ _ | refine blk_drew ?_ | refine blk_alloc ?_ _)); refine blk_far ?_ NB0q_0w.out _; (with_reducible repeat (first | refine blk_drewN ?_ _ | refine blk_drew ?_ | refine blk_alloc ?_ _)); refine blk_far ?_ NB0q_0w.out _; (with_reducible repeat (first | refine blk_drewN ?_ _ | refine blk_drew ?_ | refine blk_alloc ?_ _)); exact BK0q.out⟩
        have n9_ : Aside0 (((w61.setCell ⟨gb0w, 0, none⟩ (.bool t0r)).setCell ⟨gb0w, 1, none⟩ (.slice Ao68 t0s.length co68)).heap[gb0w]? = some (.cells #[.bool t0r, .slice Ao68 t0s.length co68] 27 (0, 0))) := ⟨by (with_reducible repeat (first | refine blk_drewN ?_ _ | refine blk_drew ?_ | refine blk_alloc ?_ _)); refine blk_put (cs := #[.bool t0r, .slice none 0 0]) ?_ 1 _ rfl; (with_reducible repeat (first | refine blk_drewN ?_ _ | refine blk_drew ?_ | refine blk_alloc ?_ _)); refine blk_put (cs := #[.bool false, .slice none 0 0]) ?_ 0 _ rfl; (with_reducible repeat (first | refine blk_drewN ?_ _ | refine blk_drew ?_ | refine blk_alloc ?_ _)); exact BK0w.out⟩
        have n10_ : Aside0 (Below w.heap.size w ((w61.setCell ⟨gb0w, 0, none⟩ (.bool t0r)).setCell ⟨gb0w, 1, none⟩ (.slice Ao68 t0s.length co68))) := ⟨zb⟩
        (try clear HO0h); (try clear HO0k); (try clear HO0o); (try clear HO0u); (try clear BK0a); (try clear BK0b); (try clear BK0c); (try clear BK0d); (try clear BK0q); (try clear BK0w); (try clear HB)
        generalize ((w61.setCell ⟨gb0w, 0, none⟩ (.bool t0r)).setCell ⟨gb0w, 1, none⟩ (.slice Ao68 t0s.length co68)) = w69 at n0_ n1_ n2_ n3_ n4_ n5_ n6_ n7_ n8_ n9_ n10_ ⊢
        have HO0h := n0_; have HO0k := n1_; have HO0o := n2_; have HO0u := n3_; have BK0a := n4_; have BK0b := n5_; have BK0c := n6_; have BK0d := n7_; have BK0q := n8_; have BK0w := n9_; have HB := n10_; clear n0_ n1_ n2_ n3_ n4_ n5_ n6_ n7_ n8_ n9_ n10_; have n0_ := zm (Kd.V_drew HO0h.out); have n1_ := zm (Kd.V_drew HO0k.out); have n2_ := zm (Kd.V_drew HO0o.out); have n3_ := zm (Kd.V_drew HO0u.out); have n4_ := zm (blk_drew BK0a.out); have n5_ := zm (blk_drew BK0b.out); have n6_ := zm (blk_drew BK0c.out); have n7_ := zm (blk_drew BK0d.out); have n8_ := zm (blk_drew BK0q.out); have n9_ := zm (blk_drew BK0w.out); have n10_ := zm (below_drew1 HB.out); clear HO0h; clear HO0k; clear HO0o; clear HO0u; clear BK0a; clear BK0b; clear BK0c; clear BK0d; clear BK0q; clear BK0w; clear HB; have HO0h := n0_; have HO0k := n1_; have HO0o := n2_; have HO0u := n3_; have BK0a := n4_; have BK0b := n5_; have BK0c := n6_; have BK0d := n7_; have BK0q := n8_; have BK0w := n9_; have HB := n10_; clear n0_ n1_ n2_ n3_ n4_ n5_ n6_ n7_ n8_ n9_ n10_; (refine start_ (n := 5) (S := fun w' => w'.cell? ⟨gb0q, 0, none⟩ = some (.bool t0l) ∧ w'.cell? ⟨gb0q, 1, none⟩ = some (.slice Ao56 t0m.length co56) ∧ w'.cell? ⟨gb0w, 0, none⟩ = some (.bool t0r) ∧ w'.cell? ⟨gb0w, 1, none⟩ = some (.slice Ao68 t0s.length co68)) (ds := []) #[false, false, false, false, false] (by kernel_rfl) rfl rfl ⟨(blk_cell BK0q.out 0).trans rfl, (blk_cell BK0q.out 1).trans rfl, (blk_cell BK0w.out 0).trans rfl, (blk_cell BK0w.out 1).trans rfl⟩ (fun hHeld => ?_))
        generalize w69.drew = w70 at HO0h HO0k HO0o HO0u BK0a BK0b BK0c BK0d BK0q BK0w HB hHeld ⊢
        (refine take_ (i := 0) (N := some 50) (v := ?_) (a' := ?_) #[true, false, false, false, false] rfl rfl (by kernel_rfl) (fun _ _ _ h => h) (Or.inl ⟨by rfl, ?_⟩) hHeld ?_ ?_); rotate_left
        · rintro w' ⟨s0, s1, s2, s3⟩
          go_simp
          with_reducible rfl
        rotate_left
        · simp only [Act.put, zs, zs0, zs1, i64_w, i32_w]
          rfl
        (refine take_ (i := 1) (N := some 51) (v := ?_) (a' := ?_) #[true, true, false, false, false] rfl rfl (by kernel_rfl) (fun _ _ _ h => h) (Or.inl ⟨by rfl, ?_⟩) hHeld ?_ ?_); rotate_left
        · rintro w' ⟨s0, s1, s2, s3⟩
          go_simp
          with_reducible rfl
        rotate_left
        · simp only [Act.put, zs, zs0, zs1, i64_w, i32_w]
          rfl
        (refine one_ (i := 2) (N := none) #[true, true, true, false, false] rfl rfl (by kernel_rfl) (by decide) (fun K hK => ?_)); have hs71 : w70.cell? ⟨gb0c, 0, none⟩ = some (.bool false) := (blk_cell BK0c.out 0).trans rfl; have hfs71 := blk_frozen BK0c.out 0; have hns71_0 := NB0a_0c.out; have hns71_1 := NB0b_0c.out; have hns71_3 := NB0d_0c.out; have hns71_4 := NB0q_0c.out; have hns71_5 := NB0w_0c.out; have hms71_0 := NB0c_0a.out; have hms71_1 := NB0c_0b.out; have hms71_3 := NB0c_0d.out; have hms71_4 := NB0c_0q.out; have hms71_5 := NB0c_0w.out; have hs72 : w70.cell? ⟨gb0c, 1, none⟩ = some (.slice none 0 0) := (blk_cell BK0c.out 1).trans rfl; have hfs72 := blk_frozen BK0c.out 1; have hns72_0 := NB0a_0c.out; have hns72_1 := NB0b_0c.out; have hns72_3 := NB0d_0c.out; have hns72_4 := NB0q_0c.out; have hns72_5 := NB0w_0c.out; have hms72_0 := NB0c_0a.out; have hms72_1 := NB0c_0b.out; have hms72_3 := NB0c_0d.out; have hms72_4 := NB0c_0q.out; have hms72_5 := NB0c_0w.out; (refine skip_ (w1 := ?_) (by rfl) rfl ?_ ?_); rotate_left
        · go_simp
          rfl
        (refine hK.out _ _ ⟨((cell_far (p := ⟨gb0c, _, none⟩) NB0q_0c.out _).trans (((cell_far (p := ⟨gb0c, _, none⟩) NB0q_0c.out _).trans (hHeld.1)))), ((cell_far (p := ⟨gb0c, _, none⟩) NB0q_0c.out _).trans (((cell_far (p := ⟨gb0c, _, none⟩) NB0q_0c.out _).trans (hHeld.2.1)))), ((cell_far (p := ⟨gb0c, _, none⟩) NB0w_0c.out _).trans (((cell_far (p := ⟨gb0c, _, none⟩) NB0w_0c.out _).trans (hHeld.2.2.1)))), ((cell_far (p := ⟨gb0c, _, none⟩) NB0w_0c.out _).trans (((cell_far (p := ⟨gb0c, _, none⟩) NB0w_0c.out _).trans (hHeld.2.2.2))))⟩ (fun hHeld => ?_)); clear hK K; (refine one_ (i := 3) (N := none) #[true, true, true, true, false] rfl rfl (by kernel_rfl) (by decide) (fun K hK => ?_)); have hs73 : w70.cell? ⟨gb0d, 0, none⟩ = some (.bool false) := (blk_cell BK0d.out 0).trans rfl; have hfs73 := blk_frozen BK0d.out 0; have hns73_0 := NB0a_0d.out; have hns73_1 := NB0b_0d.out; have hns73_2 := NB0c_0d.out; have hns73_4 := NB0q_0d.out; have hns73_5 := NB0w_0d.out; have hms73_0 := NB0d_0a.out; have hms73_1 := NB0d_0b.out; have hms73_2 := NB0d_0c.out; have hms73_4 := NB0d_0q.out; have hms73_5 := NB0d_0w.out; have hs74 : w70.cell? ⟨gb0d, 1, none⟩ = some (.slice none 0 0) := (blk_cell BK0d.out 1).trans rfl; have hfs74 := blk_frozen BK0d.out 1; have hns74_0 := NB0a_0d.out; have hns74_1 := NB0b_0d.out; have hns74_2 := NB0c_0d.out; have hns74_4 := NB0q_0d.out; have hns74_5 := NB0w_0d.out; have hms74_0 := NB0d_0a.out; have hms74_1 := NB0d_0b.out; have hms74_2 := NB0d_0c.out; have hms74_4 := NB0d_0q.out; have hms74_5 := NB0d_0w.out; (refine skip_ (w1 := ?_) (by rfl) rfl ?_ ?_); rotate_left
        · go_simp
          rfl
        (refine hK.out _ _ ⟨((cell_far (p := ⟨gb0d, _, none⟩) NB0q_0d.out _).trans (((cell_far (p := ⟨gb0d, _, none⟩) NB0q_0d.out _).trans (hHeld.1)))), ((cell_far (p := ⟨gb0d, _, none⟩) NB0q_0d.out _).trans (((cell_far (p := ⟨gb0d, _, none⟩) NB0q_0d.out _).trans (hHeld.2.1)))), ((cell_far (p := ⟨gb0d, _, none⟩) NB0w_0d.out _).trans (((cell_far (p := ⟨gb0d, _, none⟩) NB0w_0d.out _).trans (hHeld.2.2.1)))), ((cell_far (p := ⟨gb0d, _, none⟩) NB0w_0d.out _).trans (((cell_far (p := ⟨gb0d, _, none⟩) NB0w_0d.out _).trans (hHeld.2.2.2))))⟩ (fun hHeld => ?_)); clear hK K; (refine pure_ (i := 4) (N := some 6) (v := ?_) (a' := ?_) #[true, true, true, true, true] rfl rfl (by kernel_rfl) (fun _ _ _ h => h) (Or.inl ⟨by rfl, ?_⟩) ?_ ?_); rotate_left
        · intro w'
          go_simp
          with_reducible rfl
        rotate_left
        · simp only [Act.put, zs, zs0, zs1, i64_w, i32_w]
          rfl
        (refine done_ (by kernel_rfl) ?_); (try go_wp2); (refine bodyPost_ret (results_list (rs := [.cell 4 27, .cell 5 27, .tmp 6]) rfl (by simp) (.cell gb0c 27 #[.bool t0l, .slice Ao56 t0m.length co56] (0, 0) _ rfl (by (with_reducible repeat (first | refine blk_drewN ?_ _ | refine blk_drew ?_ | refine blk_alloc ?_ _)); refine blk_far ?_ NB0c_0d.out _; (with_reducible repeat (first | refine blk_drewN ?_ _ | refine blk_drew ?_ | refine blk_alloc ?_ _)); refine blk_far ?_ NB0c_0d.out _; (with_reducible repeat (first | refine blk_drewN ?_ _ | refine blk_drew ?_ | refine blk_alloc ?_ _)); refine blk_put (cs := #[.bool t0l, .slice none 0 0]) ?_ 1 _ rfl; (with_reducible repeat (first | refine blk_drewN ?_ _ | refine blk_drew ?_ | refine blk_alloc ?_ _)); refine blk_put (cs := #[.bool false, .slice none 0 0]) ?_ 0 _ rfl; (with_reducible repeat (first | refine blk_drewN ?_ _ | refine blk_drew ?_ | refine blk_alloc ?_ _)); exact BK0c.out) Try.underlying27 rfl (by kernel_rfl) (.cell gb0d 27 #[.bool t0r, .slice Ao68 t0s.length co68] (0, 0) _ rfl (by (with_reducible repeat (first | refine blk_drewN ?_ _ | refine blk_drew ?_ | refine blk_alloc ?_ _)); refine blk_put (cs := #[.bool t0r, .slice none 0 0]) ?_ 1 _ rfl; (with_reducible repeat (first | refine blk_drewN ?_ _ | refine blk_drew ?_ | refine blk_alloc ?_ _)); refine blk_put (cs := #[.bool false, .slice none 0 0]) ?_ 0 _ rfl; (with_reducible repeat (first | refine blk_drewN ?_ _ | refine blk_drew ?_ | refine blk_alloc ?_ _)); refine blk_far ?_ NB0d_0c.out _; (with_reducible repeat (first | refine blk_drewN ?_ _ | refine blk_drew ?_ | refine blk_alloc ?_ _)); refine blk_far ?_ NB0d_0c.out _; (with_reducible repeat (first | refine blk_drewN ?_ _ | refine blk_drew ?_ | refine blk_alloc ?_ _)); exact BK0d.out) Try.underlying27 rfl (by kernel_rfl) (.tmp .nil)))) rfl ?_); (exact ⟨_, _, by first | rfl | (simp [errW_none, errW_some] <;> rfl) | (simp [*, errW_none, errW_some] <;> rfl), by (with_reducible repeat (first | apply Kd.V_alloc | apply Kd.V_drewN | apply Kd.V_drew)); exact Kd.V_mono (Kd.V_far (p := ⟨gb0d, 1, none⟩) (Kd.V_far (p := ⟨gb0d, 0, none⟩) (Kd.V_far (p := ⟨gb0c, 1, none⟩) (Kd.V_far (p := ⟨gb0c, 0, none⟩) (Kd.V_mono (Kd.V_mono HO0o.out (fun k_ hk => (⟨hk, hk.2.2.2.1⟩ : _ ∧ k_ ≠ gb0c))) (fun k_ hk => (⟨hk, hk.1.2.2.2.2.1⟩ : _ ∧ k_ ≠ gb0d))) (fun _ hk => hk.1.2) (.bool t0l)) (fun _ hk => hk.1.2) (.slice Ao56 t0m.length co56)) (fun _ hk => hk.2) (.bool t0r)) (fun _ hk => hk.2) (.slice Ao68 t0s.length co68)) (fun _ hk => hk.1.1.1), by (with_reducible repeat (first | apply Kd.V_alloc | apply Kd.V_drewN | apply Kd.V_drew)); exact Kd.V_mono (Kd.V_far (p := ⟨gb0d, 1, none⟩) (Kd.V_far (p := ⟨gb0d, 0, none⟩) (Kd.V_far (p := ⟨gb0c, 1, none⟩) (Kd.V_far (p := ⟨gb0c, 0, none⟩) (Kd.V_mono (Kd.V_mono HO0u.out (fun k_ hk => (⟨hk, hk.2.2.2.1⟩ : _ ∧ k_ ≠ gb0c))) (fun k_ hk => (⟨hk, hk.1.2.2.2.2.1⟩ : _ ∧ k_ ≠ gb0d))) (fun _ hk => hk.1.2) (.bool t0l)) (fun _ hk => hk.1.2) (.slice Ao56 t0m.length co56)) (fun _ hk => hk.2) (.bool t0r)) (fun _ hk => hk.2) (.slice Ao68 t0s.length co68)) (fun _ hk => hk.1.1.1), zb⟩)
end Go.Proofs.Ytdemeoncjcbojaa.Pr
end
