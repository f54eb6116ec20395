/- What the claim's row needs of the contracts and words below it, and no more. -/
import Derived.Test.YtdbgpoileffbeaaGreatDoorQDw0
import Derived.Test.YtdbgpoileffbeaaGreatDoorProg
import Derived.Below
import Derived.Deep.Draws
import Derived.Deep.AppendLies
import Derived.Maps.AppendAt
import Derived.OwnWalk
import Derived.Laws.BytesArg
import Derived.Laws.MakeOwn
import Derived.Laws.OwnMore
import Derived.Deep.OwnRows
import Derived.Tactics
import Derived.Lib.ConvBytes
import Derived.Laws.Slices
import Derived.WalkKit
import Derived.KernelRfl
import Derived.RowKit3
import Derived.Deep.LoopGhost
import Derived.Deep.QuietTactic
import Derived.BigQuiet
import Derived.WideLaws
import Derived.Deep.DeepCutAuto
import Derived.Deep.CutBlock
import Derived.Deep.RegionHeld3
import Derived.Laws.Rows
import Derived.Lib.AppendStr
import Derived.ArgAppend
import Derived.Laws.IdiomCopy
import Derived.OrdersHeld
import Derived.Laws.BitsLemmas
import Derived.RowKit
import Derived.Lib.SliceRun
import Derived.RangeFuncNested
import Derived.RangeFuncBound
import Derived.RangeFuncCalls
import Derived.RangeFuncLeaves
import Derived.RangeFuncBox
import Derived.Shelf.Abstract
import Derived.Shelf.RegionOpen
import Derived.OwnWalkIn
import Derived.TacticsInMore
import Derived.LoopNIn
import Derived.LoopIn
import Derived.Shelf.Small.Wraps
import Derived.Shelf.Strings.BuilderK
import Derived.Shelf.LaysM
import Derived.Shelf.Strconv.Itoa3
import Derived.Shelf.Strconv.AtoiAll
import Derived.Shelf.Strings.Cut
import Derived.Shelf.Strings.Repeat
import Derived.Lib.SmallJoins
import Derived.Lib.AppendIntMem
import Derived.Lib.AtoiErrMem
import Derived.Lib.ItoaNum
import Derived.Lib.Atoi
section
namespace Go.Proofs.YtdbgpoileffbeaaGreatDoor
open Go.RowKit Go.Proofs.YtdbgpoileffbeaaGreatDoorW.PrintWords Go.Proofs.YtdbgpoileffbeaaGreatDoorW.PrintLast Go.Proofs.YtdbgpoileffbeaaGreatDoorW.PrintMore
/-- What the walk has drawn, made and written since lies above. -/
theorem zb {A : Prop} (p : A := by repeat (first | (with_reducible first | exact HB.out | apply below_alloc | apply pw_below_drewN | apply below_drew1 | refine below_set ?_ (Aside0.out (by assumption))) | exact HB.out)) : A := p
/-- A block stays through what is drawn, made or written elsewhere. -/
theorem zk {A B : Prop} (h : A) (p : A → B := by intro h_; (with_reducible repeat (first | exact h_ | refine blk_drewN ?_ _ | refine blk_drew ?_ | refine blk_alloc ?_ _ | refine blk_far ?_ (Aside0.out (by assumption)) _)); try exact h_) : B := p h
/-- A row stays through what is drawn and made. -/
theorem zV {A B : Prop} (h : A) (p : A → B := by intro h_; (with_reducible repeat (first | apply Kd.V_alloc | apply Kd.V_drewN | apply Kd.V_drew)); exact h_) : B := p h
/-- A row stays through what is drawn and made. -/
theorem zR {A B : Prop} (h : A) (p : A → B := by intro h_; (with_reducible repeat (first | apply Kd.R_alloc | apply Kd.R_drewN | apply Kd.R_drew)); exact h_) : B := p h
/-- A row stays through what is drawn and made. -/
theorem zC {A B : Prop} (h : A) (p : A → B := by intro h_; (with_reducible repeat (first | apply Kd.C_alloc | apply Kd.C_drewN | apply Kd.C_drew)); exact h_) : B := p h
/-- The arguments as they stand. -/
theorem za {A : Prop} (p : A := by (try simp only [List.map_toArray, List.map_cons, List.map_nil]); first | done | rfl | (simp only [List.length_drop, List.length_take]; rfl)) : A := p
/-- A row that may be written stays through what is drawn and made. -/
theorem zRW {A B : Prop} (h : A) (p : A → B := by intro h_; (with_reducible repeat (first | apply Kd.RW_alloc | apply Kd.RW_drewN | apply Kd.RW_drew)); exact h_) : B := p h
/-- Set aside. -/
theorem zm {p : Prop} (h : p) : Aside0 p := Aside0.mk h
/-- What is read stays through what is drawn and made. -/
theorem zc {A B : Prop} (h : A) (p : A → B := by intro h_; repeat (first | exact h_ | (with_reducible refine Kd.C_alloc ?_ _) | (with_reducible refine Kd.C_drewN ?_ _) | (with_reducible refine Kd.C_drew ?_))) : B := p h
/-- Cells of a frame. -/
theorem zs {α : Type} (l : List α) (i : Nat) (a : α) : l.toArray.setIfInBounds i a = (l.set i a).toArray := List.setIfInBounds_toArray ..
theorem zs0 {α : Type} (x : α) (l : List α) (a : α) : (x :: l).set 0 a = a :: l := rfl
theorem zs1 {α : Type} (x : α) (l : List α) (n : Nat) (a : α) : (x :: l).set (n + 1) a = x :: l.set n a := rfl
end Go.Proofs.YtdbgpoileffbeaaGreatDoor
namespace Go.Proofs.YtdbgpoileffbeaaGreatDoor.Jt
def pw (n : Nat) : Int := 10000 ^ n
theorem pw_zero : pw 0 = 1 := rfl
theorem pw_succ (n : Nat) : pw (n + 1) = 10000 * pw n := by unfold pw; rw [Int.pow_succ]; omega
theorem pw_pos (n : Nat) : 1 ≤ pw n := by
  induction n with
  | zero => decide
  | succ n ih => rw [pw_succ]; omega
theorem pw_mono {m n : Nat} (h : m ≤ n) : pw m ≤ pw n := by
  obtain ⟨d, rfl⟩ := Nat.exists_eq_add_of_le h
  induction d with
  | zero => exact Int.le_refl _
  | succ d ih =>
    have h1 := ih (by omega)
    have h2 := pw_pos (m + d)
    rw [show m + (d + 1) = (m + d) + 1 from rfl, pw_succ]
    omega
def val : List Int → Int
  | [] => 0
  | x :: xs => x + 10000 * val xs
def Dig (l : List Int) : Prop := ∀ x ∈ l, 0 ≤ x ∧ x ≤ 9999
def Nz (l : List Int) : Prop := l.length = 0 ∨ l.getD (l.length - 1) 0 ≠ 0
theorem getD_lt {l : List Int} {i : Nat} (h : i < l.length) : l.getD i 0 = l[i] := by rw [List.getD_eq_getElem?_getD, List.getElem?_eq_getElem h]; rfl
theorem getD_ge {l : List Int} {i : Nat} (h : l.length ≤ i) : l.getD i 0 = 0 := by rw [List.getD_eq_getElem?_getD, List.getElem?_eq_none h]; rfl
theorem val_nil : val [] = 0 := rfl
theorem val_append (a b : List Int) : val (a ++ b) = val a + pw a.length * val b := by
  induction a with
  | nil => simp [val, pw_zero]
  | cons x xs ih => simp only [List.cons_append, val, ih, List.length_cons, pw_succ]; rw [Int.mul_add, Int.mul_assoc]; omega
theorem Dig.nil : Dig [] := fun x h => by cases h
theorem Dig.cons {x : Int} {xs : List Int} (h0 : 0 ≤ x) (h1 : x ≤ 9999) (h : Dig xs) : Dig (x :: xs) := by
  intro y hy
  rcases List.mem_cons.1 hy with rfl | hy
  · exact ⟨h0, h1⟩
  · exact h y hy
theorem Dig.head {x : Int} {xs : List Int} (h : Dig (x :: xs)) : 0 ≤ x ∧ x ≤ 9999 := h x (by simp)
theorem Dig.tail {x : Int} {xs : List Int} (h : Dig (x :: xs)) : Dig xs := fun y hy => h y (by simp [hy])
theorem Dig.take {l : List Int} (h : Dig l) (n : Nat) : Dig (l.take n) := fun x hx => h x (List.mem_of_mem_take hx)
theorem Dig.getD {l : List Int} (h : Dig l) (i : Nat) : 0 ≤ l.getD i 0 ∧ l.getD i 0 ≤ 9999 := by
  by_cases hi : i < l.length
  · rw [getD_lt hi]; exact h _ (List.getElem_mem hi)
  · rw [getD_ge (by omega)]; omega
theorem val_nonneg {l : List Int} (h : Dig l) : 0 ≤ val l := by
  induction l with
  | nil => exact Int.le_refl _
  | cons x xs ih =>
    have h1 := ih h.tail
    have h2 := h.head
    simp only [val]; omega
theorem val_lt {l : List Int} (h : Dig l) : val l < pw l.length := by
  induction l with
  | nil => decide
  | cons x xs ih =>
    have h1 := ih h.tail
    have h2 := h.head
    simp only [val, List.length_cons, pw_succ]; omega
theorem getD_set (l : List Int) (i j : Nat) (v : Int) (h : i < l.length) : (l.set i v).getD j 0 = if j = i then v else l.getD j 0 := by
  by_cases hj : j = i
  · subst hj
    rw [if_pos rfl, List.getD_eq_getElem?_getD, List.getElem?_set_self h]; rfl
  · rw [if_neg hj, List.getD_eq_getElem?_getD, List.getElem?_set_ne (Ne.symm hj), List.getD_eq_getElem?_getD]
theorem val_split (l : List Int) {n : Nat} (h : n ≤ l.length) : val l = val (l.take n) + pw n * val (l.drop n) := by
  have := val_append (l.take n) (l.drop n)
  rw [List.take_append_drop, List.length_take, Nat.min_eq_left h] at this
  exact this
theorem drop_cons {l : List Int} {n : Nat} (h : n < l.length) : l.drop n = l.getD n 0 :: l.drop (n + 1) := by
  rw [List.drop_eq_getElem_cons h, getD_lt h]
theorem val_zeros {l : List Int} (h : ∀ i, i < l.length → l.getD i 0 = 0) : val l = 0 := by
  induction l with
  | nil => rfl
  | cons x xs ih =>
    have h0 := h 0 (by simp)
    have h1 := ih (fun i hi => by have := h (i + 1) (by simpa using hi); simpa using this)
    simp at h0
    simp only [val, h0, h1]; decide
theorem val_ge {l : List Int} (h : Dig l) (hz : Nz l) (hne : 0 < l.length) : pw (l.length - 1) ≤ val l := by
  have hs := val_split l (n := l.length - 1) (by omega)
  rw [drop_cons (by omega), show l.length - 1 + 1 = l.length from by omega, List.drop_length] at hs
  have h1 := val_nonneg (h.take (l.length - 1))
  have h2 := h.getD (l.length - 1)
  have h3 : l.getD (l.length - 1) 0 ≠ 0 := hz.resolve_left (by omega)
  have hp := pw_pos (l.length - 1)
  simp only [val] at hs
  have h4 : pw (l.length - 1) * 1 ≤ pw (l.length - 1) * (l.getD (l.length - 1) 0 + 10000 * 0) := Int.mul_le_mul_of_nonneg_left (by omega) (by omega)
  omega
theorem uniq {a : List Int} : ∀ {b : List Int}, Dig a → Dig b → Nz a → Nz b → val a = val b → a = b := by
  induction a with
  | nil =>
    intro b _ hb _ zb e
    cases b with
    | nil => rfl
    | cons y ys =>
      have := val_ge hb zb (by simp)
      have := pw_pos ((y :: ys).length - 1)
      rw [val_nil] at e
      omega
  | cons x xs ih =>
    intro b ha hb za zb e
    cases b with
    | nil =>
      have := val_ge ha za (by simp)
      have := pw_pos ((x :: xs).length - 1)
      rw [val_nil] at e
      omega
    | cons y ys =>
      have hx := ha.head
      have hy := hb.head
      simp only [val] at e
      have e1 : x = y := by omega
      have e2 : val xs = val ys := by omega
      have zt : ∀ {z : Int} {zs : List Int}, Nz (z :: zs) → Nz zs := by
        intro z zs h
        cases zs with
        | nil => left; rfl
        | cons u us =>
          right
          have h' := h.resolve_left (by simp)
          simpa using h'
      rw [e1, ih ha.tail hb.tail (zt za) (zt zb) e2]
def repN (n : Nat) : List Int := if h : n = 0 then [] else ((n % 10000 : Nat) : Int) :: repN (n / 10000)
termination_by n
decreasing_by omega
def rep (v : Int) : List Int := repN v.toNat
theorem repN_zero : repN 0 = [] := by rw [repN]; simp
theorem repN_pos {n : Nat} (h : n ≠ 0) : repN n = ((n % 10000 : Nat) : Int) :: repN (n / 10000) := by rw [repN]; simp [h]
theorem repN_ok (n : Nat) : Dig (repN n) ∧ val (repN n) = n ∧ Nz (repN n) := by
  induction n using Nat.strongRecOn with
  | ind n ih =>
    by_cases h : n = 0
    · subst h; rw [repN_zero]; exact ⟨Dig.nil, rfl, .inl rfl⟩
    · obtain ⟨h1, h2, h3⟩ := ih (n / 10000) (by omega)
      rw [repN_pos h]
      refine ⟨Dig.cons (by omega) (by omega) h1, by simp only [val, h2]; omega, .inr ?_⟩
      by_cases hq : n / 10000 = 0
      · rw [hq, repN_zero]; simp; omega
      · have hne : (repN (n / 10000)).length ≠ 0 := by rw [repN_pos hq]; simp
        have := h3.resolve_left hne
        rw [List.length_cons, show (repN (n / 10000)).length + 1 - 1 = ((repN (n / 10000)).length - 1) + 1 from by omega, List.getD_cons_succ]
        exact this
theorem rep_dig (v : Int) : Dig (rep v) := (repN_ok _).1
theorem rep_nz (v : Int) : Nz (rep v) := (repN_ok _).2.2
theorem rep_val {v : Int} (h : 0 ≤ v) : val (rep v) = v := by unfold rep; rw [(repN_ok _).2.1]; omega
theorem rep_of {l : List Int} (hd : Dig l) (hz : Nz l) : rep (val l) = l := uniq (rep_dig _) hd (rep_nz _) hz (rep_val (val_nonneg hd))
theorem is_rep {l : List Int} {v : Int} (hd : Dig l) (hz : Nz l) (hv : val l = v) : l = rep v := by rw [← hv, rep_of hd hz]
theorem rep_zero : rep 0 = [] := repN_zero
theorem rep_nil {v : Int} (h : 0 ≤ v) : rep v = [] ↔ v = 0 := by
  constructor
  · intro e
    have := rep_val h
    rw [e] at this
    exact this.symm
  · rintro rfl; exact rep_zero
theorem rep_len {v : Int} (h : 0 ≤ v) (n : Nat) : (rep v).length ≤ n ↔ v < pw n := by
  have hv := rep_val h
  have hl := val_lt (rep_dig v)
  constructor
  · intro hle
    have := pw_mono hle
    omega
  · intro hlt
    apply Nat.le_of_not_lt
    intro hgt
    have hg := val_ge (rep_dig v) (rep_nz v) (by omega)
    have := pw_mono (show n ≤ (rep v).length - 1 by omega)
    omega
def TrimOf (l r : List Int) : Prop := ∃ n, n ≤ l.length ∧ r = l.take n ∧ (∀ j, n ≤ j → j < l.length → l.getD j 0 = 0) ∧ (0 < n → l.getD (n - 1) 0 ≠ 0)
theorem TrimOf.dig {l r : List Int} (h : TrimOf l r) (hd : Dig l) : Dig r := by obtain ⟨n, _, rfl, _, _⟩ := h; exact hd.take n
theorem TrimOf.val {l r : List Int} (h : TrimOf l r) : Jt.val r = Jt.val l := by
  obtain ⟨n, hn, rfl, hz, _⟩ := h
  have hs := val_split l hn
  have : Jt.val (l.drop n) = 0 := val_zeros fun i hi => by
    rw [List.length_drop] at hi
    have := hz (n + i) (by omega) (by omega)
    rw [List.getD_eq_getElem?_getD] at this ⊢
    rw [List.getElem?_drop]; exact this
  rw [this] at hs
  omega
theorem getD_take (l : List Int) {i n : Nat} (h : i < n) : (l.take n).getD i 0 = l.getD i 0 := by
  rw [List.getD_eq_getElem?_getD, List.getD_eq_getElem?_getD, List.getElem?_take_of_lt h]
theorem TrimOf.nz {l r : List Int} (h : TrimOf l r) : Nz r := by
  obtain ⟨n, hn, rfl, _, hlast⟩ := h
  by_cases h0 : n = 0
  · left; simp [h0]
  · right
    rw [List.length_take, Nat.min_eq_left hn, getD_take l (by omega)]
    exact hlast (by omega)
theorem TrimOf.rep {l r : List Int} (h : TrimOf l r) (hd : Dig l) {v : Int} (hv : Jt.val l = v) : r = Jt.rep v := is_rep (h.dig hd) h.nz (h.val.trans hv)
theorem TrimOf.len {l r : List Int} (h : TrimOf l r) : r.length ≤ l.length := by obtain ⟨n, hn, rfl, _, _⟩ := h; rw [List.length_take]; omega
def bigv (neg : Bool) (l : List Int) : Int := if neg = true then -val l else val l
def BOk (neg : Bool) (l : List Int) : Prop := l.length ≤ 16 ∧ Dig l ∧ Nz l ∧ (neg = true → l.length ≠ 0)
def mkN (x : Int) : Bool := decide (x < 0)
def mkL (x : Int) : List Int := rep (if x < 0 then -x else x)
theorem nz_pos {l : List Int} (hd : Dig l) (hz : Nz l) (h : l.length ≠ 0) : 0 < val l := by
  have := val_ge hd hz (by omega)
  have := pw_pos (l.length - 1)
  omega
theorem mk_of {neg : Bool} {l : List Int} (h : BOk neg l) : mkN (bigv neg l) = neg ∧ mkL (bigv neg l) = l := by
  obtain ⟨_, hd, hz, hn⟩ := h
  have h0 := val_nonneg hd
  unfold mkN mkL bigv
  cases neg with
  | true =>
    have := nz_pos hd hz (hn rfl)
    simp only [if_true]
    rw [if_pos (show -val l < 0 by omega), Int.neg_neg, rep_of hd hz]
    exact ⟨decide_eq_true (by omega), rfl⟩
  | false =>
    simp only [Bool.false_eq_true, if_false]
    rw [if_neg (show ¬ val l < 0 by omega), rep_of hd hz]
    exact ⟨decide_eq_false (by omega), rfl⟩
theorem bigv_bd {neg : Bool} {l : List Int} (h : BOk neg l) : -pw 16 < bigv neg l ∧ bigv neg l < pw 16 := by
  obtain ⟨hl, hd, hz, hn⟩ := h
  have h0 := val_nonneg hd
  have h1 := val_lt hd
  have h2 := pw_mono hl
  unfold bigv
  split <;> omega
end Go.Proofs.YtdbgpoileffbeaaGreatDoor.Jt
end
section
namespace Go.Proofs.YtdbgpoileffbeaaGreatDoor.Ext
open Go.RowKit Go.Proofs.YtdbgpoileffbeaaGreatDoorW.PrintWords Go.Proofs.YtdbgpoileffbeaaGreatDoorW.PrintLast Go.Proofs.YtdbgpoileffbeaaGreatDoorW.PrintMore
set_option linter.unusedVariables false
set_option linter.unusedSimpArgs false
def bad (x : Int) : Bool := !(decide (0 ≤ x) && decide (x ≤ 9999))
def idx.l0 : Nat → List Int → Int → Option Int
  | 0, _, _ => none
  | k + 1, l, i => if i < (l.length : Int) then (if 0 ≤ i then (if bad (rd l i) = true then some i else idx.l0 k l (wrap64 (i + 1))) else none) else some (-1)
set_option maxHeartbeats 1000000 in
theorem lit_calls (x : Int) (b : Bool) (hb : bad x = b) (w : World) : Calls Tryz.prog 70 #[.int .i64 x] w fun e w' => e = .returned (.bool b) ∧ Drawn0 w w' := by
  by_cases h0 : 0 ≤ x
  · by_cases h1 : x ≤ 9999
    · obtain rfl : b = false := by rw [← hb]; simp [bad, h0, h1]
      clear hb
      have c0 : decide (0 ≤ x) = true := decide_eq_true h0
      have c1 : decide (x ≤ 9999) = true := decide_eq_true h1
      clear h0 h1
      go_enter Tryz.func70, Tryz.ntmps70
      go_wp2
      go_ret
      exact ⟨by first | rfl | (simp; done), by repeat (first | exact Drawn0.refl _ | apply Drawn0.step)⟩
    · obtain rfl : b = true := by rw [← hb]; simp [bad, h0, h1]
      clear hb
      have c0 : decide (0 ≤ x) = true := decide_eq_true h0
      have c1 : decide (x ≤ 9999) = false := decide_eq_false h1
      clear h0 h1
      go_enter Tryz.func70, Tryz.ntmps70
      go_wp2
      go_ret
      exact ⟨by first | rfl | (simp; done), by repeat (first | exact Drawn0.refl _ | apply Drawn0.step)⟩
  · obtain rfl : b = true := by rw [← hb]; simp [bad, h0]
    clear hb
    have c0 : decide (0 ≤ x) = false := decide_eq_false h0
    clear h0
    go_enter Tryz.func70, Tryz.ntmps70
    go_wp2
    go_ret
    exact ⟨by first | rfl | (simp; done), by repeat (first | exact Drawn0.refl _ | apply Drawn0.step)⟩
set_option maxHeartbeats 2000000 in
theorem idx_calls (k : Nat) (A0 : Option Addr) (c0 : Nat) (l0 : List Int) (r : Int) (w : World) (hr0 : Kd.C (Kd.int .i64) w A0 l0.length l0) (hc0 : l0.length ≤ c0) (h : idx.l0 k l0 0 = some r) :
    Calls Tryz.prog 88 #[.slice A0 l0.length c0, .func (.func 70) #[] #[]] w fun e w' => e = .returned (.int .i64 r) ∧ Drawn0 w w' := by
  have HR0 := Aside0.mk hr0
  have HC0 := Aside0.mk hc0
  clear hr0 hc0
  have H' := Aside0.mk h
  clear h
  go_enter Tryz.func88, Tryz.ntmps88
  go_wp2
  go_loopg [5, 8] k (fun kq v5 v8 w' => ∃ (x8 : Int), v8 = .int .i64 x8 ∧ Aside0 (idx.l0 kq l0 x8 = some r) ∧ Aside0 (kq ≤ k) ∧ Drawn0 w w')
  case atStart => exact ⟨(0), (by first | rfl | (simp; done) | (simp [*]; done)), H', ⟨Nat.le_refl _⟩, by repeat (first | exact Drawn0.refl _ | apply Drawn0.step)⟩
  case round =>
    clear H'
    obtain ⟨x8, rfl, HA, HK1, ⟨m1, rfl⟩⟩ := hrel
    cases gk with
    | zero => exact absurd HA.out (by simp [idx.l0])
    | succ k1 =>
      have H := HA.out
      clear HA
      simp only [idx.l0] at H
      by_cases c3 : x8 < (l0.length : Int)
      · rw [if_pos c3] at H
        have c3b0 : decide (x8 < (l0.length : Int)) = true := decide_eq_true c3
        clear c3
        by_cases c4 : 0 ≤ x8
        · rw [if_pos c4] at H
          have c4b0 : decide (0 ≤ x8) = true := decide_eq_true c4
          clear c4
          have p1 : 0 ≤ (x8 : Int) := of_decide_eq_true (by first | (with_reducible assumption) | assumption)
          have q1 : x8 < (l0.length : Int) := of_decide_eq_true (by first | (with_reducible assumption) | assumption)
          obtain ⟨ad1, e1, hx1⟩ := Kd.at_int HR0.out x8 p1 q1
          cases e1
          replace p1 := eq_true p1
          replace q1 := eq_true q1
          by_cases c5 : bad (rd l0 x8) = true
          · rw [if_pos c5] at H
            have C5 := Aside0.mk c5
            clear c5
            obtain rfl := Option.some.inj H
            go_wp2_with (go_at_call 70; (with_reducible refine (lit_calls (rd l0 x8) true C5.out _).mono ?_); rintro e w' ⟨rfl, ⟨nd, rfl⟩⟩)
            go_ret
            exact ⟨by first | rfl | (simp; done) | (simp [*]; done), by repeat (first | exact Drawn0.refl _ | apply Drawn0.step)⟩
          · rw [if_neg c5] at H
            have C5 := Aside0.mk (Bool.eq_false_iff.mpr c5)
            clear c5
            have H' := Aside0.mk H
            clear H
            go_wp2_with (go_at_call 70; (with_reducible refine (lit_calls (rd l0 x8) false C5.out _).mono ?_); rintro e w' ⟨rfl, ⟨nd, rfl⟩⟩)
            go_roundg k1
            case measure => have := HK1.out; omega
            case rel => exact ⟨(wrap64 (x8 + 1)), (by first | rfl | (simp; done) | (simp [*]; done)), H', ⟨by have := HK1.out; omega⟩, by repeat (first | exact Drawn0.refl _ | apply Drawn0.step)⟩
        · rw [if_neg c4] at H
          exact absurd H (by simp)
      · rw [if_neg c3] at H
        have c3b0 : decide (x8 < (l0.length : Int)) = false := decide_eq_false c3
        clear c3
        obtain rfl := Option.some.inj H
        go_wp2
        go_ret
        exact ⟨by first | rfl | (simp; done) | (simp [*]; done), by repeat (first | exact Drawn0.refl _ | apply Drawn0.step)⟩
theorem idx_l0 (l : List Int) (hl : (l.length : Int) ≤ 9223372036854775807) (d : Nat) : ∀ (k : Nat) (i : Int), 0 ≤ i → (l.length : Int) - i ≤ d → d < k → ∃ r, idx.l0 k l i = some r ∧ (0 ≤ r ↔ (l.drop i.toNat).any bad = true) := by
  induction d with
  | zero =>
    intro k i h0 h1 hk
    obtain ⟨k, rfl⟩ : ∃ m, k = m + 1 := ⟨k - 1, by omega⟩
    refine ⟨-1, ?_, ?_⟩
    · rw [idx.l0, if_neg (by omega)]
    · rw [List.drop_eq_nil_of_le (by omega)]; simp
  | succ d ih =>
    intro k i h0 h1 hk
    obtain ⟨k, rfl⟩ : ∃ m, k = m + 1 := ⟨k - 1, by omega⟩
    by_cases hlt : i < (l.length : Int)
    · have hn : i.toNat < l.length := by omega
      have e : l.drop i.toNat = rd l i :: l.drop (i.toNat + 1) := by
        rw [List.drop_eq_getElem_cons hn]
        unfold rd
        rw [List.getD_eq_getElem?_getD, List.getElem?_eq_getElem hn]; rfl
      by_cases hb : bad (rd l i) = true
      · refine ⟨i, ?_, ?_⟩
        · rw [idx.l0, if_pos hlt, if_pos h0, if_pos hb]
        · rw [e, List.any_cons, hb]; simp [h0]
      · obtain ⟨r, hr, hi⟩ := ih k (i + 1) (by omega) (by omega) (by omega)
        refine ⟨r, ?_, ?_⟩
        · rw [idx.l0, if_pos hlt, if_pos h0, if_neg hb, show wrap64 (i + 1) = i + 1 from by unfold wrap64; omega]; exact hr
        · rw [hi, e, List.any_cons, Bool.eq_false_iff.mpr hb, show (i + 1).toNat = i.toNat + 1 from by omega]; simp
    · refine ⟨-1, ?_, ?_⟩
      · rw [idx.l0, if_neg hlt]
      · rw [List.drop_eq_nil_of_le (by omega)]; simp
set_option maxHeartbeats 1000000 in
theorem contains_calls (A0 : Option Addr) (c0 : Nat) (l0 : List Int) (b : Bool) (w : World) (hr0 : Kd.C (Kd.int .i64) w A0 l0.length l0) (hc0 : l0.length ≤ c0) (hb : l0.any bad = b) :
    Calls Tryz.prog 69 #[.slice A0 l0.length c0, .func (.func 70) #[] #[]] w fun e w' => e = .returned (.bool b) ∧ Drawn0 w w' := by
  have hl : (l0.length : Int) ≤ 9223372036854775807 := by have := hr0.2.1; omega
  obtain ⟨r, hr, hi⟩ := idx_l0 l0 hl l0.length (l0.length + 1) 0 (by omega) (by omega) (by omega)
  rw [show (0 : Int).toNat = 0 from rfl, List.drop_zero, hb] at hi
  have HR := Aside0.mk hr
  have HR0 := Aside0.mk hr0
  have HC0 := Aside0.mk hc0
  have hd : decide (0 ≤ r) = b := by cases b <;> simp_all
  clear hr hr0 hc0 hi hb hl
  go_enter Tryz.func69, Tryz.ntmps69
  go_wp2_with (go_at_call 88; (with_reducible refine (idx_calls (l0.length + 1) A0 c0 l0 r _ HR0.out HC0.out HR.out).mono ?_); rintro e w' ⟨rfl, ⟨nd, rfl⟩⟩)
  go_ret
  exact ⟨by first | rfl | (simp [*]; done), by repeat (first | exact Drawn0.refl _ | apply Drawn0.step)⟩
end Go.Proofs.YtdbgpoileffbeaaGreatDoor.Ext
namespace Go.Proofs.YtdbgpoileffbeaaGreatDoor.Ext
open Go.RowKit Go.Proofs.YtdbgpoileffbeaaGreatDoorW.PrintWords Go.Proofs.YtdbgpoileffbeaaGreatDoorW.PrintLast Go.Proofs.YtdbgpoileffbeaaGreatDoorW.PrintMore
def containsBad.f (l0 : List Int) : Option Bool := some (l0.any bad)
theorem containsBad.calls (A0 : Option Addr) (c0 : Nat) (l0 : List Int) (r : Bool) (w : World) (hr0 : Kd.C (Kd.int .i64) w A0 l0.length l0) (hc0 : l0.length ≤ c0) (h : containsBad.f l0 = some r) :
    Calls Tryz.prog 69 #[.slice A0 l0.length c0, .func (.func 70) #[] #[]] w fun e w' => e = .returned (.bool r) ∧ Drawn0 w w' := contains_calls A0 c0 l0 r w hr0 hc0 (Option.some.inj h)
end Go.Proofs.YtdbgpoileffbeaaGreatDoor.Ext
end
section
namespace Go.Proofs.YtdbgpoileffbeaaGreatDoor.Ext
open Go.RowKit Go.Proofs.YtdbgpoileffbeaaGreatDoorW.PrintWords Go.Proofs.YtdbgpoileffbeaaGreatDoorW.PrintLast Go.Proofs.YtdbgpoileffbeaaGreatDoorW.PrintMore
set_option linter.unusedVariables false
set_option linter.unusedSimpArgs false
theorem info3 : (Tryz.prog.info? 3).map (fun i => (i.zero, i.size, i.bytes)) = some (some (.int .i64 0), 1, 8) := by kernel_rfl
def clone99.f (l0 : List Int) : Option (List Int) := if l0.length < 17592186044416 then some l0 else none
set_option maxHeartbeats 4000000 in
set_option maxRecDepth 100000 in
theorem clone99.calls (A0 : Option Addr) (c0 : Nat) (l0 : List Int) (r : List Int) (w : World) (hr0 : Kd.C (Kd.int .i64) w A0 l0.length l0) (hc0 : l0.length ≤ c0) (h : clone99.f l0 = some r) :
    Calls Tryz.prog 75 #[.slice A0 l0.length c0] w fun e w' => ∃ v0_ : Value, e = .returned (v0_) ∧ Kd.R (Kd.int .i64) 3 w' w.heap.size (fun _ => True) v0_ r ∧ Below w.heap.size w w' := by
  have hlim : l0.length < 17592186044416 := by unfold clone99.f at h; split at h <;> simp_all
  obtain rfl : l0 = r := by unfold clone99.f at h; rw [if_pos hlim] at h; exact Option.some.inj h
  clear h
  have hq := fun w : World => Lib.run_eql_slice_nil (P := Tryz.prog) w 22 3 A0 l0.length c0 0 0 Tryz.underlying22
  have HLIM := Aside0.mk hlim
  clear hlim
  cases A0 with
  | none =>
    have h0 : l0 = [] := by
      apply List.eq_nil_of_length_eq_zero
      apply Nat.eq_zero_of_not_pos
      intro hp
      obtain ⟨ad, e, _⟩ := hr0.2.2 hp
      cases e
    subst h0
    clear hr0 hc0
    simp only [Option.isNone_none, List.length_nil] at hq
    go_enter Tryz.func75, Tryz.ntmps75
    go_wp2
    go_ret
    exact ⟨_, rfl, Kd.R_nil _ _ _ _ _, Below.refl _ _⟩
  | some ad0 =>
    have HR0 := Aside0.mk hr0
    have HC0 := Aside0.mk hc0
    clear hr0 hc0
    simp only [Option.isNone_some] at hq
    have HB := Aside0.mk (Below.refl w.heap.size w)
    go_enter Tryz.func75, Tryz.ntmps75
    go_wp2_with (first | ((with_reducible refine gate_dst (N := 5) rfl ?_); refine Kd.R_lit (Kd.int .i64) _ 3 ?hg (N := 5) ?hd (xs := ([] : List Int)) (inner := []) (ok := fun _ => True) (okp := fun _ => True) ?hr ?hp (fun _ hk => hk) trivial (Below.refl _ _) (Nat.le_refl _) (by simp) ?_; (case hd => rfl); (case hg => rfl); (case hr => first | (go_simp; done) | (go_simp; rfl)); (case hp => exact (Reps.none _ _)); intro v1 w1 ho1 hb hg_ hnew_; clear hg_ hnew_; have n0_ := Aside0.mk (Kd.R_lower ho1 (below_size zb)); have n1_ := Aside0.mk (below_step zb hb); clear HB; have HO1 := n0_; have HB := n1_; clear n0_ n1_; clear hb ho1) | ((with_reducible refine gate_builtin (b := .append) (xs := #[.tmp 5, .tmp 6]) rfl ?_); at_builtin; refine Kd.R_append_rows (Kd.int .i64) (w0 := w) w.heap.size rfl (.tmp 5) (.tmp 6) 22 3 (.int .i64 0) 8 rfl Tryz.underlying22 info3 rfl (by decide) (by omega) v1 ([] : List Int) l0 _ _ _ (fun _ => True) (fun _ => False) rfl rfl ?aO ?aR (fun _ _ h => h) (fun _ h => h.elim) ?aF ?aB ?aS ?aL ?_; (case aR => (repeat (first | exact (Kd.C_below HR0.out HB.out) | (with_reducible refine Kd.C_alloc ?_ _) | (with_reducible refine Kd.C_drewN ?_ _) | (with_reducible refine Kd.C_drew ?_)))); (case aB => exact zb); (case aF => exact (fun _ _ => trivial)); (case aO => exact (zR HO1.out)); (case aS => exact (below_size zb)); (case aL => have := HLIM.out; simp only [List.length_nil]; omega); intro v2 w2 ho hb hg hat; have n0_ := Aside0.mk (hb); have n1_ := Aside0.mk (ho); clear HB; clear HO1; have HB := n0_; have HO2 := n1_; clear n0_ n1_; clear ho hb hg hat))
    go_ret
    exact ⟨_, rfl, by have := HO2.out; simp only [List.nil_append] at this; (with_reducible repeat (first | apply Kd.R_alloc | apply Kd.R_drewN | apply Kd.R_drew)); exact this, zb⟩
set_option maxHeartbeats 1000000 in
theorem clip_calls (A : Option Addr) (n c : Nat) (hn : n ≤ c) (hm : n ≤ 9223372036854775807) (w : World) : Calls Tryz.prog 74 #[.slice A n c] w fun e w' => e = .returned (.slice A n n) ∧ Drawn0 w w' := by
  go_enter Tryz.func74, Tryz.ntmps74
  go_wp2
  go_ret
  exact ⟨by first | rfl | (simp; done), by repeat (first | exact Drawn0.refl _ | apply Drawn0.step)⟩
def impl_clone_int.f (l0 : List Int) : Option (List Int) := clone99.f l0
end Go.Proofs.YtdbgpoileffbeaaGreatDoor.Ext
end
section
namespace Go.Proofs.YtdbgpoileffbeaaGreatDoor.Rng
open Go.RowKit Go.Shelf
set_option linter.unusedVariables false
set_option linter.unusedSimpArgs false
attribute [local go_sem] Oper.semAt_some
def down (zs : List Int) (len k : Nat) : List (Nat × Int) := (List.range k).map fun j => (len - 1 - j, zs[len - 1 - j]?.getD 0)
theorem down_length (zs : List Int) (len k : Nat) : (down zs len k).length = k := by simp [down]
theorem down_step (zs : List Int) {len m : Nat} (h : m < len) : down zs len (len - m) = down zs len (len - (m + 1)) ++ [(m, zs[m]?.getD 0)] := by
  unfold down
  rw [show len - m = len - (m + 1) + 1 by omega, List.range_succ, List.map_append]
  congr 1
  simp only [List.map_cons, List.map_nil]
  rw [show len - 1 - (len - (m + 1)) = m by omega]
theorem add_blk (a : Addr) (m : Nat) : (a.add m).block = a.block := by unfold Addr.add; split <;> rfl
abbrev El (zs : List Int) (len : Nat) := { x : Nat × Int // x.1 < len ∧ x.2 = zs[x.1]?.getD 0 }
def SameIn (S : Nat → Prop) (W W' : World) : Prop := ∀ p : Addr, S p.block → W'.cell? p = W.cell? p
theorem SameIn.refl (S : Nat → Prop) (W : World) : SameIn S W W := fun _ _ => rfl
theorem SameIn.trans {S : Nat → Prop} {A B C : World} (h : SameIn S A B) (k : SameIn S B C) : SameIn S A C := fun p hp => (k p hp).trans (h p hp)
theorem sameIn_b {S : Nat → Prop} {w : World} (hS : ∀ x, S x → x < w.heap.size) (W : World) (l : Nat) (o o' : Obj) (hl : w.heap.size ≤ l) (h : W.heap[l]? = some o) (h1 : o.isCells = false) (h2 : o.isWalk = false) : SameIn S W (W.putObj l o') :=
  fun p hp => (belowK_b (n₀ := w.heap.size) (Nat.le_refl _) W l o o' hl h h1 h2).cell (hS _ hp)
theorem back1_in (F : Fence) (n : Nat) (h88 : F.fn 80) (hro : F.round = none) (hn : 1 ≤ n) (l Bs : Nat) (ad : Addr) (len cap : Nat) (zs : List Int) (hreach : len * 8 ≤ 140737488351232) (S : Nat → Prop) (hSb : S ad.block) (hSB : S Bs) (J Jx : List (El zs len) → World → Prop)
    (hY : ∀ pre x W, J pre W → pre.length < len → YieldAt F (n - 1) Tryz.prog l #[.int .i64 (x.1.1 : Int), .int .i64 x.1.2] W fun e W' =>
      (e = .returned (.bool true) ∧ J (pre ++ [x]) W' ∧ SameIn S W W') ∨ (e = .returned (.bool false) ∧ Jx (pre ++ [x]) W'))
    (W : World) (hBs : W.cell? ⟨Bs, 0, none⟩ = some (.slice (some ad) len cap)) (hc : ∀ j, j < len → W.cell? (ad.add j) = some (.int .i64 (zs[j]?.getD 0))) (h0 : J [] W) :
    CallsIn F n Tryz.prog 80 #[.func (.yield l) #[] #[], .pointer (some ⟨Bs, 0, none⟩)] W fun e W' => (∃ v, e = .returned v) ∧
      ((∃ ys, ys.map Subtype.val = down zs len len ∧ J ys W') ∨ (∃ pre, (∃ k, k ≤ len ∧ pre.map Subtype.val = down zs len k) ∧ Jx pre W')) := by
  refine callsIn_of_wp Tryz.func80 rfl h88 ?_ hro
  simp only [Tryz.ntmps80, List.size_toArray, List.length_cons, List.length_nil, Nat.reduceAdd, Nat.reduceSub, Array.replicate_succ, Array.replicate_zero, List.push_toArray, List.append_toArray, List.nil_append, List.cons_append]
  have hw0 : wrap64 ((len : Int) - 1) = (len : Int) - 1 := by unfold wrap64; omega
  gi_wp2
  gi_loopw [3] (fun i wr => ∃ m : Nat, m ≤ len ∧ i = .int .i64 ((m : Int) - 1) ∧ (∃ ys : List (El zs len), ys.map Subtype.val = down zs len (len - m) ∧ J ys wr) ∧ SameIn S W wr)
    (fun i _ => (intOf i + 1).toNat)
  case atStart => exact ⟨len, Nat.le_refl _, by simp [hw0], ⟨[], by rw [Nat.sub_self]; rfl, h0⟩, SameIn.refl _ _⟩
  case round =>
    obtain ⟨m, hm, rfl, ⟨ys, hys, hJs⟩, hnx⟩ := hrel
    have hBx : wr.cell? ⟨Bs, 0, none⟩ = some (.slice (some ad) len cap) := (hnx ⟨Bs, 0, none⟩ hSB).trans hBs
    cases m with
    | zero =>
      gi_wp2
      go_end0
      exact ⟨⟨_, rfl⟩, .inl ⟨_, hys, hJs⟩⟩
    | succ m =>
      have e1 : (((m + 1 : Nat) : Int) - 1) = (m : Int) := by omega
      rw [e1]
      have hcx : wr.cell? (ad.add m) = some (.int .i64 (zs[m]?.getD 0)) := (hnx (ad.add m) (by rw [add_blk]; exact hSb)).trans (hc m (by omega))
      obtain ⟨fn, tmps, assign, body, hy, hR⟩ := hY _ ⟨(m, zs[m]?.getD 0), hm, rfl⟩ wr hJs (by rw [← List.length_map (f := Subtype.val), hys, down_length]; omega)
      dsimp only at hy
      have hlt : m < len := hm
      have h00 : (0 : Int) ≤ (m : Int) := by omega
      have h01 : (m : Int) < (len : Int) := by omega
      have hw1 : wrap64 ((m : Int) - 1) = (m : Int) - 1 := by unfold wrap64; omega
      gi_wp2
      refine hR.mono ?_
      rintro e W3 (⟨rfl, hJ3, hk3⟩ | ⟨rfl, hJx3⟩)
      · gi_wp2
        go_roundw
        case rel => exact ⟨m, by omega, by simp [hw1], ⟨_, by rw [List.map_append, hys, down_step zs hlt]; rfl, hJ3⟩, hnx.trans hk3⟩
        case measure => simp [intOf, hw1]
      · gi_wp2
        refine bodyPost_ret (results_none rfl _ _ _) rfl ?_
        exact ⟨⟨_, rfl⟩, .inr ⟨_, ⟨len - m, by omega, by rw [List.map_append, hys, down_step zs hlt]; rfl⟩, hJx3⟩⟩
theorem back1_nil_in (F : Fence) (n : Nat) (h88 : F.fn 80) (hro : F.round = none) (l Bs : Nat) (a : Option Addr) (cap : Nat) (zs : List Int) (len : Nat) (J : List (El zs len) → World → Prop) (W : World) (hBs : W.cell? ⟨Bs, 0, none⟩ = some (.slice a 0 cap)) (h0 : J [] W) :
    CallsIn F n Tryz.prog 80 #[.func (.yield l) #[] #[], .pointer (some ⟨Bs, 0, none⟩)] W fun e W' => (∃ v, e = .returned v) ∧ J [] W' := by
  refine callsIn_of_wp Tryz.func80 rfl h88 ?_ hro
  simp only [Tryz.ntmps80, List.size_toArray, List.length_cons, List.length_nil, Nat.reduceAdd, Nat.reduceSub, Array.replicate_succ, Array.replicate_zero, List.push_toArray, List.append_toArray, List.nil_append, List.cons_append]
  gi_wp2
  gi_loopw [3] (fun i wr => i = .int .i64 (-1) ∧ J [] wr) (fun _ _ => 0)
  case atStart => exact ⟨rfl, h0⟩
  case round =>
    obtain ⟨rfl, hJs⟩ := hrel
    gi_wp2
    go_end0
    exact ⟨⟨_, rfl⟩, hJs⟩
theorem back_in (F : Fence) (n : Nat) (h68 : F.fn 55) (hro : F.round = none) (a : Option Addr) (len cap : Nat) (w : World) :
    CallsIn F n Tryz.prog 55 #[.slice a len cap] w fun e w' => e = .returned (.func (.func 80) #[] #[.pointer (some ⟨w.heap.size, 0, none⟩)]) ∧ w' = w.alloc (.cells #[.slice a len cap] 44) := by
  refine callsIn_of_wp Tryz.func55 rfl h68 ?_ hro
  simp only [Tryz.ntmps55, List.size_toArray, List.length_cons, List.length_nil, Nat.reduceAdd, Nat.reduceSub, Array.replicate_succ, Array.replicate_zero, List.push_toArray, List.append_toArray, List.nil_append, List.cons_append]
  gi_wp2
  go_ret
  exact ⟨rfl, rfl⟩
def RowIn (S : Nat → Prop) (W : World) (a : Option Addr) (len : Nat) (zs : List Int) : Prop :=
  len = 0 ∨ ∃ ad, a = some ad ∧ S ad.block ∧ ∀ j, j < len → W.cell? (ad.add j) = some (.int .i64 (zs[j]?.getD 0))
theorem RowIn.same {S : Nat → Prop} {A B : World} (h : SameIn S A B) {a : Option Addr} {len : Nat} {zs : List Int} : RowIn S A a len zs → RowIn S B a len zs
  | .inl e => .inl e
  | .inr ⟨ad, e, hb, hc⟩ => .inr ⟨ad, e, hb, fun j hj => (h (ad.add j) (by rw [add_blk]; exact hb)).trans (hc j hj)⟩
theorem SameIn.of_below {S : Nat → Prop} {n : Nat} {A B : World} (h : Below n A B) (hS : ∀ x, S x → x < n) : SameIn S A B := fun p hp => h.cell (hS _ hp)
theorem back_stops (F : Fence) (n : Nat) (h88 : F.fn 80) (hro : F.round = none) (hn : 1 ≤ n) (Bs : Nat) (a : Option Addr) (len cap : Nat) (zs : List Int) (hreach : len * 8 ≤ 140737488351232) (S : Nat → Prop) (hSB : S Bs) (w : World) (hSw : ∀ x, S x → x < w.heap.size)
    (hc : w.cell? ⟨Bs, 0, none⟩ = some (.slice a len cap)) (hI : RowIn S w a len zs) :
    SeqStopsK F n Tryz.prog 80 #[.pointer (some ⟨Bs, 0, none⟩)] (fun x : El zs len => #[Value.int .i64 (x.1.1 : Int), Value.int .i64 x.1.2]) (SameIn S) (fun ys => ys.map Subtype.val = down zs len len)
      (fun pre => ∃ k, k ≤ len ∧ pre.map Subtype.val = down zs len k) len w := fun l J Jx W hW _ _ hY h0 => by
  have hs := SameIn.of_below hW hSw
  have hc' := (hs ⟨Bs, 0, none⟩ hSB).trans hc
  rcases hI.same hs with rfl | ⟨ad, rfl, hb, hcs⟩
  · exact (back1_nil_in F n h88 hro l Bs a cap zs 0 J W hc' h0).mono fun e W' ⟨he, hj⟩ => ⟨he, .inl ⟨_, rfl, hj⟩⟩
  · exact back1_in F n h88 hro hn l Bs ad len cap zs hreach S hb hSB J Jx hY W hc' hcs h0
end Go.Proofs.YtdbgpoileffbeaaGreatDoor.Rng
end
section
namespace Go.Proofs
open Go.Shelf
def Tryz.lays169_ren : Go.Shelf.Ren := ⟨fun | 169 => 58 | n => n, fun | 70 => 75 | 9 => 9 | 0 => 0 | 72 => 77 | 37 => 32 | 127 => 96 | 3 => 3 | 5 => 5 | n => n, fun | n => n⟩
theorem Tryz.lays169 : Go.Proofs.Lays.n169 Tryz.prog Tryz.lays169_ren := {
  mixed := by kernel_rfl
  f169 := Tryz.func58.trans (congrArg some (by kernel_rfl))
  t0 := Tryz.underlying0
  a0 := Tryz.isAgg0
  z0 := Tryz.sizeOf0
  v0 := Tryz.zeroValue0
  t3 := Tryz.underlying3
  a3 := Tryz.isAgg3
  z3 := Tryz.sizeOf3
  v3 := Tryz.zeroValue3
  t9 := Tryz.underlying9
  a9 := Tryz.isAgg9
  z9 := Tryz.sizeOf9
  v9 := Tryz.zeroValue9
  t37 := Tryz.underlying32
  a37 := Tryz.isAgg32
  z37 := Tryz.sizeOf32
  v37 := Tryz.zeroValue32
  t70 := Tryz.underlying75
  a70 := Tryz.isAgg75
  z70 := Tryz.sizeOf75
  v70 := Tryz.zeroValue75
  t72 := Tryz.underlying77
  a72 := Tryz.isAgg77
  z72 := Tryz.sizeOf77
  v72 := Tryz.zeroValue77
  t127 := Tryz.underlying96
  a127 := Tryz.isAgg96
  z127 := Tryz.sizeOf96
  v127 := Tryz.zeroValue96 }
theorem Tryz.Builder_Extra_169 : Builder.Extra Tryz.prog Tryz.lays169_ren := {
  sizeBuilder := by kernel_rfl
  liesBuilder := by kernel_rfl
  t5 := Tryz.underlying5
  a5 := Tryz.isAgg5
  z5 := Tryz.sizeOf5
  v5 := Tryz.zeroValue5
  infoByte := by kernel_rfl
  cellsByte := by kernel_rfl
  sizeByte := by kernel_rfl
  neB5 := by decide }
def Tryz.lays103_ren : Go.Shelf.Ren := ⟨fun | 103 => 18 | 210 => 44 | 206 => 72 | n => n, fun | 9 => 9 | 4 => 4 | 24 => 38 | 3 => 3 | n => n, fun | n => n⟩
theorem Tryz.lays103 : Go.Proofs.Lays.n103 Tryz.prog Tryz.lays103_ren := {
  mixed := by kernel_rfl
  f103 := Tryz.func18.trans (congrArg some (by kernel_rfl))
  f206 := Tryz.func72.trans (congrArg some (by kernel_rfl))
  f210 := Tryz.func44.trans (congrArg some (by kernel_rfl))
  t3 := Tryz.underlying3
  a3 := Tryz.isAgg3
  z3 := Tryz.sizeOf3
  v3 := Tryz.zeroValue3
  t4 := Tryz.underlying4
  a4 := Tryz.isAgg4
  z4 := Tryz.sizeOf4
  v4 := Tryz.zeroValue4
  t9 := Tryz.underlying9
  a9 := Tryz.isAgg9
  z9 := Tryz.sizeOf9
  v9 := Tryz.zeroValue9
  t24 := Tryz.underlying38
  a24 := Tryz.isAgg38
  z24 := Tryz.sizeOf38
  v24 := Tryz.zeroValue38 }
open Go.RowKit in
theorem Tryz.strings_CutPrefix (s p : ByteArray) (w : World) :
    Calls Tryz.prog 18 #[.string s, .string p] w fun e w' => e = .returned (.tuple #[.string ⟨(Lib.trimPrefix s.data.toList p.data.toList).toArray⟩, .bool (Lib.hasPrefix s.data.toList p.data.toList)]) ∧ w' = w := Any.strings_CutPrefix Tryz.lays103 s p w
open Go.RowKit in
theorem Tryz.Builder_String_any_k (B b : Nat) (l : List UInt8) (w : World) (h : Lib.IsBuilderF 77 5 B b (Lib.byteCells l) w) (hBw : B ≤ w.heap.size) :
    Calls Tryz.prog 58 #[.pointer (some ⟨b, 0, none⟩)] w fun e w' => e = .returned (.string ⟨l.toArray⟩) ∧ (Lib.IsBuilderF 77 5 B b (Lib.byteCells l) w' ∧ Below B w w' ∧ Lib.OthersKept 5 (some b) w w') := Any.Builder_String_any_k Tryz.lays169 Tryz.Builder_Extra_169 B b l w h hBw
def Tryz.laysM171_ren : Go.Shelf.Ren := ⟨fun | 171 => 56 | 243 => 81 | 246 => 98 | 283 => 106 | 284 => 107 | 285 => 108 | 286 => 109 | 129 => 113 | 317 => 112 | 318 => 114 | 319 => 115 | 320 => 116 | 337 => 117 | 338 => 118 | n => n, fun | 3 => 3 | 9 => 9 | 2 => 2 | 4 => 4 | 171 => 123 | 0 => 0 | 53 => 100 | 37 => 32 | 5 => 5 | 173 => 126 | 212 => 133 | 51 => 97 | 20 => 20 | 213 => 134 | 46 => 82 | 232 => 137 | 233 => 138 | n => n, fun | 17 => 3 | 18 => 4 | 19 => 5 | n => n⟩
theorem Tryz.laysM171 : Go.Proofs.LaysM.n171 Tryz.prog Tryz.laysM171_ren := {
  mixed := by kernel_rfl
  f129 := Tryz.func113.trans (congrArg some (by kernel_rfl))
  f171 := Tryz.func56.trans (congrArg some (by kernel_rfl))
  f243 := Tryz.func81.trans (congrArg some (by kernel_rfl))
  f246 := Tryz.func98.trans (congrArg some (by kernel_rfl))
  f283 := Tryz.func106.trans (congrArg some (by kernel_rfl))
  f284 := Tryz.func107.trans (congrArg some (by kernel_rfl))
  f285 := Tryz.func108.trans (congrArg some (by kernel_rfl))
  f286 := Tryz.func109.trans (congrArg some (by kernel_rfl))
  f317 := Tryz.func112.trans (congrArg some (by kernel_rfl))
  f318 := Tryz.func114.trans (congrArg some (by kernel_rfl))
  f319 := Tryz.func115.trans (congrArg some (by kernel_rfl))
  f320 := Tryz.func116.trans (congrArg some (by kernel_rfl))
  f337 := Tryz.func117.trans (congrArg some (by kernel_rfl))
  f338 := Tryz.func118.trans (congrArg some (by kernel_rfl))
  t0 := Tryz.underlying0
  a0 := Tryz.isAgg0
  z0 := Tryz.sizeOf0
  v0 := Tryz.zeroValue0
  t2 := Tryz.underlying2
  a2 := Tryz.isAgg2
  z2 := Tryz.sizeOf2
  v2 := Tryz.zeroValue2
  t3 := Tryz.underlying3
  a3 := Tryz.isAgg3
  z3 := Tryz.sizeOf3
  v3 := Tryz.zeroValue3
  t4 := Tryz.underlying4
  a4 := Tryz.isAgg4
  z4 := Tryz.sizeOf4
  v4 := Tryz.zeroValue4
  t5 := Tryz.underlying5
  a5 := Tryz.isAgg5
  z5 := Tryz.sizeOf5
  v5 := Tryz.zeroValue5
  t9 := Tryz.underlying9
  a9 := Tryz.isAgg9
  z9 := Tryz.sizeOf9
  v9 := Tryz.zeroValue9
  t20 := Tryz.underlying20
  a20 := Tryz.isAgg20
  z20 := Tryz.sizeOf20
  v20 := Tryz.zeroValue20
  t37 := Tryz.underlying32
  a37 := Tryz.isAgg32
  z37 := Tryz.sizeOf32
  v37 := Tryz.zeroValue32
  t46 := Tryz.underlying82
  a46 := Tryz.isAgg82
  z46 := Tryz.sizeOf82
  v46 := Tryz.zeroValue82
  t51 := Tryz.underlying97
  a51 := Tryz.isAgg97
  z51 := Tryz.sizeOf97
  v51 := Tryz.zeroValue97
  t53 := Tryz.underlying100
  a53 := Tryz.isAgg100
  z53 := Tryz.sizeOf100
  v53 := Tryz.zeroValue100
  t171 := Tryz.underlying123
  a171 := Tryz.isAgg123
  z171 := Tryz.sizeOf123
  v171 := Tryz.zeroValue123
  t173 := Tryz.underlying126
  a173 := Tryz.isAgg126
  z173 := Tryz.sizeOf126
  v173 := Tryz.zeroValue126
  t212 := Tryz.underlying133
  a212 := Tryz.isAgg133
  z212 := Tryz.sizeOf133
  v212 := Tryz.zeroValue133
  t213 := Tryz.underlying134
  a213 := Tryz.isAgg134
  z213 := Tryz.sizeOf134
  t232 := Tryz.underlying137
  a232 := Tryz.isAgg137
  z232 := Tryz.sizeOf137
  v232 := Tryz.zeroValue137
  t233 := Tryz.underlying138
  a233 := Tryz.isAgg138
  z233 := Tryz.sizeOf138
  v233 := Tryz.zeroValue138
  g17 := by kernel_rfl
  g18 := by kernel_rfl
  g19 := by kernel_rfl
  i0 := by kernel_rfl
  i2 := by kernel_rfl
  i3 := by kernel_rfl
  i4 := by kernel_rfl
  i5 := by kernel_rfl
  i9 := by kernel_rfl
  i20 := by kernel_rfl
  i37 := by kernel_rfl
  i46 := by kernel_rfl
  i51 := by kernel_rfl
  i53 := by kernel_rfl
  i171 := by kernel_rfl
  i173 := by kernel_rfl
  i212 := by kernel_rfl
  i232 := by kernel_rfl
  i233 := by kernel_rfl
  m17 := by kernel_rfl
  m18 := by kernel_rfl
  m19 := by kernel_rfl }
open Go.RowKit Go.Sort Go.Lib in
theorem Tryz.strconv_Itoa (n : Int) (h0 : -9223372036854775808 ≤ n) (h1 : n ≤ 9223372036854775807) (w : World) (htab : Lib.TabIs Tryz.prog w "internal/strconv.uint64pow10" .u64 Lib.pow10Tab) :
    Calls Tryz.prog 56 #[.int .i64 n] w fun e w' => e = .returned (.string ⟨(Lib.itoa n).toArray⟩) ∧ ∃ k os, w' = grow (w.drewN k) os := Any.strconv_Itoa Tryz.laysM171 n h0 h1 w htab
def Tryz.laysC172_ren : Go.Shelf.Ren := ⟨fun | 172 => 48 | 244 => 76 | 245 => 77 | 247 => 93 | 279 => 94 | 280 => 95 | 281 => 96 | 282 => 97 | 287 => 103 | 316 => 104 | 171 => 56 | 205 => 105 | 321 => 110 | 322 => 111 | 243 => 81 | 246 => 98 | 283 => 106 | 284 => 107 | 285 => 108 | 286 => 109 | 129 => 113 | 317 => 112 | 318 => 114 | 319 => 115 | 320 => 116 | 337 => 117 | 338 => 118 | n => n, fun | 9 => 9 | 3 => 3 | 75 => 65 | 76 => 66 | 4 => 4 | 5 => 5 | 167 => 106 | 37 => 32 | 0 => 0 | 85 => 107 | 2 => 2 | 168 => 109 | 53 => 100 | 175 => 117 | 46 => 82 | 210 => 121 | 127 => 96 | 145 => 131 | 143 => 129 | 21 => 21 | 171 => 123 | 173 => 126 | 212 => 133 | 51 => 97 | 20 => 20 | 213 => 134 | 232 => 137 | 233 => 138 | 80 => 51 | n => n, fun | 15 => 1 | 16 => 2 | 17 => 3 | 18 => 4 | 19 => 5 | n => n⟩
theorem Tryz.laysC172 : Go.Proofs.LaysC.n172 Tryz.prog Tryz.laysC172_ren := {
  mixed := by kernel_rfl
  f129 := Tryz.func113.trans (congrArg some (by kernel_rfl))
  f171 := Tryz.func56.trans (congrArg some (by kernel_rfl))
  f172 := Tryz.func48.trans (congrArg some (by kernel_rfl))
  f205 := Tryz.func105.trans (congrArg some (by kernel_rfl))
  f243 := Tryz.func81.trans (congrArg some (by kernel_rfl))
  f244 := Tryz.func76.trans (congrArg some (by kernel_rfl))
  f245 := Tryz.func77.trans (congrArg some (by kernel_rfl))
  f246 := Tryz.func98.trans (congrArg some (by kernel_rfl))
  f247 := Tryz.func93.trans (congrArg some (by kernel_rfl))
  f279 := Tryz.func94.trans (congrArg some (by kernel_rfl))
  f280 := Tryz.func95.trans (congrArg some (by kernel_rfl))
  f281 := Tryz.func96.trans (congrArg some (by kernel_rfl))
  f282 := Tryz.func97.trans (congrArg some (by kernel_rfl))
  f283 := Tryz.func106.trans (congrArg some (by kernel_rfl))
  f284 := Tryz.func107.trans (congrArg some (by kernel_rfl))
  f285 := Tryz.func108.trans (congrArg some (by kernel_rfl))
  f286 := Tryz.func109.trans (congrArg some (by kernel_rfl))
  f287 := Tryz.func103.trans (congrArg some (by kernel_rfl))
  f316 := Tryz.func104.trans (congrArg some (by kernel_rfl))
  f317 := Tryz.func112.trans (congrArg some (by kernel_rfl))
  f318 := Tryz.func114.trans (congrArg some (by kernel_rfl))
  f319 := Tryz.func115.trans (congrArg some (by kernel_rfl))
  f320 := Tryz.func116.trans (congrArg some (by kernel_rfl))
  f321 := Tryz.func110.trans (congrArg some (by kernel_rfl))
  f322 := Tryz.func111.trans (congrArg some (by kernel_rfl))
  f337 := Tryz.func117.trans (congrArg some (by kernel_rfl))
  f338 := Tryz.func118.trans (congrArg some (by kernel_rfl))
  t0 := Tryz.underlying0
  a0 := Tryz.isAgg0
  z0 := Tryz.sizeOf0
  v0 := Tryz.zeroValue0
  t2 := Tryz.underlying2
  a2 := Tryz.isAgg2
  z2 := Tryz.sizeOf2
  v2 := Tryz.zeroValue2
  t3 := Tryz.underlying3
  a3 := Tryz.isAgg3
  z3 := Tryz.sizeOf3
  v3 := Tryz.zeroValue3
  t4 := Tryz.underlying4
  a4 := Tryz.isAgg4
  z4 := Tryz.sizeOf4
  v4 := Tryz.zeroValue4
  t5 := Tryz.underlying5
  a5 := Tryz.isAgg5
  z5 := Tryz.sizeOf5
  v5 := Tryz.zeroValue5
  t9 := Tryz.underlying9
  a9 := Tryz.isAgg9
  z9 := Tryz.sizeOf9
  v9 := Tryz.zeroValue9
  t20 := Tryz.underlying20
  a20 := Tryz.isAgg20
  z20 := Tryz.sizeOf20
  v20 := Tryz.zeroValue20
  t21 := Tryz.underlying21
  a21 := Tryz.isAgg21
  z21 := Tryz.sizeOf21
  v21 := Tryz.zeroValue21
  t37 := Tryz.underlying32
  a37 := Tryz.isAgg32
  z37 := Tryz.sizeOf32
  v37 := Tryz.zeroValue32
  t46 := Tryz.underlying82
  a46 := Tryz.isAgg82
  z46 := Tryz.sizeOf82
  v46 := Tryz.zeroValue82
  t51 := Tryz.underlying97
  a51 := Tryz.isAgg97
  z51 := Tryz.sizeOf97
  v51 := Tryz.zeroValue97
  t53 := Tryz.underlying100
  a53 := Tryz.isAgg100
  z53 := Tryz.sizeOf100
  v53 := Tryz.zeroValue100
  t75 := Tryz.underlying65
  a75 := Tryz.isAgg65
  z75 := Tryz.sizeOf65
  v75 := Tryz.zeroValue65
  t76 := Tryz.underlying66
  a76 := Tryz.isAgg66
  z76 := Tryz.sizeOf66
  v76 := Tryz.zeroValue66
  t85 := Tryz.underlying107
  a85 := Tryz.isAgg107
  z85 := Tryz.sizeOf107
  v85 := Tryz.zeroValue107
  t127 := Tryz.underlying96
  a127 := Tryz.isAgg96
  z127 := Tryz.sizeOf96
  v127 := Tryz.zeroValue96
  t143 := Tryz.underlying129
  a143 := Tryz.isAgg129
  z143 := Tryz.sizeOf129
  v143 := Tryz.zeroValue129
  t145 := Tryz.underlying131
  a145 := Tryz.isAgg131
  z145 := Tryz.sizeOf131
  v145 := Tryz.zeroValue131
  t167 := Tryz.underlying106
  a167 := Tryz.isAgg106
  z167 := Tryz.sizeOf106
  v167 := Tryz.zeroValue106
  t168 := Tryz.underlying109
  a168 := Tryz.isAgg109
  z168 := Tryz.sizeOf109
  v168 := Tryz.zeroValue109
  t171 := Tryz.underlying123
  a171 := Tryz.isAgg123
  z171 := Tryz.sizeOf123
  v171 := Tryz.zeroValue123
  t173 := Tryz.underlying126
  a173 := Tryz.isAgg126
  z173 := Tryz.sizeOf126
  v173 := Tryz.zeroValue126
  t175 := Tryz.underlying117
  a175 := Tryz.isAgg117
  z175 := Tryz.sizeOf117
  v175 := Tryz.zeroValue117
  t210 := Tryz.underlying121
  a210 := Tryz.isAgg121
  z210 := Tryz.sizeOf121
  v210 := Tryz.zeroValue121
  t212 := Tryz.underlying133
  a212 := Tryz.isAgg133
  z212 := Tryz.sizeOf133
  v212 := Tryz.zeroValue133
  t213 := Tryz.underlying134
  a213 := Tryz.isAgg134
  z213 := Tryz.sizeOf134
  t232 := Tryz.underlying137
  a232 := Tryz.isAgg137
  z232 := Tryz.sizeOf137
  v232 := Tryz.zeroValue137
  t233 := Tryz.underlying138
  a233 := Tryz.isAgg138
  z233 := Tryz.sizeOf138
  v233 := Tryz.zeroValue138
  g15 := by kernel_rfl
  g16 := by kernel_rfl
  g17 := by kernel_rfl
  g18 := by kernel_rfl
  g19 := by kernel_rfl
  t80 := Tryz.underlying51
  a80 := Tryz.isAgg51
  z80 := Tryz.sizeOf51
  v80 := Tryz.zeroValue51
  i0 := by kernel_rfl
  i2 := by kernel_rfl
  i3 := by kernel_rfl
  i4 := by kernel_rfl
  i5 := by kernel_rfl
  i9 := by kernel_rfl
  i20 := by kernel_rfl
  i21 := by kernel_rfl
  i37 := by kernel_rfl
  i46 := by kernel_rfl
  i51 := by kernel_rfl
  i53 := by kernel_rfl
  i75 := by kernel_rfl
  i76 := by kernel_rfl
  i80 := by kernel_rfl
  i85 := by kernel_rfl
  i127 := by kernel_rfl
  i143 := by kernel_rfl
  i145 := by kernel_rfl
  i167 := by kernel_rfl
  i168 := by kernel_rfl
  i171 := by kernel_rfl
  i173 := by kernel_rfl
  i175 := by kernel_rfl
  i210 := by kernel_rfl
  i212 := by kernel_rfl
  i232 := by kernel_rfl
  i233 := by kernel_rfl
  m15 := by kernel_rfl
  m16 := by kernel_rfl
  m17 := by kernel_rfl
  m18 := by kernel_rfl
  m19 := by kernel_rfl
  c0 := by kernel_rfl
  c2 := by kernel_rfl
  c3 := by kernel_rfl
  c4 := by kernel_rfl
  c5 := by kernel_rfl
  c9 := by kernel_rfl
  c20 := by kernel_rfl
  c21 := by kernel_rfl
  c37 := by kernel_rfl
  c46 := by kernel_rfl
  c51 := by kernel_rfl
  c53 := by kernel_rfl
  c75 := by kernel_rfl
  c76 := by kernel_rfl
  c80 := by kernel_rfl
  c85 := by kernel_rfl
  c127 := by kernel_rfl
  c143 := by kernel_rfl
  c145 := by kernel_rfl
  c167 := by kernel_rfl
  c168 := by kernel_rfl
  c171 := by kernel_rfl
  c173 := by kernel_rfl
  c175 := by kernel_rfl
  c210 := by kernel_rfl
  c212 := by kernel_rfl
  c213 := by kernel_rfl
  c232 := by kernel_rfl
  c233 := by kernel_rfl }
open Go.RowKit in
theorem Tryz.strconv_Atoi_ok (s : ByteArray) (hmax : s.size ≤ 9223372036854775806) (v : Int) (h : Lib.atoiAll s.data.toList = .ok v) (w : World) :
    Calls Tryz.prog 48 #[.string s] w fun e w' => e = .returned (.tuple #[.int .i64 v, .nilIface]) ∧ (w' = w ∨ ∃ t, w' = Lib.bytesWorld w 5 t) := Any.strconv_Atoi_ok Tryz.laysC172 s hmax v h w
open Go.RowKit in
theorem Tryz.strconv_Atoi_syntax (s : ByteArray) (hlim : s.size ≤ 281474976710656) (h : Lib.atoiAll s.data.toList = Lib.atoiAll []) (ev : Value) (w : World) (hv : w.cell? ⟨1, 0, none⟩ = some ev) (hev : ev = .nilIface ∨ ∃ te pe, ev = .iface te pe) :
    Calls Tryz.prog 48 #[.string s] w fun e w' => ∃ N, e = .returned (.tuple #[.int .i64 (0), .iface 109 (.pointer (some ⟨N, 0, none⟩))]) ∧ w.heap.size ≤ N ∧ w'.heap[N]? = some (.cells #[.string ⟨#[65, 116, 111, 105]⟩, .string s, ev] 121 (0, 0)) ∧ Below w.heap.size w w' := Any.strconv_Atoi_syntax Tryz.laysC172 s hlim h ev w hv hev
open Go.RowKit in
theorem Tryz.strconv_Atoi_range (s : ByteArray) (hlim : s.size ≤ 281474976710656) (h : Lib.atoiAll s.data.toList = .range) (ev : Value) (w : World) (hv : w.cell? ⟨2, 0, none⟩ = some ev) (hev : ev = .nilIface ∨ ∃ te pe, ev = .iface te pe) :
    Calls Tryz.prog 48 #[.string s] w fun e w' => ∃ N, e = .returned (.tuple #[.int .i64 (Lib.atoiSat s.data.toList), .iface 109 (.pointer (some ⟨N, 0, none⟩))]) ∧ w.heap.size ≤ N ∧ w'.heap[N]? = some (.cells #[.string ⟨#[65, 116, 111, 105]⟩, .string s, ev] 121 (0, 0)) ∧ Below w.heap.size w w' := Any.strconv_Atoi_range Tryz.laysC172 s hlim h ev w hv hev
def Tryz.lays145_ren : Go.Shelf.Ren := ⟨fun | 145 => 19 | 220 => 45 | 219 => 73 | 217 => 89 | 225 => 90 | 224 => 91 | 267 => 92 | 266 => 101 | 314 => 102 | n => n, fun | 9 => 9 | 4 => 4 | 59 => 40 | 3 => 3 | 5 => 5 | 46 => 82 | 146 => 98 | 51 => 97 | n => n, fun | 1 => 0 | n => n⟩
theorem Tryz.lays145 : Go.Proofs.Lays.n145 Tryz.prog Tryz.lays145_ren := {
  mixed := by kernel_rfl
  f145 := Tryz.func19.trans (congrArg some (by kernel_rfl))
  f217 := Tryz.func89.trans (congrArg some (by kernel_rfl))
  f219 := Tryz.func73.trans (congrArg some (by kernel_rfl))
  f220 := Tryz.func45.trans (congrArg some (by kernel_rfl))
  f224 := Tryz.func91.trans (congrArg some (by kernel_rfl))
  f225 := Tryz.func90.trans (congrArg some (by kernel_rfl))
  f266 := Tryz.func101.trans (congrArg some (by kernel_rfl))
  f267 := Tryz.func92.trans (congrArg some (by kernel_rfl))
  f314 := Tryz.func102.trans (congrArg some (by kernel_rfl))
  t3 := Tryz.underlying3
  a3 := Tryz.isAgg3
  z3 := Tryz.sizeOf3
  v3 := Tryz.zeroValue3
  t4 := Tryz.underlying4
  a4 := Tryz.isAgg4
  z4 := Tryz.sizeOf4
  v4 := Tryz.zeroValue4
  t5 := Tryz.underlying5
  a5 := Tryz.isAgg5
  z5 := Tryz.sizeOf5
  v5 := Tryz.zeroValue5
  t9 := Tryz.underlying9
  a9 := Tryz.isAgg9
  z9 := Tryz.sizeOf9
  v9 := Tryz.zeroValue9
  t46 := Tryz.underlying82
  a46 := Tryz.isAgg82
  z46 := Tryz.sizeOf82
  v46 := Tryz.zeroValue82
  t51 := Tryz.underlying97
  a51 := Tryz.isAgg97
  z51 := Tryz.sizeOf97
  v51 := Tryz.zeroValue97
  t59 := Tryz.underlying40
  a59 := Tryz.isAgg40
  z59 := Tryz.sizeOf40
  v59 := Tryz.zeroValue40
  t146 := Tryz.underlying98
  a146 := Tryz.isAgg98
  z146 := Tryz.sizeOf98
  v146 := Tryz.zeroValue98
  g1 := by kernel_rfl }
open Go.RowKit Go.Lib in
theorem Tryz.strings_Cut (s sep : ByteArray) (m : Int) (w : World) (hs : s.size < 4294967281) (hm : w.cell? ⟨0, 0, none⟩ = some (.int .i64 m)) :
    Calls Tryz.prog 19 #[.string s, .string sep] w fun e w' => e = .returned (.tuple #[.string ⟨(Lib.cut s.data.toList sep.data.toList).1.toArray⟩, .string ⟨(Lib.cut s.data.toList sep.data.toList).2.1.toArray⟩, .bool (Lib.cut s.data.toList sep.data.toList).2.2]) ∧ ∃ n, w' = w.drewN n := Any.strings_Cut Tryz.lays145 s sep m w hs hm
def Tryz.lays105_ren : Go.Shelf.Ren := ⟨fun | 105 => 29 | 212 => 59 | 99 => 60 | 165 => 61 | 166 => 57 | 170 => 62 | 169 => 58 | 263 => 83 | 264 => 84 | 206 => 72 | 240 => 82 | 241 => 85 | 276 => 99 | 277 => 100 | n => n, fun | 9 => 9 | 3 => 3 | 4 => 4 | 20 => 20 | 0 => 0 | 46 => 82 | 109 => 83 | 5 => 5 | 72 => 77 | 76 => 66 | 51 => 97 | 146 => 98 | 53 => 100 | 148 => 101 | 70 => 75 | 37 => 32 | 75 => 65 | 127 => 96 | 164 => 113 | 80 => 51 | n => n, fun | n => n⟩
theorem Tryz.lays105 : Go.Proofs.Lays.n105 Tryz.prog Tryz.lays105_ren := {
  mixed := by kernel_rfl
  f99 := Tryz.func60.trans (congrArg some (by kernel_rfl))
  f105 := Tryz.func29.trans (congrArg some (by kernel_rfl))
  f165 := Tryz.func61.trans (congrArg some (by kernel_rfl))
  f166 := Tryz.func57.trans (congrArg some (by kernel_rfl))
  f169 := Tryz.func58.trans (congrArg some (by kernel_rfl))
  f170 := Tryz.func62.trans (congrArg some (by kernel_rfl))
  f206 := Tryz.func72.trans (congrArg some (by kernel_rfl))
  f212 := Tryz.func59.trans (congrArg some (by kernel_rfl))
  f240 := Tryz.func82.trans (congrArg some (by kernel_rfl))
  f241 := Tryz.func85.trans (congrArg some (by kernel_rfl))
  f263 := Tryz.func83.trans (congrArg some (by kernel_rfl))
  f264 := Tryz.func84.trans (congrArg some (by kernel_rfl))
  f276 := Tryz.func99.trans (congrArg some (by kernel_rfl))
  f277 := Tryz.func100.trans (congrArg some (by kernel_rfl))
  t0 := Tryz.underlying0
  a0 := Tryz.isAgg0
  z0 := Tryz.sizeOf0
  v0 := Tryz.zeroValue0
  t3 := Tryz.underlying3
  a3 := Tryz.isAgg3
  z3 := Tryz.sizeOf3
  v3 := Tryz.zeroValue3
  t4 := Tryz.underlying4
  a4 := Tryz.isAgg4
  z4 := Tryz.sizeOf4
  v4 := Tryz.zeroValue4
  t5 := Tryz.underlying5
  a5 := Tryz.isAgg5
  z5 := Tryz.sizeOf5
  v5 := Tryz.zeroValue5
  t9 := Tryz.underlying9
  a9 := Tryz.isAgg9
  z9 := Tryz.sizeOf9
  v9 := Tryz.zeroValue9
  t20 := Tryz.underlying20
  a20 := Tryz.isAgg20
  z20 := Tryz.sizeOf20
  v20 := Tryz.zeroValue20
  t37 := Tryz.underlying32
  a37 := Tryz.isAgg32
  z37 := Tryz.sizeOf32
  v37 := Tryz.zeroValue32
  t46 := Tryz.underlying82
  a46 := Tryz.isAgg82
  z46 := Tryz.sizeOf82
  v46 := Tryz.zeroValue82
  t51 := Tryz.underlying97
  a51 := Tryz.isAgg97
  z51 := Tryz.sizeOf97
  v51 := Tryz.zeroValue97
  t53 := Tryz.underlying100
  a53 := Tryz.isAgg100
  z53 := Tryz.sizeOf100
  v53 := Tryz.zeroValue100
  t70 := Tryz.underlying75
  a70 := Tryz.isAgg75
  z70 := Tryz.sizeOf75
  v70 := Tryz.zeroValue75
  t72 := Tryz.underlying77
  a72 := Tryz.isAgg77
  z72 := Tryz.sizeOf77
  v72 := Tryz.zeroValue77
  t75 := Tryz.underlying65
  a75 := Tryz.isAgg65
  z75 := Tryz.sizeOf65
  v75 := Tryz.zeroValue65
  t76 := Tryz.underlying66
  a76 := Tryz.isAgg66
  z76 := Tryz.sizeOf66
  v76 := Tryz.zeroValue66
  t109 := Tryz.underlying83
  a109 := Tryz.isAgg83
  z109 := Tryz.sizeOf83
  v109 := Tryz.zeroValue83
  t127 := Tryz.underlying96
  a127 := Tryz.isAgg96
  z127 := Tryz.sizeOf96
  v127 := Tryz.zeroValue96
  t146 := Tryz.underlying98
  a146 := Tryz.isAgg98
  z146 := Tryz.sizeOf98
  v146 := Tryz.zeroValue98
  t148 := Tryz.underlying101
  a148 := Tryz.isAgg101
  z148 := Tryz.sizeOf101
  v148 := Tryz.zeroValue101
  t164 := Tryz.underlying113
  a164 := Tryz.isAgg113
  z164 := Tryz.sizeOf113
  v164 := Tryz.zeroValue113 }
theorem Tryz.Builder_Extra_105 : Builder.Extra Tryz.prog Tryz.lays105_ren := {
  sizeBuilder := by kernel_rfl
  liesBuilder := by kernel_rfl
  t5 := Tryz.underlying5
  a5 := Tryz.isAgg5
  z5 := Tryz.sizeOf5
  v5 := Tryz.zeroValue5
  infoByte := by kernel_rfl
  cellsByte := by kernel_rfl
  sizeByte := by kernel_rfl
  neB5 := by decide }
open Go.RowKit Go.Lib in
theorem Tryz.strings_Repeat (s : ByteArray) (c : Nat) (w : World) (hc : c ≤ 9223372036854775807) (hlen : s.size * c ≤ 140737488355328) :
    Calls Tryz.prog 29 #[.string s, .int .i64 c] w fun e w' => e = .returned (.string ⟨(Lib.repeatL s.data.toList c).toArray⟩) ∧ Below w.heap.size w w' := Any.strings_Repeat Tryz.lays105 Tryz.Builder_Extra_105 s c w hc hlen
end Go.Proofs
end
section
namespace Go.Proofs.YtdbgpoileffbeaaGreatDoor.Ext
open Go.RowKit Go.Sort Go.Proofs.YtdbgpoileffbeaaGreatDoorW.PrintWords Go.Proofs.YtdbgpoileffbeaaGreatDoorW.PrintLast Go.Proofs.YtdbgpoileffbeaaGreatDoorW.PrintMore
set_option linter.unusedVariables false
set_option linter.unusedSimpArgs false
def EnvI (w : World) : Prop := Lib.TabIs Tryz.prog w "internal/strconv.uint64pow10" .u64 Lib.pow10Tab
theorem gPow : Tryz.prog.globalNamed "internal/strconv.uint64pow10" = some 3 := by kernel_rfl
theorem EnvI.below {w w' : World} (h : EnvI w) (hb : Below w.heap.size w w') : EnvI w' := Joins.tab_stays gPow h hb (Nat.le_refl _)
def HoldsErr (g : Nat) (w : World) : Prop := ∃ ev, w.cell? ⟨g, 0, none⟩ = some ev ∧ (ev = .nilIface ∨ ∃ te pe, ev = .iface te pe)
theorem cell_stays {w w' : World} {p : Addr} {v : Value} (h : w.cell? p = some v) (hb : Below w.heap.size w w') : w'.cell? p = some v :=
  (hb.cell (World.block_lt_of_cell? _ _ h)).trans h
theorem HoldsErr.below {g : Nat} {w w' : World} (h : HoldsErr g w) (hb : Below w.heap.size w w') : HoldsErr g w' := by
  obtain ⟨ev, hc, he⟩ := h
  exact ⟨ev, cell_stays hc hb, he⟩
structure EnvA (w : World) : Prop where
  toI : EnvI w
  syn : HoldsErr 1 w
  ran : HoldsErr 2 w
  len : ∃ m, w.cell? ⟨0, 0, none⟩ = some (.int .i64 m)
theorem EnvA.below {w w' : World} (h : EnvA w) (hb : Below w.heap.size w w') : EnvA w' := by
  obtain ⟨m, hm⟩ := h.len
  exact ⟨h.toI.below hb, h.syn.below hb, h.ran.below hb, m, cell_stays hm hb⟩
def lib_Itoa.f (a0 : Int) : Option ByteArray := if -9223372036854775808 ≤ a0 ∧ a0 ≤ 9223372036854775807 then some ⟨(Lib.itoa a0).toArray⟩ else none
theorem lib_Itoa.calls (a0 : Int) (r : ByteArray) (w : World) (hT : EnvI w) (h : lib_Itoa.f a0 = some r) :
    Calls Tryz.prog 56 #[.int .i64 a0] w fun e w' => e = .returned (.string r) ∧ Below w.heap.size w w' := by
  unfold lib_Itoa.f at h
  split at h
  · rename_i hb
    obtain rfl := Option.some.inj h
    refine (Tryz.strconv_Itoa a0 hb.1 hb.2 w hT).mono ?_
    rintro e w' ⟨he, k, os, rfl⟩
    exact ⟨he, Lib.below_grow _ w (Nat.le_refl _) k os⟩
  · cases h
def lib_Repeat.f (a0 : ByteArray) (a1 : Int) : Option ByteArray := if 0 ≤ a1 ∧ a1 ≤ 9223372036854775807 ∧ a0.size * a1.toNat ≤ 140737488355328 then some ⟨(Lib.repeatL a0.data.toList a1.toNat).toArray⟩ else none
theorem lib_Repeat.calls (a0 : ByteArray) (a1 : Int) (r : ByteArray) (w : World) (h : lib_Repeat.f a0 a1 = some r) :
    Calls Tryz.prog 29 #[.string a0, .int .i64 a1] w fun e w' => e = .returned (.string r) ∧ Below w.heap.size w w' := by
  unfold lib_Repeat.f at h
  split at h
  · rename_i hb
    obtain rfl := Option.some.inj h
    obtain ⟨h0, h1, h2⟩ := hb
    obtain ⟨n, rfl⟩ := Int.eq_ofNat_of_zero_le h0
    rw [Int.toNat_natCast] at h2 ⊢
    exact Tryz.strings_Repeat a0 n w (by omega) h2
  · cases h
def atoiV (l : List UInt8) : Int := match Lib.atoiAll l with
  | .ok v => v
  | .range => Lib.atoiSat l
  | _ => 0
theorem atoi_calls (a0 : ByteArray) (hs : a0.size ≤ 281474976710656) (w : World) (hT : EnvA w) :
    Calls Tryz.prog 48 #[.string a0] w fun e w' => ∃ ev, e = .returned (.tuple #[.int .i64 (atoiV a0.data.toList), ev]) ∧ Below w.heap.size w w' := by
  unfold atoiV
  cases h : Lib.atoiAll a0.data.toList with
  | ok v =>
    refine (Tryz.strconv_Atoi_ok a0 (by omega) v h w).mono ?_
    rintro e w' ⟨he, rfl | ⟨t, rfl⟩⟩
    · exact ⟨_, he, Below.refl _ _⟩
    · exact ⟨_, he, Lib.bytesWorld_below _ _ _⟩
  | range =>
    obtain ⟨ev, hc, hev⟩ := hT.ran
    refine (Tryz.strconv_Atoi_range a0 hs h ev w hc hev).mono ?_
    rintro e w' ⟨N, he, _, _, hb⟩
    exact ⟨_, he, hb⟩
  | _ =>
    obtain ⟨ev, hc, hev⟩ := hT.syn
    refine (Tryz.strconv_Atoi_syntax a0 hs h ev w hc hev).mono ?_
    rintro e w' ⟨N, he, _, _, hb⟩
    exact ⟨_, he, hb⟩
def lib_Atoi.f (a0 : ByteArray) : Option (Int × Bool) := if a0.size ≤ 281474976710656 then some (atoiV a0.data.toList, true) else none
theorem lib_Atoi.calls (a0 : ByteArray) (r1 : Int) (r2 : Bool) (w : World) (hT : EnvA w) (h : lib_Atoi.f a0 = some (r1, r2)) :
    Calls Tryz.prog 48 #[.string a0] w fun e w' => ∃ ev, e = .returned (.tuple #[.int .i64 r1, ev]) ∧ Below w.heap.size w w' := by
  unfold lib_Atoi.f at h
  split at h
  · rename_i hb
    obtain ⟨rfl, rfl⟩ := Prod.mk.inj (Option.some.inj h)
    exact atoi_calls a0 hb w hT
  · cases h
def lib_Cut.f (a0 a1 : ByteArray) : Option (ByteArray × ByteArray × Bool) :=
  if a0.size < 4294967281 then some (⟨(Lib.cut a0.data.toList a1.data.toList).1.toArray⟩, ⟨(Lib.cut a0.data.toList a1.data.toList).2.1.toArray⟩, (Lib.cut a0.data.toList a1.data.toList).2.2) else none
theorem lib_Cut.calls (a0 a1 : ByteArray) (r1 r2 : ByteArray) (r3 : Bool) (w : World) (hT : EnvA w) (h : lib_Cut.f a0 a1 = some (r1, r2, r3)) :
    Calls Tryz.prog 19 #[.string a0, .string a1] w fun e w' => e = .returned (.tuple #[.string r1, .string r2, .bool r3]) ∧ Below w.heap.size w w' := by
  unfold lib_Cut.f at h
  split at h
  · rename_i hs
    obtain ⟨rfl, h2⟩ := Prod.mk.inj (Option.some.inj h)
    obtain ⟨rfl, rfl⟩ := Prod.mk.inj h2
    obtain ⟨m, hm⟩ := hT.len
    refine (Tryz.strings_Cut a0 a1 m w hs hm).mono ?_
    rintro e w' ⟨he, n, rfl⟩
    exact ⟨he, Drawn0.below ⟨n, rfl⟩⟩
  · cases h
def lib_CutPrefix.f (a0 a1 : ByteArray) : Option (ByteArray × Bool) := some (⟨(Lib.trimPrefix a0.data.toList a1.data.toList).toArray⟩, Lib.hasPrefix a0.data.toList a1.data.toList)
theorem lib_CutPrefix.calls (a0 a1 : ByteArray) (r1 : ByteArray) (r2 : Bool) (w : World) (h : lib_CutPrefix.f a0 a1 = some (r1, r2)) :
    Calls Tryz.prog 18 #[.string a0, .string a1] w fun e w' => e = .returned (.tuple #[.string r1, .bool r2]) ∧ Drawn0 w w' := by
  obtain ⟨rfl, rfl⟩ := Prod.mk.inj (Option.some.inj h)
  refine (Tryz.strings_CutPrefix a0 a1 w).mono ?_
  rintro e w' ⟨he, rfl⟩
  exact ⟨he, Drawn0.refl _⟩
theorem builder_WriteString (B b : Nat) (bs : List Value) (s : ByteArray) (w : World) (h : Lib.IsBuilderF 77 5 B b bs w) (hlen : bs.length + s.size ≤ 140737488355328) (hBw : B ≤ w.heap.size) :
    Calls Tryz.prog 57 #[.pointer (some ⟨b, 0, none⟩), .string s] w fun e w' => e = .returned (.tuple #[.int .i64 s.size, .nilIface]) ∧ (Lib.BuilderAtF 77 5 B b (.pointer (some ⟨b, 0, none⟩)) (bs ++ Lib.strCells s) w' ∧ Below B w w' ∧ Lib.OthersKept 5 (some b) w w') :=
  Any.Builder_WriteString_k { Tryz.lays105 with } Tryz.Builder_Extra_105 B b bs s w h hlen hBw
end Go.Proofs.YtdbgpoileffbeaaGreatDoor.Ext
end
section
namespace Go.Proofs.YtdbgpoileffbeaaGreatDoor.Dec
open Go.Lib
set_option linter.unusedVariables false
set_option linter.unusedSimpArgs false
def IsD (b : UInt8) : Prop := 48 ≤ b.toNat ∧ b.toNat ≤ 57
instance (b : UInt8) : Decidable (IsD b) := inferInstanceAs (Decidable (_ ∧ _))
def Digs (l : List UInt8) : Prop := ∀ b ∈ l, IsD b
instance (l : List UInt8) : Decidable (Digs l) := inferInstanceAs (Decidable (∀ b ∈ l, IsD b))
def dvalA (a : Nat) (l : List UInt8) : Nat := l.foldl (fun a b => a * 10 + (b.toNat - 48)) a
def dval (l : List UInt8) : Nat := dvalA 0 l
theorem Digs.nil : Digs [] := fun _ h => by cases h
theorem Digs.append {a b : List UInt8} (ha : Digs a) (hb : Digs b) : Digs (a ++ b) := fun x hx => (List.mem_append.1 hx).elim (ha x) (hb x)
theorem Digs.tail {x : UInt8} {a : List UInt8} (h : Digs (x :: a)) : Digs a := fun y hy => h y (by simp [hy])
theorem Digs.head {x : UInt8} {a : List UInt8} (h : Digs (x :: a)) : IsD x := h x (by simp)
theorem Digs.take {l : List UInt8} (h : Digs l) (n : Nat) : Digs (l.take n) := fun x hx => h x (List.mem_of_mem_take hx)
theorem Digs.drop {l : List UInt8} (h : Digs l) (n : Nat) : Digs (l.drop n) := fun x hx => h x (List.mem_of_mem_drop hx)
theorem Digs.get {l : List UInt8} (h : Digs l) {i : Nat} {b : UInt8} (hb : l[i]? = some b) : IsD b := h b (List.mem_of_getElem? hb)
theorem dvalA_nil (a : Nat) : dvalA a [] = a := List.foldl_nil
theorem dvalA_cons (a : Nat) (b : UInt8) (r : List UInt8) : dvalA a (b :: r) = dvalA (a * 10 + (b.toNat - 48)) r := List.foldl_cons ..
theorem dvalA_eq0 (l : List UInt8) : ∀ a, dvalA a l = a * 10 ^ l.length + dvalA 0 l := by
  induction l with
  | nil => intro a; rw [dvalA_nil, dvalA_nil, List.length_nil, Nat.pow_zero, Nat.mul_one, Nat.add_zero]
  | cons b r ih =>
    intro a
    rw [dvalA_cons, dvalA_cons, ih, ih (0 * 10 + (b.toNat - 48)), List.length_cons, Nat.pow_succ]
    generalize 10 ^ r.length = P
    generalize b.toNat - 48 = d
    rw [Nat.zero_mul, Nat.zero_add, Nat.add_mul, Nat.mul_assoc, Nat.mul_comm 10 P, Nat.add_assoc]
theorem dvalA_eq (l : List UInt8) (a : Nat) : dvalA a l = a * 10 ^ l.length + dval l := dvalA_eq0 l a
theorem dvalA_append (x b : List UInt8) (n : Nat) : dvalA n (x ++ b) = dvalA (dvalA n x) b := List.foldl_append ..
theorem dval_append (a b : List UInt8) : dval (a ++ b) = dval a * 10 ^ b.length + dval b := by
  unfold dval
  rw [dvalA_append, dvalA_eq b]
  rfl
theorem dval_nil : dval [] = 0 := dvalA_nil 0
theorem dval_one (b : UInt8) : dval [b] = b.toNat - 48 := by unfold dval; rw [dvalA_cons, dvalA_nil, Nat.zero_mul, Nat.zero_add]
theorem dval_cons (b : UInt8) (l : List UInt8) : dval (b :: l) = (b.toNat - 48) * 10 ^ l.length + dval l := by
  unfold dval
  rw [dvalA_cons, dvalA_eq0, Nat.zero_mul, Nat.zero_add]
theorem dval_snoc (l : List UInt8) (b : UInt8) : dval (l ++ [b]) = dval l * 10 + (b.toNat - 48) := by rw [dval_append, dval_one]; simp
theorem dval_lt {l : List UInt8} (h : Digs l) : dval l < 10 ^ l.length := by
  induction l with
  | nil => simp [dval_nil]
  | cons b r ih =>
    have h1 := ih h.tail
    have h2 := h.head
    unfold IsD at h2
    rw [dval_cons, List.length_cons, Nat.pow_succ]
    have h3 : (b.toNat - 48) * 10 ^ r.length ≤ 9 * 10 ^ r.length := Nat.mul_le_mul_right _ (by omega)
    omega
def zerosL (n : Nat) : List UInt8 := List.replicate n 48
theorem zerosL_digs (n : Nat) : Digs (zerosL n) := fun b hb => by
  rw [List.eq_of_mem_replicate hb]; decide
theorem zerosL_dval (n : Nat) : dval (zerosL n) = 0 := by
  induction n with
  | zero => rfl
  | succ n ih => unfold zerosL at *; rw [List.replicate_succ, dval_cons, ih]; simp
theorem zerosL_len (n : Nat) : (zerosL n).length = n := List.length_replicate
theorem ofNat_toNat {d : Nat} (h : d < 10) : (UInt8.ofNat (48 + d)).toNat = 48 + d := by
  rw [UInt8.toNat_ofNat']
  exact Nat.mod_eq_of_lt (by omega)
theorem decDigits_digs (n : Nat) : Digs (decDigits n) := by
  induction n using Nat.strongRecOn with
  | ind n ih =>
    rw [decDigits]
    split
    · intro b hb
      rw [List.mem_singleton.1 hb]
      unfold IsD
      rw [ofNat_toNat (by omega)]
      omega
    · refine (ih (n / 10) (by omega)).append ?_
      intro b hb
      rw [List.mem_singleton.1 hb]
      unfold IsD
      rw [ofNat_toNat (by omega)]
      omega
theorem decDigits_dval (n : Nat) : dval (decDigits n) = n := by
  induction n using Nat.strongRecOn with
  | ind n ih =>
    rw [decDigits]
    split
    · rw [dval_one, ofNat_toNat (by omega)]; omega
    · rw [dval_snoc, ih (n / 10) (by omega), ofNat_toNat (by omega)]; omega
def Canon (l : List UInt8) : Prop := l.length = 1 ∨ (1 < l.length ∧ l.head? ≠ some 48)
instance (l : List UInt8) : Decidable (Canon l) := inferInstanceAs (Decidable (_ ∨ _))
theorem decDigits_len_pos (n : Nat) : 0 < (decDigits n).length := by rw [decDigits]; split <;> simp
theorem decDigits_head (n : Nat) (h : n ≠ 0) : (decDigits n).head? ≠ some 48 := by
  induction n using Nat.strongRecOn with
  | ind n ih =>
    rw [decDigits]
    split
    · intro e
      rw [List.head?_cons, Option.some.injEq] at e
      have := congrArg UInt8.toNat e
      rw [ofNat_toNat (by omega)] at this
      have h48 : (48 : UInt8).toNat = 48 := rfl
      omega
    · have h1 := ih (n / 10) (by omega) (by omega)
      have h2 := decDigits_len_pos (n / 10)
      cases hd : decDigits (n / 10) with
      | nil => rw [hd] at h2; simp at h2
      | cons x xs => rw [hd] at h1; simpa using h1
theorem decDigits_canon (n : Nat) : Canon (decDigits n) := by
  have hp := decDigits_len_pos n
  by_cases h : n = 0
  · subst h; left; rw [decDigits, dif_pos (by decide)]; rfl
  · have := decDigits_head n h
    unfold Canon
    by_cases hl : (decDigits n).length = 1
    · exact .inl hl
    · exact .inr ⟨by omega, this⟩
theorem digit_inj {x y : UInt8} (hx : IsD x) (hy : IsD y) (h : x.toNat - 48 = y.toNat - 48) : x = y := by
  unfold IsD at hx hy
  exact UInt8.toNat_inj.1 (by omega)
theorem digs_uniq_len : ∀ {a b : List UInt8}, Digs a → Digs b → a.length = b.length → dval a = dval b → a = b
  | [], [], _, _, _, _ => rfl
  | [], _ :: _, _, _, h, _ => by simp at h
  | _ :: _, [], _, _, h, _ => by simp at h
  | x :: xs, y :: ys, ha, hb, h, hv => by
    have hl : xs.length = ys.length := by simpa using h
    rw [dval_cons, dval_cons, hl] at hv
    have l1 := dval_lt ha.tail
    have l2 := dval_lt hb.tail
    rw [hl] at l1
    have e : x.toNat - 48 = y.toNat - 48 := by
      have p : 0 < 10 ^ ys.length := Nat.pow_pos (by decide)
      rcases Nat.lt_trichotomy (x.toNat - 48) (y.toNat - 48) with hlt | he | hgt
      · have := Nat.mul_le_mul_right (10 ^ ys.length) (show (x.toNat - 48) + 1 ≤ y.toNat - 48 from hlt)
        rw [Nat.add_mul, Nat.one_mul] at this
        omega
      · exact he
      · have := Nat.mul_le_mul_right (10 ^ ys.length) (show (y.toNat - 48) + 1 ≤ x.toNat - 48 from hgt)
        rw [Nat.add_mul, Nat.one_mul] at this
        omega
    rw [e] at hv
    rw [digit_inj ha.head hb.head e, digs_uniq_len ha.tail hb.tail hl (by omega)]
theorem dval_ge {l : List UInt8} (h : Digs l) (h1 : l.head? ≠ some 48) (h0 : l ≠ []) : 10 ^ (l.length - 1) ≤ dval l := by
  cases l with
  | nil => exact absurd rfl h0
  | cons x xs =>
    have hx := h.head
    have : x.toNat ≠ 48 := fun e => h1 (by rw [List.head?_cons, UInt8.toNat_inj.1 (show x.toNat = (48 : UInt8).toNat from e)])
    unfold IsD at hx
    rw [dval_cons]
    have := Nat.mul_le_mul_right (10 ^ xs.length) (show 1 ≤ x.toNat - 48 by omega)
    simp only [List.length_cons, Nat.add_sub_cancel]
    omega
theorem canon_uniq {a b : List UInt8} (ha : Digs a) (hb : Digs b) (ca : Canon a) (cb : Canon b) (h : dval a = dval b) : a = b := by
  have key : ∀ {a b : List UInt8}, Digs a → Digs b → Canon a → Canon b → dval a = dval b → a.length ≤ b.length := by
    intro a b ha hb ca cb h
    rcases ca with h1 | ⟨h1, h2⟩
    · rcases cb with h3 | ⟨h3, _⟩ <;> omega
    · have g := dval_ge ha h2 (by intro e; rw [e] at h1; simp at h1)
      have l := dval_lt hb
      apply Nat.le_of_not_lt
      intro hlt
      have := Nat.pow_le_pow_right (show 0 < 10 by decide) (show b.length ≤ a.length - 1 by omega)
      omega
  exact digs_uniq_len ha hb (Nat.le_antisymm (key ha hb ca cb h) (key hb ha cb ca h.symm)) h
theorem decDigits_of {l : List UInt8} (h : Digs l) (c : Canon l) : decDigits (dval l) = l := canon_uniq (decDigits_digs _) h (decDigits_canon _) c (decDigits_dval _)
theorem decDigits_len_le {n k : Nat} (hk : 0 < k) (h : n < 10 ^ k) : (decDigits n).length ≤ k := by
  apply Nat.le_of_not_lt
  intro hlt
  have hn : n ≠ 0 := by
    intro e
    subst e
    have : (decDigits 0).length = 1 := by rw [decDigits, dif_pos (by decide)]; rfl
    omega
  have g := dval_ge (decDigits_digs n) (decDigits_head n hn) (by intro e; have := decDigits_len_pos n; rw [e] at this; simp at this)
  rw [decDigits_dval] at g
  have := Nat.pow_le_pow_right (show 0 < 10 by decide) (show k ≤ (decDigits n).length - 1 by omega)
  omega
def padL (n : Nat) (w : Nat) : List UInt8 := zerosL (w - (decDigits n).length) ++ decDigits n
theorem padL_digs (n w : Nat) : Digs (padL n w) := (zerosL_digs _).append (decDigits_digs n)
theorem padL_dval (n w : Nat) : dval (padL n w) = n := by unfold padL; rw [dval_append, zerosL_dval, decDigits_dval]; omega
theorem padL_len {n w : Nat} (hw : 0 < w) (h : n < 10 ^ w) : (padL n w).length = w := by
  have := decDigits_len_le hw h
  unfold padL
  rw [List.length_append, zerosL_len]; omega
theorem padL_of {l : List UInt8} (h : Digs l) (h0 : 0 < l.length) : padL (dval l) l.length = l :=
  digs_uniq_len (padL_digs _ _) h (padL_len h0 (dval_lt h)) (padL_dval _ _)
end Go.Proofs.YtdbgpoileffbeaaGreatDoor.Dec
end
section
namespace Go.Proofs.YtdbgpoileffbeaaGreatDoor.Dec
open Go.Lib Go.Proofs.YtdbgpoileffbeaaGreatDoor.Jt
set_option linter.unusedVariables false
set_option linter.unusedSimpArgs false
def pad4 (d : Int) : List UInt8 := padL d.toNat 4
def textL : List Int → List UInt8
  | [] => [48]
  | [x] => decDigits x.toNat
  | x :: y :: r => textL (y :: r) ++ pad4 x
def textB (l : List Int) : List UInt8 := if l = [] then [] else textL l
theorem textB_step (l : List Int) {k : Nat} (hk : k < l.length) : textB (l.drop k) = textB (l.drop (k + 1)) ++ (if k + 1 < l.length then pad4 (l.getD k 0) else decDigits (l.getD k 0).toNat) := by
  rw [drop_cons hk]
  by_cases h : k + 1 < l.length
  · rw [if_pos h, drop_cons h]
    simp [textB, textL]
  · rw [if_neg h, List.drop_eq_nil_of_le (by omega)]
    simp [textB, textL]
theorem pad4_len {d : Int} (h0 : 0 ≤ d) (h1 : d ≤ 9999) : (pad4 d).length = 4 := padL_len (by decide) (by omega)
theorem pad4_dval {d : Int} : dval (pad4 d) = d.toNat := padL_dval _ _
theorem nz_tail {x y : Int} {r : List Int} (h : Nz (x :: y :: r)) : Nz (y :: r) := by
  right
  have h' := h.resolve_left (by simp)
  simpa using h'
theorem textL_ne (l : List Int) : textL l ≠ [] := by
  induction l with
  | nil => simp [textL]
  | cons x r ih =>
    cases r with
    | nil => simp only [textL]; intro e; have := decDigits_len_pos x.toNat; rw [e] at this; simp at this
    | cons y r => simp only [textL]; intro e; exact ih (List.append_eq_nil_iff.1 e).1
theorem head_append {a b : List UInt8} (h : a ≠ []) : (a ++ b).head? = a.head? := by cases a with | nil => exact absurd rfl h | cons x xs => rfl
theorem textL_eq : ∀ (l : List Int), Dig l → Nz l → textL l = decDigits (val l).toNat
  | [], _, _ => by rw [show (val []).toNat = 0 from rfl, decDigits, dif_pos (by decide)]; rfl
  | [x], hd, hz => by simp [textL, val]
  | x :: y :: r, hd, hz => by
    have ih := textL_eq (y :: r) hd.tail (nz_tail hz)
    have hp := nz_pos hd.tail (nz_tail hz) (by simp)
    have hx := hd.head
    simp only [textL]
    rw [ih]
    have hv : val (x :: y :: r) = x + 10000 * val (y :: r) := rfl
    have dl := decDigits_len_pos (val (y :: r)).toNat
    have ne : decDigits (val (y :: r)).toNat ≠ [] := by intro e; rw [e] at dl; simp at dl
    refine canon_uniq ((decDigits_digs _).append (padL_digs _ _)) (decDigits_digs _) ?_ (decDigits_canon _) ?_
    · right
      refine ⟨by rw [List.length_append, pad4_len hx.1 hx.2]; omega, ?_⟩
      rw [head_append ne]
      exact decDigits_head _ (by omega)
    · rw [dval_append, pad4_len hx.1 hx.2, decDigits_dval, decDigits_dval, pad4_dval, hv]
      omega
theorem textL_digs (l : List Int) : Digs (textL l) := by
  induction l with
  | nil => decide
  | cons x r ih =>
    cases r with
    | nil => exact decDigits_digs _
    | cons y r => exact ih.append (padL_digs _ _)
theorem textL_len : ∀ (l : List Int), Dig l → (textL l).length ≤ 4 * l.length + 1
  | [], _ => by decide
  | [x], hd => by
    have hx := hd.head
    have : (decDigits x.toNat).length ≤ 4 := decDigits_len_le (by decide) (by omega)
    simp only [textL, List.length_cons, List.length_nil]; omega
  | x :: y :: r, hd => by
    have ih := textL_len (y :: r) hd.tail
    have hx := hd.head
    simp only [textL, List.length_append, pad4_len hx.1 hx.2, List.length_cons] at ih ⊢
    omega
def cutL (s : List UInt8) : List UInt8 := s.drop (s.length - 4)
def restL (s : List UInt8) : List UInt8 := s.take (s.length - 4)
def readL (s : List UInt8) : List Int := if h : s = [] then [] else (dval (cutL s) : Int) :: readL (restL s)
termination_by s.length
decreasing_by
  have : s.length ≠ 0 := fun e => h (List.eq_nil_of_length_eq_zero e)
  simp only [restL, List.length_take]; omega
theorem readL_nil : readL [] = [] := by rw [readL]; simp
theorem readL_cons {s : List UInt8} (h : s ≠ []) : readL s = (dval (cutL s) : Int) :: readL (restL s) := by rw [readL, dif_neg h]
theorem readL_ok : ∀ (n : Nat) (s : List UInt8), s.length ≤ n → Digs s → Dig (readL s) ∧ val (readL s) = (dval s : Int) ∧ 4 * (readL s).length < s.length + 4 := by
  intro n
  induction n with
  | zero =>
    intro s hs hd
    obtain rfl : s = [] := List.eq_nil_of_length_eq_zero (by omega)
    rw [readL_nil]
    exact ⟨Jt.Dig.nil, rfl, by simp⟩
  | succ n ih =>
    intro s hs hd
    by_cases h : s = []
    · subst h
      rw [readL_nil]
      exact ⟨Jt.Dig.nil, rfl, by simp⟩
    · have hl : s.length ≠ 0 := fun e => h (List.eq_nil_of_length_eq_zero e)
      have h1 : (restL s).length = s.length - 4 := by simp only [restL, List.length_take]; omega
      have h2 : (cutL s).length ≤ 4 := by simp only [cutL, List.length_drop]; omega
      have dc : Digs (cutL s) := hd.drop _
      have hlt := dval_lt dc
      have h3 : 10 ^ (cutL s).length ≤ 10 ^ 4 := Nat.pow_le_pow_right (by decide) h2
      obtain ⟨i1, i2, i3⟩ := ih (restL s) (by omega) (hd.take _)
      rw [readL_cons h]
      refine ⟨Jt.Dig.cons (by omega) (by omega) i1, ?_, by rw [List.length_cons]; omega⟩
      have e : s = restL s ++ cutL s := by simp only [restL, cutL, List.take_append_drop]
      have ev : dval s = dval (restL s) * 10 ^ (cutL s).length + dval (cutL s) := by
        conv => lhs; rw [e]
        exact dval_append _ _
      simp only [val]
      rw [i2, ev]
      by_cases h4 : 4 ≤ s.length
      · have : (cutL s).length = 4 := by simp only [cutL, List.length_drop]; omega
        rw [this]; omega
      · have : restL s = [] := by simp only [restL, show s.length - 4 = 0 by omega, List.take_zero]
        rw [this]; simp [dval_nil]
end Go.Proofs.YtdbgpoileffbeaaGreatDoor.Dec
end
section
namespace Go.Proofs.YtdbgpoileffbeaaGreatDoor.Rng
open Go.RowKit Go.Shelf Go.Lib Go.Proofs.YtdbgpoileffbeaaGreatDoor.Jt Go.Proofs.YtdbgpoileffbeaaGreatDoor.Dec Go.Proofs.YtdbgpoileffbeaaGreatDoor.Ext Go.Proofs.YtdbgpoileffbeaaGreatDoorW.PrintWords Go.Proofs.YtdbgpoileffbeaaGreatDoorW.PrintLast Go.Proofs.YtdbgpoileffbeaaGreatDoorW.PrintMore
set_option linter.unusedVariables false
set_option linter.unusedSimpArgs false
attribute [local go_sem] Oper.semAt_some
theorem builder_grown {T e : TypeId} {B b : Nat} {bs : List Value} {W W' : World} {row : Option Nat} (h : IsBuilderF T e B b bs W) (hg : W.grownBy W' row) (hrow : ∀ r, row = some r → ∃ o : Obj, W.heap[r]? = some o ∧ o.isCells = false) : IsBuilderF T e B b bs W' := by
  have go : ∀ p, BuilderAtF T e B b p bs W → BuilderAtF T e B b p bs W' := by
    rintro p ⟨hB, v, hb, ho, hne⟩
    refine ⟨hB, v, (grownBy_keeps_cells hg hrow hb rfl).trans hb, ho.kept hg ?_, hne⟩
    cases hv : v.ownBlock with
    | none => exact .inl rfl
    | some g =>
      right
      intro e'
      obtain ⟨o, ho', hc⟩ := hrow g e'.symm
      rcases ho.2 with ⟨rfl, _⟩ | ⟨g', cap, cur, fz, rfl, _, hgg, _⟩
      · simp [Value.ownBlock] at hv
      · simp [Value.ownBlock] at hv
        subst hv
        rw [hgg] at ho'; cases ho'; cases hc
  exact h.elim (fun x => .inl (go _ x)) (fun x => .inr (go _ x))
theorem builder_below {T e : TypeId} {B b : Nat} {bs : List Value} {W W' : World} (h : IsBuilderF T e B b bs W) (hb : Below W.heap.size W W') : IsBuilderF T e B b bs W' := by
  have go : ∀ p, BuilderAtF T e B b p bs W → BuilderAtF T e B b p bs W' := by
    rintro p ⟨hB, v, hbk, ho, hne⟩
    have same : ∀ {k : Nat} {o : Obj}, W.heap[k]? = some o → W'.heap[k]? = some o := fun hk => (hb.block _ (Array.getElem?_eq_some_iff.1 hk).1).trans hk
    refine ⟨hB, v, same hbk, ⟨ho.1, ?_⟩, hne⟩
    rcases ho.2 with hn | ⟨g, cap, cur, fz, hv, hbg, hgg, rest⟩
    · exact .inl hn
    · exact .inr ⟨g, cap, cur, fz, hv, hbg, same hgg, rest⟩
  exact h.elim (fun x => .inl (go _ x)) (fun x => .inr (go _ x))
theorem repeat_zeros (c : Nat) : repeatL [48] c = zerosL c := by
  induction c with
  | zero => rfl
  | succ c ih => unfold zerosL at *; rw [repeatL, ih, List.replicate_succ]; rfl
theorem size_list (z : ByteArray) : z.size = z.data.toList.length := by rw [Array.length_toList]; rfl
def piece (len : Nat) (x : Nat × Int) : List UInt8 := if x.1 + 1 < len then pad4 x.2 else decDigits x.2.toNat
def soFar (len : Nat) (l : List (Nat × Int)) : List UInt8 := l.flatMap (piece len)
theorem soFar_snoc (len : Nat) (l : List (Nat × Int)) (x : Nat × Int) : soFar len (l ++ [x]) = soFar len l ++ piece len x := by simp [soFar]
theorem piece_len {len : Nat} {x : Nat × Int} (h0 : 0 ≤ x.2) (h1 : x.2 ≤ 9999) : (piece len x).length ≤ 4 := by
  unfold piece
  split
  · rw [pad4_len h0 h1]; omega
  · exact decDigits_len_le (by decide) (by omega)
theorem soFar_len {len : Nat} : ∀ {l : List (Nat × Int)}, (∀ x ∈ l, 0 ≤ x.2 ∧ x.2 ≤ 9999) → (soFar len l).length ≤ 4 * l.length
  | [], _ => by simp [soFar]
  | x :: r, h => by
    have h1 := piece_len (len := len) (h x (by simp)).1 (h x (by simp)).2
    have h2 := soFar_len (len := len) (l := r) (fun y hy => h y (by simp [hy]))
    have e : soFar len (x :: r) = piece len x ++ soFar len r := rfl
    rw [e, List.length_append, List.length_cons]; omega
theorem soFar_down (l : List Int) : ∀ k, k ≤ l.length → soFar l.length (down l l.length k) = textB (l.drop (l.length - k))
  | 0, _ => by rw [Nat.sub_zero, List.drop_length]; rfl
  | k + 1, h => by
    have ih := soFar_down l k (by omega)
    have e1 := down_step l (len := l.length) (m := l.length - (k + 1)) (by omega)
    rw [show l.length - (l.length - (k + 1)) = k + 1 by omega, show l.length - (l.length - (k + 1) + 1) = k by omega] at e1
    rw [e1, soFar_snoc, ih, textB_step l (k := l.length - (k + 1)) (by omega), show l.length - (k + 1) + 1 = l.length - k by omega]
    congr 1
    unfold piece
    simp only
    have e2 : l[l.length - (k + 1)]?.getD 0 = l.getD (l.length - (k + 1)) 0 := (List.getD_eq_getElem?_getD ..).symm
    rw [e2, show l.length - (k + 1) + 1 = l.length - k by omega]
theorem soFar_all {l : List Int} (h : l ≠ []) : soFar l.length (down l l.length l.length) = textL l := by
  rw [soFar_down l l.length (Nat.le_refl _), Nat.sub_self, List.drop_zero]
  unfold textB
  rw [if_neg h]
theorem dig_get {l : List Int} (hd : Dig l) (i : Nat) : 0 ≤ l[i]?.getD 0 ∧ l[i]?.getD 0 ≤ 9999 := by
  cases h : l[i]? with
  | none => simp
  | some v => have := hd v (List.mem_of_getElem? h); simp only [Option.getD_some]; omega
theorem row_of {a : Option Addr} {l : List Int} {w w' : World} {S : Nat → Prop} (hS : ∀ x, x < w.heap.size → S x) (hr : Kd.C (Kd.int .i64) w a l.length l) (hb : Below w.heap.size w w') : RowIn S w' a l.length l := by
  cases hl : l with
  | nil => exact .inl rfl
  | cons x r =>
    right
    obtain ⟨ad, e, hc0⟩ := Kd.at_int hr 0 (by omega) (by rw [hl]; simp)
    have hlt := World.block_lt_of_cell? _ _ hc0
    rw [add_blk] at hlt
    rw [← hl]
    refine ⟨ad, e, hS _ hlt, fun j hj => ?_⟩
    obtain ⟨ad', e', hc⟩ := Kd.at_int hr (j : Int) (by omega) (by omega)
    rw [e] at e'; cases e'
    rw [hb.cell (by rw [add_blk]; exact hlt), ← Int.toNat_natCast j, hc]
    simp [rd, List.getD_eq_getElem?_getD]
set_option maxRecDepth 100000 in
set_option maxHeartbeats 2000000 in
theorem text_in (a : Option Addr) (c : Nat) (l : List Int) (h0 : l ≠ []) (hd : Dig l) (hlen : l.length * 8 ≤ 140737488351232) (w : World) (hT : EnvI w) (hr : Kd.C (Kd.int .i64) w a l.length l) (hc : l.length ≤ c) :
    CallsIn Fence.wide 3 Tryz.prog 28 #[.slice a l.length c] w fun e W' => e = .returned (.string ⟨(textL l).toArray⟩) ∧ Below w.heap.size w W' := by
  refine callsIn_of_wp_marks Tryz.func28 rfl trivial ?_ rfl
  simp only [Tryz.ntmps28, List.size_toArray, List.length_cons, List.length_nil, Nat.reduceAdd, Nat.reduceSub, Array.replicate_succ, Array.replicate_zero, List.push_toArray, List.append_toArray, List.nil_append, List.cons_append]
  have hl0 : (l.length : Int) ≠ 0 := by
    cases l with
    | nil => exact absurd rfl h0
    | cons x r => simp; omega
  have hne : ((l.length : Int) == 0) = false := beq_eq_false_iff_ne.2 hl0
  gi_wp2_with (refine ⟨trivial, ?_⟩; gi_at_call 55; refine (back_in Fence.wide (3 - 1) trivial rfl _ _ _ _).mono ?_; rintro e w' ⟨rfl, rfl⟩)
  obtain ⟨W1, hW1⟩ : ∃ W1, w.alloc (.cells #[.slice a l.length c] 44) = W1 := ⟨_, rfl⟩
  obtain ⟨W2, hW2⟩ : ∃ W2, W1.alloc (.cells #[.pointer none, .slice none 0 0] 77) = W2 := ⟨_, rfl⟩
  obtain ⟨W3, hW3⟩ : ∃ W3, W2.alloc (.cells #[.slice a l.length c] 44) = W3 := ⟨_, rfl⟩
  have s1 : W1.heap.size = w.heap.size + 1 := by rw [← hW1, World.size_alloc]
  have s2 : W2.heap.size = w.heap.size + 2 := by rw [← hW2, World.size_alloc, s1]
  have s3 : W3.heap.size = w.heap.size + 3 := by rw [← hW3, World.size_alloc, s2]
  have bA : Boxed W1 w.heap.size 44 (.slice a l.length c) := hW1 ▸ Boxed.new w _ _
  have bA3 : Boxed W3 w.heap.size 44 (.slice a l.length c) := hW3 ▸ (hW2 ▸ bA.alloc _ : Boxed W2 w.heap.size 44 (.slice a l.length c)).alloc _
  have bS : Boxed W3 (w.heap.size + 2) 44 (.slice a l.length c) := by have := Boxed.new W2 44 (.slice a l.length c); rw [hW3, s2] at this; exact this
  have bO : IsBuilderF 77 5 (w.heap.size + 1) (w.heap.size + 1) [] W3 := by
    refine .inl ⟨Nat.le_refl _, .slice none 0 0, ?_, World.ownsRowF_nil _ _ _ _, by simp [Value.ownBlock]⟩
    have h2 : W2.heap[w.heap.size + 1]? = some (.cells #[.pointer none, .slice none 0 0] 77 (0, 0)) := by have := World.alloc_heap_new W1 (.cells #[.pointer none, .slice none 0 0] 77); rw [hW2, s1] at this; exact this
    rw [← hW3]
    exact (Below.heap_alloc W2 _ _ (by rw [s2]; omega)).trans h2
  have hB3 : Below w.heap.size w W3 := by
    have b1 : Below w.heap.size w W1 := hW1 ▸ (Below.refl _ w).alloc (Nat.le_refl _) _
    have b2 : Below w.heap.size w W2 := hW2 ▸ b1.alloc (by rw [s1]; omega) _
    exact hW3 ▸ b2.alloc (by rw [s2]; omega) _
  rw [hW1, hW2, hW3]
  have hIrow := row_of (S := fun x => x < w.heap.size + 1 ∨ x = w.heap.size + 2) (fun x hx => .inl (by omega)) hr hB3
  refine wpIn_rangeFunc_ownG rfl (by decide) (gf := 80) (lb := #[.pointer (some ⟨w.heap.size + 2, 0, none⟩)]) ?hg trivial (enters_of Tryz.func80 (by kernel_rfl) rfl)
    (back_stops Fence.wide 2 trivial rfl (by decide) (w.heap.size + 2) a l.length c l hlen (fun x => x < w.heap.size + 1 ∨ x = w.heap.size + 2) (.inr rfl) W3 (fun x hx => by rw [s3]; omega) bS.cell hIrow) SameIn.trans (sameIn_b (fun x hx => by rw [s3]; omega)) (Below.refl _ _) (fun _ => rfl)
    (fun pre W => (IsBuilderF 77 5 (w.heap.size + 1) (w.heap.size + 1) (byteCells (soFar l.length (pre.map Subtype.val))) W ∧ Boxed W w.heap.size 44 (.slice a l.length c) ∧ Boxed W (w.heap.size + 2) 44 (.slice a l.length c)) ∧ Below w.heap.size w W)
    (fun _ _ _ => False)
    ?hI (fun _ _ _ _ _ hs _ _ => hs) ⟨⟨bO, bA3, bS⟩, hB3⟩
    (fun x => { tmps := #[.slice a l.length c, .pointer (some ⟨w.heap.size, 0, none⟩), .string ⟨#[]⟩, .pointer (some ⟨w.heap.size + 1, 0, none⟩), .int .i64 (x.1.1 : Int), .int .i64 x.1.2, undef, .slice a l.length c, .int .i64 (l.length : Int), .bool false, .slice a l.length c, .func (.func 80) #[] #[.pointer (some ⟨w.heap.size + 2, 0, none⟩)], .int .i64 (x.1.1 : Int), .int .i64 x.1.2, undef, undef, undef, undef, undef, undef, undef, undef, undef, undef, undef, undef, undef, undef, undef, undef], defers := [] }) ?assign ?body ?done ?stop
  case hg => rfl
  case hI =>
    refine OwnFrom.and (Own.from (fun s X Y row hs hg hr => ⟨builder_grown hs.1 hg hr, ?_, ?_⟩) _) (ownFrom_below (Nat.le_refl _) (by rw [s3]; omega))
    · exact (grownBy_keeps_cells hg hr hs.2.1 rfl).trans hs.2.1
    · exact (grownBy_keeps_cells hg hr hs.2.2 rfl).trans hs.2.2
  case assign =>
    intro lo x W K hK
    gi_wp2
    exact hK
  case body =>
    rintro lo pre x W ⟨⟨hbO, hbA, hbS⟩, hB⟩ hN
    have hx : 0 ≤ x.1.2 ∧ x.1.2 ≤ 9999 := by
      rw [x.2.2]
      exact dig_get hd _
    have hxi := x.2.1
    have hpre : ∀ y ∈ pre.map Subtype.val, 0 ≤ y.2 ∧ y.2 ≤ 9999 := by
      intro y hy
      obtain ⟨z, _, rfl⟩ := List.mem_map.1 hy
      rw [z.2.2]
      exact dig_get hd _
    have hsl := soFar_len (len := l.length) hpre
    rw [List.length_map] at hsl
    have hpl := piece_len (len := l.length) hx.1 hx.2
    obtain ⟨s, hs⟩ : ∃ s : ByteArray, s = ⟨(Lib.itoa x.1.2).toArray⟩ := ⟨_, rfl⟩
    have hit : lib_Itoa.f x.1.2 = some s := by unfold lib_Itoa.f; rw [if_pos (by omega), hs]
    have hdig : Lib.itoa x.1.2 = decDigits x.1.2.toNat := by unfold Lib.itoa; rw [if_neg (by omega)]
    have hssz : s.size = (decDigits x.1.2.toNat).length := by rw [hs, hdig]; simp [ByteArray.size]
    have hs4 : s.size ≤ 4 := by rw [hssz]; exact decDigits_len_le (by decide) (by omega)
    have hsd : s.data.toList = decDigits x.1.2.toNat := by rw [hs, hdig]
    have hc1 := hbA.cell
    have hwl : wrap64 ((l.length : Int) - 1) = (l.length : Int) - 1 := by unfold wrap64; omega
    have fin : ∀ (q : ByteArray) (W4 W5 : World), Below W.heap.size W W4 → q.data.toList = piece l.length x.1 →
        (BuilderAtF 77 5 (w.heap.size + 1) (w.heap.size + 1) (.pointer (some ⟨w.heap.size + 1, 0, none⟩)) (byteCells (soFar l.length (pre.map Subtype.val)) ++ strCells q) W5 ∧ Below (w.heap.size + 1) W4 W5 ∧ OthersKept 5 (some (w.heap.size + 1)) W4 W5) →
        KeepsFrom W3.heap.size W W5 ∧ SameIn (fun x => x < w.heap.size + 1 ∨ x = w.heap.size + 2) W W5 ∧ (IsBuilderF 77 5 (w.heap.size + 1) (w.heap.size + 1) (byteCells (soFar l.length ((pre ++ [x]).map Subtype.val))) W5 ∧ Boxed W5 w.heap.size 44 (.slice a l.length c) ∧ Boxed W5 (w.heap.size + 2) 44 (.slice a l.length c)) ∧ Below w.heap.size w W5 := by
      rintro q W4 W5 hb4 hq ⟨h1, h2, h3⟩
      have same4 : ∀ {k : Nat} {o : Obj}, W.heap[k]? = some o → W4.heap[k]? = some o := fun hk => (hb4.block _ (Array.getElem?_eq_some_iff.1 hk).1).trans hk
      have hA5 : Boxed W5 w.heap.size 44 (.slice a l.length c) := h3 _ _ (same4 hbA) (by simp) (fun c' fz e => by cases e)
      have hS5 : Boxed W5 (w.heap.size + 2) 44 (.slice a l.length c) := h3 _ _ (same4 hbS) (by simp) (fun c' fz e => by cases e)
      have hWs := hB.size
      have hSs := hbS.lt
      refine ⟨⟨Nat.le_trans hb4.size h2.size, fun k o hk ho hcl => h3 _ _ (same4 ho) (by simp; omega) (fun c' fz e => by rw [e] at hcl; cases hcl)⟩, ?_, ⟨.inr ?_, hA5, hS5⟩, (hB.trans (hb4.mono hWs)).trans (h2.mono (by omega))⟩
      · intro p hp
        rcases hp with hp | hp
        · rw [h2.cell (p := p) (by omega), hb4.cell (p := p) (by omega)]
        · refine World.cell?_of_block ?_
          rw [hp]
          exact hS5.trans hbS.symm
      · rw [List.map_append, List.map_cons, List.map_nil, soFar_snoc, byteCells_append, ← hq]
        exact h1
    by_cases hlast : (x.1.1 : Int) < (l.length : Int) - 1
    · have hld : decide ((x.1.1 : Int) < (l.length : Int) - 1) = true := decide_eq_true hlast
      have hwo : wrap64 (4 - (s.size : Int)) = 4 - (s.size : Int) := by unfold wrap64; omega
      obtain ⟨z, hz⟩ : ∃ z : ByteArray, z = ⟨(repeatL [48] (4 - (s.size : Int)).toNat).toArray⟩ := ⟨_, rfl⟩
      have hzl : z.data.toList = zerosL (4 - (decDigits x.1.2.toNat).length) := by
        rw [hz, show (4 - (s.size : Int)).toNat = 4 - (decDigits x.1.2.toNat).length by omega]
        exact repeat_zeros _
      have hzs : z.size = 4 - (decDigits x.1.2.toNat).length := by
        rw [size_list, hzl, zerosL_len]
      have hrep : lib_Repeat.f (⟨#[48]⟩ : ByteArray) (4 - (s.size : Int)) = some z := by
        unfold lib_Repeat.f
        rw [if_pos (by rw [show (⟨#[48]⟩ : ByteArray).size = 1 from rfl]; omega), hz]
      have hcat : z.size + s.size ≤ 9223372036854775807 := by omega
      have hcat2 : (9223372036854775807 < z.size + s.size) = False := eq_false (Nat.not_lt.2 hcat)
      have hq : (z ++ s).data.toList = piece l.length x.1 := by
        unfold piece
        rw [if_pos (by omega)]
        show (z ++ s).data.toList = padL _ _
        unfold padL
        rw [← hzl, ← hsd]
        simp
      have hqs : (z ++ s).size ≤ 4 := by
        rw [size_list, hq]; exact hpl
      have HQ := Aside0.mk hq
      have hqs' : (soFar l.length (pre.map Subtype.val)).length + (z ++ s).size ≤ 140737488355328 := by omega
      have HX := Aside0.mk hx
      clear hs hdig hssz hsd hz hzl hzs hq hxi hpre hx
      gi_wp2_with (first | (refine ⟨trivial, ?_⟩; gi_at_call 56; refine (CallsIn.inRound lo (callsIn_wide.2 (lib_Itoa.calls x.1.2 s _ (hT.below hB) hit))).mono ?_; rintro e w4 ⟨rfl, hb4⟩; have hc4 := cell_stays hc1 hb4) | (refine ⟨trivial, ?_⟩; gi_at_call 29; refine (CallsIn.inRound lo (callsIn_wide.2 (lib_Repeat.calls (⟨#[48]⟩ : ByteArray) (4 - (s.size : Int)) z _ hrep))).mono ?_; rintro e w5 ⟨rfl, hb5⟩) | (refine ⟨trivial, ?_⟩; gi_at_call 57; refine (CallsIn.inRound lo (callsIn_wide.2 (builder_WriteString (w.heap.size + 1) (w.heap.size + 1) (byteCells (soFar l.length (pre.map Subtype.val))) (z ++ s) _ (builder_below (builder_below hbO hb4) hb5) (by rw [byteCells_length]; exact hqs') (by have := hb4.size; have := hb5.size; have := hbS.lt; omega)))).mono ?_; rintro e w6 ⟨rfl, hpost⟩))
      exact fin (z ++ s) _ _ (hb4.trans (hb5.mono hb4.size)) HQ.out hpost
    · have hld : decide ((x.1.1 : Int) < (l.length : Int) - 1) = false := decide_eq_false hlast
      have hq : s.data.toList = piece l.length x.1 := by
        unfold piece
        rw [if_neg (by omega), hsd]
      have HQ := Aside0.mk hq
      have hqs' : (soFar l.length (pre.map Subtype.val)).length + s.size ≤ 140737488355328 := by omega
      have HX := Aside0.mk hx
      clear hs hdig hssz hsd hq hxi hpre hx
      gi_wp2_with (first | (refine ⟨trivial, ?_⟩; gi_at_call 56; refine (CallsIn.inRound lo (callsIn_wide.2 (lib_Itoa.calls x.1.2 s _ (hT.below hB) hit))).mono ?_; rintro e w4 ⟨rfl, hb4⟩; have hc4 := cell_stays hc1 hb4) | (refine ⟨trivial, ?_⟩; gi_at_call 57; refine (CallsIn.inRound lo (callsIn_wide.2 (builder_WriteString (w.heap.size + 1) (w.heap.size + 1) (byteCells (soFar l.length (pre.map Subtype.val))) s _ (builder_below hbO hb4) (by rw [byteCells_length]; exact hqs') (by have := hb4.size; have := hbS.lt; omega)))).mono ?_; rintro e w6 ⟨rfl, hpost⟩))
      exact fin s _ _ hb4 HQ.out hpost
  case done =>
    rintro D xs W hD hxs ⟨⟨hbO, hbA, hbS⟩, hB⟩ hK
    have hT2 : soFar l.length (xs.map Subtype.val) = textL l := by rw [hxs]; exact soFar_all h0
    rw [hT2] at hbO
    have hDn : some D ≠ some (w.heap.size + 1) := by simp; omega
    gi_wp2_with (refine ⟨trivial, ?_⟩; gi_at_call 58; refine (callsIn_wide.2 (Tryz.Builder_String_any_k (w.heap.size + 1) (w.heap.size + 1) (textL l) _ hbO (by have := hB.size; have := hbO; rcases hbO with h | h <;> (obtain ⟨_, v, hb, _⟩ := h; have := (Array.getElem?_eq_some_iff.1 hb).1; omega)))).mono ?_; rintro e w5 ⟨rfl, hb5, hw5, hk5⟩)
    have hK5 := hk5 D _ hK hDn (fun c fz e => by cases e)
    refine ⟨by simp, .inl ⟨_, _, rfl, run_takeDeferred hK5, ?_⟩⟩
    exact ⟨_, results_tmp rfl _ _ _, rfl, (hB.trans (hw5.mono (by omega))).trans (belowK_b (w := w) (Nat.le_refl _) w5 D _ _ (by omega) hK5 rfl rfl)⟩
  case stop =>
    rintro D c pre W _ _ h _
    exact h.elim
set_option maxHeartbeats 2000000 in
theorem text_nil (a : Option Addr) (c : Nat) (w : World) : Calls Tryz.prog 28 #[.slice a 0 c] w fun e W' => e = .returned (.string ⟨#[48]⟩) ∧ Below w.heap.size w W' := by
  go_enter Tryz.func28, Tryz.ntmps28
  go_wp2
  go_ret
  exact ⟨rfl, below_alloc (Below.refl _ _) _⟩
end Go.Proofs.YtdbgpoileffbeaaGreatDoor.Rng
namespace Go.Proofs.YtdbgpoileffbeaaGreatDoor.Ext
open Go.RowKit Go.Proofs.YtdbgpoileffbeaaGreatDoor.Jt Go.Proofs.YtdbgpoileffbeaaGreatDoor.Dec Go.Proofs.YtdbgpoileffbeaaGreatDoorW.PrintWords
instance (l : List Int) : Decidable (Dig l) := inferInstanceAs (Decidable (∀ x ∈ l, _))
def impl_limbs_text.f (l0 : List Int) : Option ByteArray := if Dig l0 ∧ l0.length * 8 ≤ 140737488351232 then some ⟨(textL l0).toArray⟩ else none
theorem impl_limbs_text.calls (A0 : Option Addr) (c0 : Nat) (l0 : List Int) (r : ByteArray) (w : World) (hT : EnvI w) (hr0 : Kd.C (Kd.int .i64) w A0 l0.length l0) (hc0 : l0.length ≤ c0) (h : impl_limbs_text.f l0 = some r) :
    Calls Tryz.prog 28 #[.slice A0 l0.length c0] w fun e w' => e = .returned (.string r) ∧ Below w.heap.size w w' := by
  unfold impl_limbs_text.f at h
  split at h
  · rename_i hb
    obtain rfl := Option.some.inj h
    by_cases h0 : l0 = []
    · subst h0
      exact Rng.text_nil A0 c0 w
    · exact callsIn_wide.1 (Rng.text_in A0 c0 l0 h0 hb.1 hb.2 w hT hr0 hc0)
  · cases h
end Go.Proofs.YtdbgpoileffbeaaGreatDoor.Ext
end
section
namespace Go.Proofs.YtdbgpoileffbeaaGreatDoor.Pr
open Go.RowKit Go.Proofs.YtdbgpoileffbeaaGreatDoorW.PrintWords Go.Proofs.YtdbgpoileffbeaaGreatDoorW.PrintLast Go.Proofs.YtdbgpoileffbeaaGreatDoor.Ext Go.Proofs.YtdbgpoileffbeaaGreatDoorW.PrintMore
attribute [local go_sem] max2_int min2_int max_two min_two max_three min_three max_four min_four
set_option linter.unusedVariables false
set_option linter.unusedSimpArgs false
def errW : Option Int → Value
  | none => .nilIface
  | some c => .iface 106 (.int .i64 c)
theorem errW_none : errW none = .nilIface := rfl
theorem errW_some (c : Int) : errW (some c) = .iface 106 (.int .i64 c) := rfl
theorem info3 : (Tryz.prog.info? 3).map (fun i => (i.zero, i.size, i.bytes)) = some (some (.int .i64 0), 1, 8) := by kernel_rfl
end Go.Proofs.YtdbgpoileffbeaaGreatDoor.Pr
end
