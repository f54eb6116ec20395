/- What the claim's row needs of the contracts and words below it, and no more. -/
import Derived.Test.YtdbgpoileffbeaaDoorQBw0
import Derived.Test.YtdbgpoileffbeaaDoorProg
import Derived.Below
import Derived.Deep.Draws
import Derived.Deep.AppendLies
import Derived.Maps.AppendAt
import Derived.OwnWalk
import Derived.Laws.BytesArg
import Derived.Laws.MakeOwn
import Derived.Laws.OwnMore
import Derived.Deep.OwnRows
import Derived.Tactics
import Derived.Lib.ConvBytes
import Derived.Laws.Slices
import Derived.WalkKit
import Derived.KernelRfl
import Derived.RowKit3
import Derived.Deep.LoopGhost
import Derived.Deep.QuietTactic
import Derived.BigQuiet
import Derived.WideLaws
import Derived.Deep.DeepCutAuto
import Derived.Deep.CutBlock
import Derived.Deep.RegionHeld3
import Derived.Laws.Rows
import Derived.Lib.AppendStr
import Derived.ArgAppend
import Derived.Laws.IdiomCopy
import Derived.OrdersHeld
import Derived.Laws.BitsLemmas
import Derived.RowKit
import Derived.RangeFuncNested
import Derived.RangeFuncBound
import Derived.RangeFuncCalls
import Derived.RangeFuncLeaves
import Derived.RangeFuncBox
import Derived.Shelf.Abstract
import Derived.Shelf.RegionOpen
import Derived.OwnWalkIn
import Derived.TacticsInMore
import Derived.LoopNIn
import Derived.LoopIn
import Derived.Shelf.Small.Wraps
import Derived.Shelf.Strings.BuilderK
import Derived.Shelf.LaysM
import Derived.Shelf.Strconv.Itoa3
import Derived.Shelf.Strconv.AtoiAll
import Derived.Shelf.Strings.Repeat
import Derived.Lib.SmallJoins
import Derived.Lib.AppendIntMem
import Derived.Lib.AtoiErrMem
import Derived.Lib.ItoaNum
import Derived.Lib.Atoi
import Derived.Lib.SliceRun
section
namespace Go.Proofs.YtdbgpoileffbeaaDoor
open Go.RowKit Go.Proofs.YtdbgpoileffbeaaDoorW.PrintWords Go.Proofs.YtdbgpoileffbeaaDoorW.PrintLast Go.Proofs.YtdbgpoileffbeaaDoorW.PrintMore
/-- What the walk has drawn, made and written since lies above. -/
theorem zb {A : Prop} (p : A := by repeat (first | (with_reducible first | exact HB.out | apply below_alloc | apply pw_below_drewN | apply below_drew1 | refine below_set ?_ (Aside0.out (by assumption))) | exact HB.out)) : A := p
/-- A block stays through what is drawn, made or written elsewhere. -/
theorem zk {A B : Prop} (h : A) (p : A → B := by intro h_; (with_reducible repeat (first | exact h_ | refine blk_drewN ?_ _ | refine blk_drew ?_ | refine blk_alloc ?_ _ | refine blk_far ?_ (Aside0.out (by assumption)) _)); try exact h_) : B := p h
/-- A row stays through what is drawn and made. -/
theorem zV {A B : Prop} (h : A) (p : A → B := by intro h_; (with_reducible repeat (first | apply Kd.V_alloc | apply Kd.V_drewN | apply Kd.V_drew)); exact h_) : B := p h
/-- A row stays through what is drawn and made. -/
theorem zR {A B : Prop} (h : A) (p : A → B := by intro h_; (with_reducible repeat (first | apply Kd.R_alloc | apply Kd.R_drewN | apply Kd.R_drew)); exact h_) : B := p h
/-- A row stays through what is drawn and made. -/
theorem zC {A B : Prop} (h : A) (p : A → B := by intro h_; (with_reducible repeat (first | apply Kd.C_alloc | apply Kd.C_drewN | apply Kd.C_drew)); exact h_) : B := p h
/-- The arguments as they stand. -/
theorem za {A : Prop} (p : A := by (try simp only [List.map_toArray, List.map_cons, List.map_nil]); first | done | rfl | (simp only [List.length_drop, List.length_take]; rfl)) : A := p
/-- A row that may be written stays through what is drawn and made. -/
theorem zRW {A B : Prop} (h : A) (p : A → B := by intro h_; (with_reducible repeat (first | apply Kd.RW_alloc | apply Kd.RW_drewN | apply Kd.RW_drew)); exact h_) : B := p h
/-- Set aside. -/
theorem zm {p : Prop} (h : p) : Aside0 p := Aside0.mk h
/-- What is read stays through what is drawn and made. -/
theorem zc {A B : Prop} (h : A) (p : A → B := by intro h_; repeat (first | exact h_ | (with_reducible refine Kd.C_alloc ?_ _) | (with_reducible refine Kd.C_drewN ?_ _) | (with_reducible refine Kd.C_drew ?_))) : B := p h
/-- Cells of a frame. -/
theorem zs {α : Type} (l : List α) (i : Nat) (a : α) : l.toArray.setIfInBounds i a = (l.set i a).toArray := List.setIfInBounds_toArray ..
theorem zs0 {α : Type} (x : α) (l : List α) (a : α) : (x :: l).set 0 a = a :: l := rfl
theorem zs1 {α : Type} (x : α) (l : List α) (n : Nat) (a : α) : (x :: l).set (n + 1) a = x :: l.set n a := rfl
end Go.Proofs.YtdbgpoileffbeaaDoor
namespace Go.Proofs.YtdbgpoileffbeaaDoor.Jt
def pw (n : Nat) : Int := 10000 ^ n
theorem pw_zero : pw 0 = 1 := rfl
theorem pw_succ (n : Nat) : pw (n + 1) = 10000 * pw n := by unfold pw; rw [Int.pow_succ]; omega
theorem pw_pos (n : Nat) : 1 ≤ pw n := by
  induction n with
  | zero => decide
  | succ n ih => rw [pw_succ]; omega
theorem pw_mono {m n : Nat} (h : m ≤ n) : pw m ≤ pw n := by
  obtain ⟨d, rfl⟩ := Nat.exists_eq_add_of_le h
  induction d with
  | zero => exact Int.le_refl _
  | succ d ih =>
    have h1 := ih (by omega)
    have h2 := pw_pos (m + d)
    rw [show m + (d + 1) = (m + d) + 1 from rfl, pw_succ]
    omega
def val : List Int → Int
  | [] => 0
  | x :: xs => x + 10000 * val xs
def Dig (l : List Int) : Prop := ∀ x ∈ l, 0 ≤ x ∧ x ≤ 9999
def Nz (l : List Int) : Prop := l.length = 0 ∨ l.getD (l.length - 1) 0 ≠ 0
theorem getD_lt {l : List Int} {i : Nat} (h : i < l.length) : l.getD i 0 = l[i] := by rw [List.getD_eq_getElem?_getD, List.getElem?_eq_getElem h]; rfl
theorem getD_ge {l : List Int} {i : Nat} (h : l.length ≤ i) : l.getD i 0 = 0 := by rw [List.getD_eq_getElem?_getD, List.getElem?_eq_none h]; rfl
theorem val_nil : val [] = 0 := rfl
theorem val_append (a b : List Int) : val (a ++ b) = val a + pw a.length * val b := by
  induction a with
  | nil => simp [val, pw_zero]
  | cons x xs ih => simp only [List.cons_append, val, ih, List.length_cons, pw_succ]; rw [Int.mul_add, Int.mul_assoc]; omega
theorem Dig.nil : Dig [] := fun x h => by cases h
theorem Dig.cons {x : Int} {xs : List Int} (h0 : 0 ≤ x) (h1 : x ≤ 9999) (h : Dig xs) : Dig (x :: xs) := by
  intro y hy
  rcases List.mem_cons.1 hy with rfl | hy
  · exact ⟨h0, h1⟩
  · exact h y hy
theorem Dig.head {x : Int} {xs : List Int} (h : Dig (x :: xs)) : 0 ≤ x ∧ x ≤ 9999 := h x (by simp)
theorem Dig.tail {x : Int} {xs : List Int} (h : Dig (x :: xs)) : Dig xs := fun y hy => h y (by simp [hy])
theorem Dig.take {l : List Int} (h : Dig l) (n : Nat) : Dig (l.take n) := fun x hx => h x (List.mem_of_mem_take hx)
theorem Dig.getD {l : List Int} (h : Dig l) (i : Nat) : 0 ≤ l.getD i 0 ∧ l.getD i 0 ≤ 9999 := by
  by_cases hi : i < l.length
  · rw [getD_lt hi]; exact h _ (List.getElem_mem hi)
  · rw [getD_ge (by omega)]; omega
theorem val_nonneg {l : List Int} (h : Dig l) : 0 ≤ val l := by
  induction l with
  | nil => exact Int.le_refl _
  | cons x xs ih =>
    have h1 := ih h.tail
    have h2 := h.head
    simp only [val]; omega
theorem val_lt {l : List Int} (h : Dig l) : val l < pw l.length := by
  induction l with
  | nil => decide
  | cons x xs ih =>
    have h1 := ih h.tail
    have h2 := h.head
    simp only [val, List.length_cons, pw_succ]; omega
theorem getD_set (l : List Int) (i j : Nat) (v : Int) (h : i < l.length) : (l.set i v).getD j 0 = if j = i then v else l.getD j 0 := by
  by_cases hj : j = i
  · subst hj
    rw [if_pos rfl, List.getD_eq_getElem?_getD, List.getElem?_set_self h]; rfl
  · rw [if_neg hj, List.getD_eq_getElem?_getD, List.getElem?_set_ne (Ne.symm hj), List.getD_eq_getElem?_getD]
theorem val_split (l : List Int) {n : Nat} (h : n ≤ l.length) : val l = val (l.take n) + pw n * val (l.drop n) := by
  have := val_append (l.take n) (l.drop n)
  rw [List.take_append_drop, List.length_take, Nat.min_eq_left h] at this
  exact this
theorem drop_cons {l : List Int} {n : Nat} (h : n < l.length) : l.drop n = l.getD n 0 :: l.drop (n + 1) := by
  rw [List.drop_eq_getElem_cons h, getD_lt h]
theorem val_zeros {l : List Int} (h : ∀ i, i < l.length → l.getD i 0 = 0) : val l = 0 := by
  induction l with
  | nil => rfl
  | cons x xs ih =>
    have h0 := h 0 (by simp)
    have h1 := ih (fun i hi => by have := h (i + 1) (by simpa using hi); simpa using this)
    simp at h0
    simp only [val, h0, h1]; decide
theorem val_ge {l : List Int} (h : Dig l) (hz : Nz l) (hne : 0 < l.length) : pw (l.length - 1) ≤ val l := by
  have hs := val_split l (n := l.length - 1) (by omega)
  rw [drop_cons (by omega), show l.length - 1 + 1 = l.length from by omega, List.drop_length] at hs
  have h1 := val_nonneg (h.take (l.length - 1))
  have h2 := h.getD (l.length - 1)
  have h3 : l.getD (l.length - 1) 0 ≠ 0 := hz.resolve_left (by omega)
  have hp := pw_pos (l.length - 1)
  simp only [val] at hs
  have h4 : pw (l.length - 1) * 1 ≤ pw (l.length - 1) * (l.getD (l.length - 1) 0 + 10000 * 0) := Int.mul_le_mul_of_nonneg_left (by omega) (by omega)
  omega
theorem uniq {a : List Int} : ∀ {b : List Int}, Dig a → Dig b → Nz a → Nz b → val a = val b → a = b := by
  induction a with
  | nil =>
    intro b _ hb _ zb e
    cases b with
    | nil => rfl
    | cons y ys =>
      have := val_ge hb zb (by simp)
      have := pw_pos ((y :: ys).length - 1)
      rw [val_nil] at e
      omega
  | cons x xs ih =>
    intro b ha hb za zb e
    cases b with
    | nil =>
      have := val_ge ha za (by simp)
      have := pw_pos ((x :: xs).length - 1)
      rw [val_nil] at e
      omega
    | cons y ys =>
      have hx := ha.head
      have hy := hb.head
      simp only [val] at e
      have e1 : x = y := by omega
      have e2 : val xs = val ys := by omega
      have zt : ∀ {z : Int} {zs : List Int}, Nz (z :: zs) → Nz zs := by
        intro z zs h
        cases zs with
        | nil => left; rfl
        | cons u us =>
          right
          have h' := h.resolve_left (by simp)
          simpa using h'
      rw [e1, ih ha.tail hb.tail (zt za) (zt zb) e2]
def repN (n : Nat) : List Int := if h : n = 0 then [] else ((n % 10000 : Nat) : Int) :: repN (n / 10000)
termination_by n
decreasing_by omega
def rep (v : Int) : List Int := repN v.toNat
theorem repN_zero : repN 0 = [] := by rw [repN]; simp
theorem repN_pos {n : Nat} (h : n ≠ 0) : repN n = ((n % 10000 : Nat) : Int) :: repN (n / 10000) := by rw [repN]; simp [h]
theorem repN_ok (n : Nat) : Dig (repN n) ∧ val (repN n) = n ∧ Nz (repN n) := by
  induction n using Nat.strongRecOn with
  | ind n ih =>
    by_cases h : n = 0
    · subst h; rw [repN_zero]; exact ⟨Dig.nil, rfl, .inl rfl⟩
    · obtain ⟨h1, h2, h3⟩ := ih (n / 10000) (by omega)
      rw [repN_pos h]
      refine ⟨Dig.cons (by omega) (by omega) h1, by simp only [val, h2]; omega, .inr ?_⟩
      by_cases hq : n / 10000 = 0
      · rw [hq, repN_zero]; simp; omega
      · have hne : (repN (n / 10000)).length ≠ 0 := by rw [repN_pos hq]; simp
        have := h3.resolve_left hne
        rw [List.length_cons, show (repN (n / 10000)).length + 1 - 1 = ((repN (n / 10000)).length - 1) + 1 from by omega, List.getD_cons_succ]
        exact this
theorem rep_dig (v : Int) : Dig (rep v) := (repN_ok _).1
theorem rep_nz (v : Int) : Nz (rep v) := (repN_ok _).2.2
theorem rep_val {v : Int} (h : 0 ≤ v) : val (rep v) = v := by unfold rep; rw [(repN_ok _).2.1]; omega
theorem rep_of {l : List Int} (hd : Dig l) (hz : Nz l) : rep (val l) = l := uniq (rep_dig _) hd (rep_nz _) hz (rep_val (val_nonneg hd))
theorem is_rep {l : List Int} {v : Int} (hd : Dig l) (hz : Nz l) (hv : val l = v) : l = rep v := by rw [← hv, rep_of hd hz]
theorem rep_zero : rep 0 = [] := repN_zero
theorem rep_nil {v : Int} (h : 0 ≤ v) : rep v = [] ↔ v = 0 := by
  constructor
  · intro e
    have := rep_val h
    rw [e] at this
    exact this.symm
  · rintro rfl; exact rep_zero
theorem rep_len {v : Int} (h : 0 ≤ v) (n : Nat) : (rep v).length ≤ n ↔ v < pw n := by
  have hv := rep_val h
  have hl := val_lt (rep_dig v)
  constructor
  · intro hle
    have := pw_mono hle
    omega
  · intro hlt
    apply Nat.le_of_not_lt
    intro hgt
    have hg := val_ge (rep_dig v) (rep_nz v) (by omega)
    have := pw_mono (show n ≤ (rep v).length - 1 by omega)
    omega
def TrimOf (l r : List Int) : Prop := ∃ n, n ≤ l.length ∧ r = l.take n ∧ (∀ j, n ≤ j → j < l.length → l.getD j 0 = 0) ∧ (0 < n → l.getD (n - 1) 0 ≠ 0)
theorem TrimOf.dig {l r : List Int} (h : TrimOf l r) (hd : Dig l) : Dig r := by obtain ⟨n, _, rfl, _, _⟩ := h; exact hd.take n
theorem TrimOf.val {l r : List Int} (h : TrimOf l r) : Jt.val r = Jt.val l := by
  obtain ⟨n, hn, rfl, hz, _⟩ := h
  have hs := val_split l hn
  have : Jt.val (l.drop n) = 0 := val_zeros fun i hi => by
    rw [List.length_drop] at hi
    have := hz (n + i) (by omega) (by omega)
    rw [List.getD_eq_getElem?_getD] at this ⊢
    rw [List.getElem?_drop]; exact this
  rw [this] at hs
  omega
theorem getD_take (l : List Int) {i n : Nat} (h : i < n) : (l.take n).getD i 0 = l.getD i 0 := by
  rw [List.getD_eq_getElem?_getD, List.getD_eq_getElem?_getD, List.getElem?_take_of_lt h]
theorem TrimOf.nz {l r : List Int} (h : TrimOf l r) : Nz r := by
  obtain ⟨n, hn, rfl, _, hlast⟩ := h
  by_cases h0 : n = 0
  · left; simp [h0]
  · right
    rw [List.length_take, Nat.min_eq_left hn, getD_take l (by omega)]
    exact hlast (by omega)
theorem TrimOf.rep {l r : List Int} (h : TrimOf l r) (hd : Dig l) {v : Int} (hv : Jt.val l = v) : r = Jt.rep v := is_rep (h.dig hd) h.nz (h.val.trans hv)
theorem TrimOf.len {l r : List Int} (h : TrimOf l r) : r.length ≤ l.length := by obtain ⟨n, hn, rfl, _, _⟩ := h; rw [List.length_take]; omega
def bigv (neg : Bool) (l : List Int) : Int := if neg = true then -val l else val l
def BOk (neg : Bool) (l : List Int) : Prop := l.length ≤ 16 ∧ Dig l ∧ Nz l ∧ (neg = true → l.length ≠ 0)
def mkN (x : Int) : Bool := decide (x < 0)
def mkL (x : Int) : List Int := rep (if x < 0 then -x else x)
theorem nz_pos {l : List Int} (hd : Dig l) (hz : Nz l) (h : l.length ≠ 0) : 0 < val l := by
  have := val_ge hd hz (by omega)
  have := pw_pos (l.length - 1)
  omega
theorem mk_of {neg : Bool} {l : List Int} (h : BOk neg l) : mkN (bigv neg l) = neg ∧ mkL (bigv neg l) = l := by
  obtain ⟨_, hd, hz, hn⟩ := h
  have h0 := val_nonneg hd
  unfold mkN mkL bigv
  cases neg with
  | true =>
    have := nz_pos hd hz (hn rfl)
    simp only [if_true]
    rw [if_pos (show -val l < 0 by omega), Int.neg_neg, rep_of hd hz]
    exact ⟨decide_eq_true (by omega), rfl⟩
  | false =>
    simp only [Bool.false_eq_true, if_false]
    rw [if_neg (show ¬ val l < 0 by omega), rep_of hd hz]
    exact ⟨decide_eq_false (by omega), rfl⟩
theorem mk_ok {x : Int} (h1 : -pw 16 < x) (h2 : x < pw 16) : BOk (mkN x) (mkL x) := by
  have h0 : 0 ≤ (if x < 0 then -x else x) := by split <;> omega
  refine ⟨(rep_len h0 16).2 (by split <;> omega), rep_dig _, rep_nz _, ?_⟩
  intro hn hl
  have := of_decide_eq_true hn
  have e := rep_val h0
  unfold mkL at hl
  rw [List.length_eq_zero_iff.1 hl, val_nil] at e
  split at e <;> omega
theorem bigv_bd {neg : Bool} {l : List Int} (h : BOk neg l) : -pw 16 < bigv neg l ∧ bigv neg l < pw 16 := by
  obtain ⟨hl, hd, hz, hn⟩ := h
  have h0 := val_nonneg hd
  have h1 := val_lt hd
  have h2 := pw_mono hl
  unfold bigv
  split <;> omega
end Go.Proofs.YtdbgpoileffbeaaDoor.Jt
end
section
namespace Go.Proofs.YtdbgpoileffbeaaDoor.Ext
open Go.RowKit Go.Proofs.YtdbgpoileffbeaaDoorW.PrintWords Go.Proofs.YtdbgpoileffbeaaDoorW.PrintLast Go.Proofs.YtdbgpoileffbeaaDoorW.PrintMore
set_option linter.unusedVariables false
set_option linter.unusedSimpArgs false
def bad (x : Int) : Bool := !(decide (0 ≤ x) && decide (x ≤ 9999))
def idx.l0 : Nat → List Int → Int → Option Int
  | 0, _, _ => none
  | k + 1, l, i => if i < (l.length : Int) then (if 0 ≤ i then (if bad (rd l i) = true then some i else idx.l0 k l (wrap64 (i + 1))) else none) else some (-1)
set_option maxHeartbeats 1000000 in
theorem lit_calls (x : Int) (b : Bool) (hb : bad x = b) (w : World) : Calls Tryd.prog 60 #[.int .i64 x] w fun e w' => e = .returned (.bool b) ∧ Drawn0 w w' := by
  by_cases h0 : 0 ≤ x
  · by_cases h1 : x ≤ 9999
    · obtain rfl : b = false := by rw [← hb]; simp [bad, h0, h1]
      clear hb
      have c0 : decide (0 ≤ x) = true := decide_eq_true h0
      have c1 : decide (x ≤ 9999) = true := decide_eq_true h1
      clear h0 h1
      go_enter Tryd.func60, Tryd.ntmps60
      go_wp2
      go_ret
      exact ⟨by first | rfl | (simp; done), by repeat (first | exact Drawn0.refl _ | apply Drawn0.step)⟩
    · obtain rfl : b = true := by rw [← hb]; simp [bad, h0, h1]
      clear hb
      have c0 : decide (0 ≤ x) = true := decide_eq_true h0
      have c1 : decide (x ≤ 9999) = false := decide_eq_false h1
      clear h0 h1
      go_enter Tryd.func60, Tryd.ntmps60
      go_wp2
      go_ret
      exact ⟨by first | rfl | (simp; done), by repeat (first | exact Drawn0.refl _ | apply Drawn0.step)⟩
  · obtain rfl : b = true := by rw [← hb]; simp [bad, h0]
    clear hb
    have c0 : decide (0 ≤ x) = false := decide_eq_false h0
    clear h0
    go_enter Tryd.func60, Tryd.ntmps60
    go_wp2
    go_ret
    exact ⟨by first | rfl | (simp; done), by repeat (first | exact Drawn0.refl _ | apply Drawn0.step)⟩
set_option maxHeartbeats 2000000 in
theorem idx_calls (k : Nat) (A0 : Option Addr) (c0 : Nat) (l0 : List Int) (r : Int) (w : World) (hr0 : Kd.C (Kd.int .i64) w A0 l0.length l0) (hc0 : l0.length ≤ c0) (h : idx.l0 k l0 0 = some r) :
    Calls Tryd.prog 84 #[.slice A0 l0.length c0, .func (.func 60) #[] #[]] w fun e w' => e = .returned (.int .i64 r) ∧ Drawn0 w w' := by
  have HR0 := Aside0.mk hr0
  have HC0 := Aside0.mk hc0
  clear hr0 hc0
  have H' := Aside0.mk h
  clear h
  go_enter Tryd.func84, Tryd.ntmps84
  go_wp2
  go_loopg [5, 8] k (fun kq v5 v8 w' => ∃ (x8 : Int), v8 = .int .i64 x8 ∧ Aside0 (idx.l0 kq l0 x8 = some r) ∧ Aside0 (kq ≤ k) ∧ Drawn0 w w')
  case atStart => exact ⟨(0), (by first | rfl | (simp; done) | (simp [*]; done)), H', ⟨Nat.le_refl _⟩, by repeat (first | exact Drawn0.refl _ | apply Drawn0.step)⟩
  case round =>
    clear H'
    obtain ⟨x8, rfl, HA, HK1, ⟨m1, rfl⟩⟩ := hrel
    cases gk with
    | zero => exact absurd HA.out (by simp [idx.l0])
    | succ k1 =>
      have H := HA.out
      clear HA
      simp only [idx.l0] at H
      by_cases c3 : x8 < (l0.length : Int)
      · rw [if_pos c3] at H
        have c3b0 : decide (x8 < (l0.length : Int)) = true := decide_eq_true c3
        clear c3
        by_cases c4 : 0 ≤ x8
        · rw [if_pos c4] at H
          have c4b0 : decide (0 ≤ x8) = true := decide_eq_true c4
          clear c4
          have p1 : 0 ≤ (x8 : Int) := of_decide_eq_true (by first | (with_reducible assumption) | assumption)
          have q1 : x8 < (l0.length : Int) := of_decide_eq_true (by first | (with_reducible assumption) | assumption)
          obtain ⟨ad1, e1, hx1⟩ := Kd.at_int HR0.out x8 p1 q1
          cases e1
          replace p1 := eq_true p1
          replace q1 := eq_true q1
          by_cases c5 : bad (rd l0 x8) = true
          · rw [if_pos c5] at H
            have C5 := Aside0.mk c5
            clear c5
            obtain rfl := Option.some.inj H
            go_wp2_with (go_at_call 60; (with_reducible refine (lit_calls (rd l0 x8) true C5.out _).mono ?_); rintro e w' ⟨rfl, ⟨nd, rfl⟩⟩)
            go_ret
            exact ⟨by first | rfl | (simp; done) | (simp [*]; done), by repeat (first | exact Drawn0.refl _ | apply Drawn0.step)⟩
          · rw [if_neg c5] at H
            have C5 := Aside0.mk (Bool.eq_false_iff.mpr c5)
            clear c5
            have H' := Aside0.mk H
            clear H
            go_wp2_with (go_at_call 60; (with_reducible refine (lit_calls (rd l0 x8) false C5.out _).mono ?_); rintro e w' ⟨rfl, ⟨nd, rfl⟩⟩)
            go_roundg k1
            case measure => have := HK1.out; omega
            case rel => exact ⟨(wrap64 (x8 + 1)), (by first | rfl | (simp; done) | (simp [*]; done)), H', ⟨by have := HK1.out; omega⟩, by repeat (first | exact Drawn0.refl _ | apply Drawn0.step)⟩
        · rw [if_neg c4] at H
          exact absurd H (by simp)
      · rw [if_neg c3] at H
        have c3b0 : decide (x8 < (l0.length : Int)) = false := decide_eq_false c3
        clear c3
        obtain rfl := Option.some.inj H
        go_wp2
        go_ret
        exact ⟨by first | rfl | (simp; done) | (simp [*]; done), by repeat (first | exact Drawn0.refl _ | apply Drawn0.step)⟩
theorem idx_l0 (l : List Int) (hl : (l.length : Int) ≤ 9223372036854775807) (d : Nat) : ∀ (k : Nat) (i : Int), 0 ≤ i → (l.length : Int) - i ≤ d → d < k → ∃ r, idx.l0 k l i = some r ∧ (0 ≤ r ↔ (l.drop i.toNat).any bad = true) := by
  induction d with
  | zero =>
    intro k i h0 h1 hk
    obtain ⟨k, rfl⟩ : ∃ m, k = m + 1 := ⟨k - 1, by omega⟩
    refine ⟨-1, ?_, ?_⟩
    · rw [idx.l0, if_neg (by omega)]
    · rw [List.drop_eq_nil_of_le (by omega)]; simp
  | succ d ih =>
    intro k i h0 h1 hk
    obtain ⟨k, rfl⟩ : ∃ m, k = m + 1 := ⟨k - 1, by omega⟩
    by_cases hlt : i < (l.length : Int)
    · have hn : i.toNat < l.length := by omega
      have e : l.drop i.toNat = rd l i :: l.drop (i.toNat + 1) := by
        rw [List.drop_eq_getElem_cons hn]
        unfold rd
        rw [List.getD_eq_getElem?_getD, List.getElem?_eq_getElem hn]; rfl
      by_cases hb : bad (rd l i) = true
      · refine ⟨i, ?_, ?_⟩
        · rw [idx.l0, if_pos hlt, if_pos h0, if_pos hb]
        · rw [e, List.any_cons, hb]; simp [h0]
      · obtain ⟨r, hr, hi⟩ := ih k (i + 1) (by omega) (by omega) (by omega)
        refine ⟨r, ?_, ?_⟩
        · rw [idx.l0, if_pos hlt, if_pos h0, if_neg hb, show wrap64 (i + 1) = i + 1 from by unfold wrap64; omega]; exact hr
        · rw [hi, e, List.any_cons, Bool.eq_false_iff.mpr hb, show (i + 1).toNat = i.toNat + 1 from by omega]; simp
    · refine ⟨-1, ?_, ?_⟩
      · rw [idx.l0, if_neg hlt]
      · rw [List.drop_eq_nil_of_le (by omega)]; simp
set_option maxHeartbeats 1000000 in
theorem contains_calls (A0 : Option Addr) (c0 : Nat) (l0 : List Int) (b : Bool) (w : World) (hr0 : Kd.C (Kd.int .i64) w A0 l0.length l0) (hc0 : l0.length ≤ c0) (hb : l0.any bad = b) :
    Calls Tryd.prog 59 #[.slice A0 l0.length c0, .func (.func 60) #[] #[]] w fun e w' => e = .returned (.bool b) ∧ Drawn0 w w' := by
  have hl : (l0.length : Int) ≤ 9223372036854775807 := by have := hr0.2.1; omega
  obtain ⟨r, hr, hi⟩ := idx_l0 l0 hl l0.length (l0.length + 1) 0 (by omega) (by omega) (by omega)
  rw [show (0 : Int).toNat = 0 from rfl, List.drop_zero, hb] at hi
  have HR := Aside0.mk hr
  have HR0 := Aside0.mk hr0
  have HC0 := Aside0.mk hc0
  have hd : decide (0 ≤ r) = b := by cases b <;> simp_all
  clear hr hr0 hc0 hi hb hl
  go_enter Tryd.func59, Tryd.ntmps59
  go_wp2_with (go_at_call 84; (with_reducible refine (idx_calls (l0.length + 1) A0 c0 l0 r _ HR0.out HC0.out HR.out).mono ?_); rintro e w' ⟨rfl, ⟨nd, rfl⟩⟩)
  go_ret
  exact ⟨by first | rfl | (simp [*]; done), by repeat (first | exact Drawn0.refl _ | apply Drawn0.step)⟩
end Go.Proofs.YtdbgpoileffbeaaDoor.Ext
namespace Go.Proofs.YtdbgpoileffbeaaDoor.Ext
open Go.RowKit Go.Proofs.YtdbgpoileffbeaaDoorW.PrintWords Go.Proofs.YtdbgpoileffbeaaDoorW.PrintLast Go.Proofs.YtdbgpoileffbeaaDoorW.PrintMore
def containsBad.f (l0 : List Int) : Option Bool := some (l0.any bad)
theorem containsBad.calls (A0 : Option Addr) (c0 : Nat) (l0 : List Int) (r : Bool) (w : World) (hr0 : Kd.C (Kd.int .i64) w A0 l0.length l0) (hc0 : l0.length ≤ c0) (h : containsBad.f l0 = some r) :
    Calls Tryd.prog 59 #[.slice A0 l0.length c0, .func (.func 60) #[] #[]] w fun e w' => e = .returned (.bool r) ∧ Drawn0 w w' := contains_calls A0 c0 l0 r w hr0 hc0 (Option.some.inj h)
end Go.Proofs.YtdbgpoileffbeaaDoor.Ext
end
section
namespace Go.Proofs.YtdbgpoileffbeaaDoor.Rng
open Go.RowKit Go.Shelf
set_option linter.unusedVariables false
set_option linter.unusedSimpArgs false
attribute [local go_sem] Oper.semAt_some
def down (zs : List Int) (len k : Nat) : List (Nat × Int) := (List.range k).map fun j => (len - 1 - j, zs[len - 1 - j]?.getD 0)
theorem down_length (zs : List Int) (len k : Nat) : (down zs len k).length = k := by simp [down]
theorem down_step (zs : List Int) {len m : Nat} (h : m < len) : down zs len (len - m) = down zs len (len - (m + 1)) ++ [(m, zs[m]?.getD 0)] := by
  unfold down
  rw [show len - m = len - (m + 1) + 1 by omega, List.range_succ, List.map_append]
  congr 1
  simp only [List.map_cons, List.map_nil]
  rw [show len - 1 - (len - (m + 1)) = m by omega]
theorem add_blk (a : Addr) (m : Nat) : (a.add m).block = a.block := by unfold Addr.add; split <;> rfl
abbrev El (zs : List Int) (len : Nat) := { x : Nat × Int // x.1 < len ∧ x.2 = zs[x.1]?.getD 0 }
def SameIn (S : Nat → Prop) (W W' : World) : Prop := ∀ p : Addr, S p.block → W'.cell? p = W.cell? p
theorem SameIn.refl (S : Nat → Prop) (W : World) : SameIn S W W := fun _ _ => rfl
theorem SameIn.trans {S : Nat → Prop} {A B C : World} (h : SameIn S A B) (k : SameIn S B C) : SameIn S A C := fun p hp => (k p hp).trans (h p hp)
theorem sameIn_b {S : Nat → Prop} {w : World} (hS : ∀ x, S x → x < w.heap.size) (W : World) (l : Nat) (o o' : Obj) (hl : w.heap.size ≤ l) (h : W.heap[l]? = some o) (h1 : o.isCells = false) (h2 : o.isWalk = false) : SameIn S W (W.putObj l o') :=
  fun p hp => (belowK_b (n₀ := w.heap.size) (Nat.le_refl _) W l o o' hl h h1 h2).cell (hS _ hp)
theorem back1_in (F : Fence) (n : Nat) (h88 : F.fn 88) (hro : F.round = none) (hn : 1 ≤ n) (l Bs : Nat) (ad : Addr) (len cap : Nat) (zs : List Int) (hreach : len * 8 ≤ 140737488351232) (S : Nat → Prop) (hSb : S ad.block) (hSB : S Bs) (J Jx : List (El zs len) → World → Prop)
    (hY : ∀ pre x W, J pre W → pre.length < len → YieldAt F (n - 1) Tryd.prog l #[.int .i64 (x.1.1 : Int), .int .i64 x.1.2] W fun e W' =>
      (e = .returned (.bool true) ∧ J (pre ++ [x]) W' ∧ SameIn S W W') ∨ (e = .returned (.bool false) ∧ Jx (pre ++ [x]) W'))
    (W : World) (hBs : W.cell? ⟨Bs, 0, none⟩ = some (.slice (some ad) len cap)) (hc : ∀ j, j < len → W.cell? (ad.add j) = some (.int .i64 (zs[j]?.getD 0))) (h0 : J [] W) :
    CallsIn F n Tryd.prog 88 #[.func (.yield l) #[] #[], .pointer (some ⟨Bs, 0, none⟩)] W fun e W' => (∃ v, e = .returned v) ∧
      ((∃ ys, ys.map Subtype.val = down zs len len ∧ J ys W') ∨ (∃ pre, (∃ k, k ≤ len ∧ pre.map Subtype.val = down zs len k) ∧ Jx pre W')) := by
  refine callsIn_of_wp Tryd.func88 rfl h88 ?_ hro
  simp only [Tryd.ntmps88, List.size_toArray, List.length_cons, List.length_nil, Nat.reduceAdd, Nat.reduceSub, Array.replicate_succ, Array.replicate_zero, List.push_toArray, List.append_toArray, List.nil_append, List.cons_append]
  have hw0 : wrap64 ((len : Int) - 1) = (len : Int) - 1 := by unfold wrap64; omega
  gi_wp2
  gi_loopw [3] (fun i wr => ∃ m : Nat, m ≤ len ∧ i = .int .i64 ((m : Int) - 1) ∧ (∃ ys : List (El zs len), ys.map Subtype.val = down zs len (len - m) ∧ J ys wr) ∧ SameIn S W wr)
    (fun i _ => (intOf i + 1).toNat)
  case atStart => exact ⟨len, Nat.le_refl _, by simp [hw0], ⟨[], by rw [Nat.sub_self]; rfl, h0⟩, SameIn.refl _ _⟩
  case round =>
    obtain ⟨m, hm, rfl, ⟨ys, hys, hJs⟩, hnx⟩ := hrel
    have hBx : wr.cell? ⟨Bs, 0, none⟩ = some (.slice (some ad) len cap) := (hnx ⟨Bs, 0, none⟩ hSB).trans hBs
    cases m with
    | zero =>
      gi_wp2
      go_end0
      exact ⟨⟨_, rfl⟩, .inl ⟨_, hys, hJs⟩⟩
    | succ m =>
      have e1 : (((m + 1 : Nat) : Int) - 1) = (m : Int) := by omega
      rw [e1]
      have hcx : wr.cell? (ad.add m) = some (.int .i64 (zs[m]?.getD 0)) := (hnx (ad.add m) (by rw [add_blk]; exact hSb)).trans (hc m (by omega))
      obtain ⟨fn, tmps, assign, body, hy, hR⟩ := hY _ ⟨(m, zs[m]?.getD 0), hm, rfl⟩ wr hJs (by rw [← List.length_map (f := Subtype.val), hys, down_length]; omega)
      dsimp only at hy
      have hlt : m < len := hm
      have h00 : (0 : Int) ≤ (m : Int) := by omega
      have h01 : (m : Int) < (len : Int) := by omega
      have hw1 : wrap64 ((m : Int) - 1) = (m : Int) - 1 := by unfold wrap64; omega
      gi_wp2
      refine hR.mono ?_
      rintro e W3 (⟨rfl, hJ3, hk3⟩ | ⟨rfl, hJx3⟩)
      · gi_wp2
        go_roundw
        case rel => exact ⟨m, by omega, by simp [hw1], ⟨_, by rw [List.map_append, hys, down_step zs hlt]; rfl, hJ3⟩, hnx.trans hk3⟩
        case measure => simp [intOf, hw1]
      · gi_wp2
        refine bodyPost_ret (results_none rfl _ _ _) rfl ?_
        exact ⟨⟨_, rfl⟩, .inr ⟨_, ⟨len - m, by omega, by rw [List.map_append, hys, down_step zs hlt]; rfl⟩, hJx3⟩⟩
theorem back1_nil_in (F : Fence) (n : Nat) (h88 : F.fn 88) (hro : F.round = none) (l Bs : Nat) (a : Option Addr) (cap : Nat) (zs : List Int) (len : Nat) (J : List (El zs len) → World → Prop) (W : World) (hBs : W.cell? ⟨Bs, 0, none⟩ = some (.slice a 0 cap)) (h0 : J [] W) :
    CallsIn F n Tryd.prog 88 #[.func (.yield l) #[] #[], .pointer (some ⟨Bs, 0, none⟩)] W fun e W' => (∃ v, e = .returned v) ∧ J [] W' := by
  refine callsIn_of_wp Tryd.func88 rfl h88 ?_ hro
  simp only [Tryd.ntmps88, List.size_toArray, List.length_cons, List.length_nil, Nat.reduceAdd, Nat.reduceSub, Array.replicate_succ, Array.replicate_zero, List.push_toArray, List.append_toArray, List.nil_append, List.cons_append]
  gi_wp2
  gi_loopw [3] (fun i wr => i = .int .i64 (-1) ∧ J [] wr) (fun _ _ => 0)
  case atStart => exact ⟨rfl, h0⟩
  case round =>
    obtain ⟨rfl, hJs⟩ := hrel
    gi_wp2
    go_end0
    exact ⟨⟨_, rfl⟩, hJs⟩
theorem back_in (F : Fence) (n : Nat) (h68 : F.fn 68) (hro : F.round = none) (a : Option Addr) (len cap : Nat) (w : World) :
    CallsIn F n Tryd.prog 68 #[.slice a len cap] w fun e w' => e = .returned (.func (.func 88) #[] #[.pointer (some ⟨w.heap.size, 0, none⟩)]) ∧ w' = w.alloc (.cells #[.slice a len cap] 55) := by
  refine callsIn_of_wp Tryd.func68 rfl h68 ?_ hro
  simp only [Tryd.ntmps68, List.size_toArray, List.length_cons, List.length_nil, Nat.reduceAdd, Nat.reduceSub, Array.replicate_succ, Array.replicate_zero, List.push_toArray, List.append_toArray, List.nil_append, List.cons_append]
  gi_wp2
  go_ret
  exact ⟨rfl, rfl⟩
def RowIn (S : Nat → Prop) (W : World) (a : Option Addr) (len : Nat) (zs : List Int) : Prop :=
  len = 0 ∨ ∃ ad, a = some ad ∧ S ad.block ∧ ∀ j, j < len → W.cell? (ad.add j) = some (.int .i64 (zs[j]?.getD 0))
theorem RowIn.same {S : Nat → Prop} {A B : World} (h : SameIn S A B) {a : Option Addr} {len : Nat} {zs : List Int} : RowIn S A a len zs → RowIn S B a len zs
  | .inl e => .inl e
  | .inr ⟨ad, e, hb, hc⟩ => .inr ⟨ad, e, hb, fun j hj => (h (ad.add j) (by rw [add_blk]; exact hb)).trans (hc j hj)⟩
theorem SameIn.of_below {S : Nat → Prop} {n : Nat} {A B : World} (h : Below n A B) (hS : ∀ x, S x → x < n) : SameIn S A B := fun p hp => h.cell (hS _ hp)
theorem back_stops (F : Fence) (n : Nat) (h88 : F.fn 88) (hro : F.round = none) (hn : 1 ≤ n) (Bs : Nat) (a : Option Addr) (len cap : Nat) (zs : List Int) (hreach : len * 8 ≤ 140737488351232) (S : Nat → Prop) (hSB : S Bs) (w : World) (hSw : ∀ x, S x → x < w.heap.size)
    (hc : w.cell? ⟨Bs, 0, none⟩ = some (.slice a len cap)) (hI : RowIn S w a len zs) :
    SeqStopsK F n Tryd.prog 88 #[.pointer (some ⟨Bs, 0, none⟩)] (fun x : El zs len => #[Value.int .i64 (x.1.1 : Int), Value.int .i64 x.1.2]) (SameIn S) (fun ys => ys.map Subtype.val = down zs len len)
      (fun pre => ∃ k, k ≤ len ∧ pre.map Subtype.val = down zs len k) len w := fun l J Jx W hW _ _ hY h0 => by
  have hs := SameIn.of_below hW hSw
  have hc' := (hs ⟨Bs, 0, none⟩ hSB).trans hc
  rcases hI.same hs with rfl | ⟨ad, rfl, hb, hcs⟩
  · exact (back1_nil_in F n h88 hro l Bs a cap zs 0 J W hc' h0).mono fun e W' ⟨he, hj⟩ => ⟨he, .inl ⟨_, rfl, hj⟩⟩
  · exact back1_in F n h88 hro hn l Bs ad len cap zs hreach S hb hSB J Jx hY W hc' hcs h0
end Go.Proofs.YtdbgpoileffbeaaDoor.Rng
end
section
namespace Go.Proofs
open Go.Shelf
def Tryd.lays169_ren : Go.Shelf.Ren := ⟨fun | 169 => 71 | n => n, fun | 70 => 83 | 9 => 9 | 0 => 0 | 72 => 85 | 37 => 45 | 127 => 108 | 3 => 3 | 5 => 5 | n => n, fun | n => n⟩
theorem Tryd.lays169 : Go.Proofs.Lays.n169 Tryd.prog Tryd.lays169_ren := {
  mixed := by kernel_rfl
  f169 := Tryd.func71.trans (congrArg some (by kernel_rfl))
  t0 := Tryd.underlying0
  a0 := Tryd.isAgg0
  z0 := Tryd.sizeOf0
  v0 := Tryd.zeroValue0
  t3 := Tryd.underlying3
  a3 := Tryd.isAgg3
  z3 := Tryd.sizeOf3
  v3 := Tryd.zeroValue3
  t9 := Tryd.underlying9
  a9 := Tryd.isAgg9
  z9 := Tryd.sizeOf9
  v9 := Tryd.zeroValue9
  t37 := Tryd.underlying45
  a37 := Tryd.isAgg45
  z37 := Tryd.sizeOf45
  v37 := Tryd.zeroValue45
  t70 := Tryd.underlying83
  a70 := Tryd.isAgg83
  z70 := Tryd.sizeOf83
  v70 := Tryd.zeroValue83
  t72 := Tryd.underlying85
  a72 := Tryd.isAgg85
  z72 := Tryd.sizeOf85
  v72 := Tryd.zeroValue85
  t127 := Tryd.underlying108
  a127 := Tryd.isAgg108
  z127 := Tryd.sizeOf108
  v127 := Tryd.zeroValue108 }
theorem Tryd.Builder_Extra_169 : Builder.Extra Tryd.prog Tryd.lays169_ren := {
  sizeBuilder := by kernel_rfl
  liesBuilder := by kernel_rfl
  t5 := Tryd.underlying5
  a5 := Tryd.isAgg5
  z5 := Tryd.sizeOf5
  v5 := Tryd.zeroValue5
  infoByte := by kernel_rfl
  cellsByte := by kernel_rfl
  sizeByte := by kernel_rfl
  neB5 := by decide }
def Tryd.lays103_ren : Go.Shelf.Ren := ⟨fun | 103 => 46 | 210 => 78 | 206 => 93 | n => n, fun | 9 => 9 | 4 => 4 | 24 => 63 | 3 => 3 | n => n, fun | n => n⟩
theorem Tryd.lays103 : Go.Proofs.Lays.n103 Tryd.prog Tryd.lays103_ren := {
  mixed := by kernel_rfl
  f103 := Tryd.func46.trans (congrArg some (by kernel_rfl))
  f206 := Tryd.func93.trans (congrArg some (by kernel_rfl))
  f210 := Tryd.func78.trans (congrArg some (by kernel_rfl))
  t3 := Tryd.underlying3
  a3 := Tryd.isAgg3
  z3 := Tryd.sizeOf3
  v3 := Tryd.zeroValue3
  t4 := Tryd.underlying4
  a4 := Tryd.isAgg4
  z4 := Tryd.sizeOf4
  v4 := Tryd.zeroValue4
  t9 := Tryd.underlying9
  a9 := Tryd.isAgg9
  z9 := Tryd.sizeOf9
  v9 := Tryd.zeroValue9
  t24 := Tryd.underlying63
  a24 := Tryd.isAgg63
  z24 := Tryd.sizeOf63
  v24 := Tryd.zeroValue63 }
open Go.RowKit in
theorem Tryd.strings_CutPrefix (s p : ByteArray) (w : World) :
    Calls Tryd.prog 46 #[.string s, .string p] w fun e w' => e = .returned (.tuple #[.string ⟨(Lib.trimPrefix s.data.toList p.data.toList).toArray⟩, .bool (Lib.hasPrefix s.data.toList p.data.toList)]) ∧ w' = w := Any.strings_CutPrefix Tryd.lays103 s p w
open Go.RowKit in
theorem Tryd.Builder_String_any_k (B b : Nat) (l : List UInt8) (w : World) (h : Lib.IsBuilderF 85 5 B b (Lib.byteCells l) w) (hBw : B ≤ w.heap.size) :
    Calls Tryd.prog 71 #[.pointer (some ⟨b, 0, none⟩)] w fun e w' => e = .returned (.string ⟨l.toArray⟩) ∧ (Lib.IsBuilderF 85 5 B b (Lib.byteCells l) w' ∧ Below B w w' ∧ Lib.OthersKept 5 (some b) w w') := Any.Builder_String_any_k Tryd.lays169 Tryd.Builder_Extra_169 B b l w h hBw
def Tryd.laysM171_ren : Go.Shelf.Ren := ⟨fun | 171 => 69 | 243 => 89 | 246 => 99 | 283 => 107 | 284 => 108 | 285 => 109 | 286 => 110 | 129 => 115 | 317 => 114 | 318 => 116 | 319 => 117 | 320 => 118 | 337 => 121 | 338 => 122 | n => n, fun | 3 => 3 | 9 => 9 | 2 => 2 | 4 => 4 | 171 => 126 | 0 => 0 | 53 => 112 | 37 => 45 | 5 => 5 | 173 => 129 | 212 => 138 | 51 => 109 | 20 => 20 | 213 => 139 | 46 => 95 | 232 => 146 | 233 => 147 | n => n, fun | 17 => 3 | 18 => 4 | 19 => 5 | n => n⟩
theorem Tryd.laysM171 : Go.Proofs.LaysM.n171 Tryd.prog Tryd.laysM171_ren := {
  mixed := by kernel_rfl
  f129 := Tryd.func115.trans (congrArg some (by kernel_rfl))
  f171 := Tryd.func69.trans (congrArg some (by kernel_rfl))
  f243 := Tryd.func89.trans (congrArg some (by kernel_rfl))
  f246 := Tryd.func99.trans (congrArg some (by kernel_rfl))
  f283 := Tryd.func107.trans (congrArg some (by kernel_rfl))
  f284 := Tryd.func108.trans (congrArg some (by kernel_rfl))
  f285 := Tryd.func109.trans (congrArg some (by kernel_rfl))
  f286 := Tryd.func110.trans (congrArg some (by kernel_rfl))
  f317 := Tryd.func114.trans (congrArg some (by kernel_rfl))
  f318 := Tryd.func116.trans (congrArg some (by kernel_rfl))
  f319 := Tryd.func117.trans (congrArg some (by kernel_rfl))
  f320 := Tryd.func118.trans (congrArg some (by kernel_rfl))
  f337 := Tryd.func121.trans (congrArg some (by kernel_rfl))
  f338 := Tryd.func122.trans (congrArg some (by kernel_rfl))
  t0 := Tryd.underlying0
  a0 := Tryd.isAgg0
  z0 := Tryd.sizeOf0
  v0 := Tryd.zeroValue0
  t2 := Tryd.underlying2
  a2 := Tryd.isAgg2
  z2 := Tryd.sizeOf2
  v2 := Tryd.zeroValue2
  t3 := Tryd.underlying3
  a3 := Tryd.isAgg3
  z3 := Tryd.sizeOf3
  v3 := Tryd.zeroValue3
  t4 := Tryd.underlying4
  a4 := Tryd.isAgg4
  z4 := Tryd.sizeOf4
  v4 := Tryd.zeroValue4
  t5 := Tryd.underlying5
  a5 := Tryd.isAgg5
  z5 := Tryd.sizeOf5
  v5 := Tryd.zeroValue5
  t9 := Tryd.underlying9
  a9 := Tryd.isAgg9
  z9 := Tryd.sizeOf9
  v9 := Tryd.zeroValue9
  t20 := Tryd.underlying20
  a20 := Tryd.isAgg20
  z20 := Tryd.sizeOf20
  v20 := Tryd.zeroValue20
  t37 := Tryd.underlying45
  a37 := Tryd.isAgg45
  z37 := Tryd.sizeOf45
  v37 := Tryd.zeroValue45
  t46 := Tryd.underlying95
  a46 := Tryd.isAgg95
  z46 := Tryd.sizeOf95
  v46 := Tryd.zeroValue95
  t51 := Tryd.underlying109
  a51 := Tryd.isAgg109
  z51 := Tryd.sizeOf109
  v51 := Tryd.zeroValue109
  t53 := Tryd.underlying112
  a53 := Tryd.isAgg112
  z53 := Tryd.sizeOf112
  v53 := Tryd.zeroValue112
  t171 := Tryd.underlying126
  a171 := Tryd.isAgg126
  z171 := Tryd.sizeOf126
  v171 := Tryd.zeroValue126
  t173 := Tryd.underlying129
  a173 := Tryd.isAgg129
  z173 := Tryd.sizeOf129
  v173 := Tryd.zeroValue129
  t212 := Tryd.underlying138
  a212 := Tryd.isAgg138
  z212 := Tryd.sizeOf138
  v212 := Tryd.zeroValue138
  t213 := Tryd.underlying139
  a213 := Tryd.isAgg139
  z213 := Tryd.sizeOf139
  t232 := Tryd.underlying146
  a232 := Tryd.isAgg146
  z232 := Tryd.sizeOf146
  v232 := Tryd.zeroValue146
  t233 := Tryd.underlying147
  a233 := Tryd.isAgg147
  z233 := Tryd.sizeOf147
  v233 := Tryd.zeroValue147
  g17 := by kernel_rfl
  g18 := by kernel_rfl
  g19 := by kernel_rfl
  i0 := by kernel_rfl
  i2 := by kernel_rfl
  i3 := by kernel_rfl
  i4 := by kernel_rfl
  i5 := by kernel_rfl
  i9 := by kernel_rfl
  i20 := by kernel_rfl
  i37 := by kernel_rfl
  i46 := by kernel_rfl
  i51 := by kernel_rfl
  i53 := by kernel_rfl
  i171 := by kernel_rfl
  i173 := by kernel_rfl
  i212 := by kernel_rfl
  i232 := by kernel_rfl
  i233 := by kernel_rfl
  m17 := by kernel_rfl
  m18 := by kernel_rfl
  m19 := by kernel_rfl }
open Go.RowKit Go.Sort Go.Lib in
theorem Tryd.strconv_Itoa (n : Int) (h0 : -9223372036854775808 ≤ n) (h1 : n ≤ 9223372036854775807) (w : World) (htab : Lib.TabIs Tryd.prog w "internal/strconv.uint64pow10" .u64 Lib.pow10Tab) :
    Calls Tryd.prog 69 #[.int .i64 n] w fun e w' => e = .returned (.string ⟨(Lib.itoa n).toArray⟩) ∧ ∃ k os, w' = grow (w.drewN k) os := Any.strconv_Itoa Tryd.laysM171 n h0 h1 w htab
def Tryd.laysC172_ren : Go.Shelf.Ren := ⟨fun | 172 => 81 | 244 => 97 | 245 => 98 | 247 => 102 | 279 => 103 | 280 => 104 | 281 => 105 | 282 => 106 | 287 => 111 | 316 => 112 | 171 => 69 | 205 => 113 | 321 => 119 | 322 => 120 | 243 => 89 | 246 => 99 | 283 => 107 | 284 => 108 | 285 => 109 | 286 => 110 | 129 => 115 | 317 => 114 | 318 => 116 | 319 => 117 | 320 => 118 | 337 => 121 | 338 => 122 | n => n, fun | 9 => 9 | 3 => 3 | 75 => 91 | 76 => 92 | 4 => 4 | 5 => 5 | 167 => 120 | 37 => 45 | 0 => 0 | 85 => 121 | 2 => 2 | 168 => 123 | 53 => 112 | 175 => 131 | 46 => 95 | 210 => 135 | 127 => 108 | 145 => 144 | 143 => 142 | 21 => 21 | 171 => 126 | 173 => 129 | 212 => 138 | 51 => 109 | 20 => 20 | 213 => 139 | 232 => 146 | 233 => 147 | 80 => 56 | n => n, fun | 15 => 1 | 16 => 2 | 17 => 3 | 18 => 4 | 19 => 5 | n => n⟩
theorem Tryd.laysC172 : Go.Proofs.LaysC.n172 Tryd.prog Tryd.laysC172_ren := {
  mixed := by kernel_rfl
  f129 := Tryd.func115.trans (congrArg some (by kernel_rfl))
  f171 := Tryd.func69.trans (congrArg some (by kernel_rfl))
  f172 := Tryd.func81.trans (congrArg some (by kernel_rfl))
  f205 := Tryd.func113.trans (congrArg some (by kernel_rfl))
  f243 := Tryd.func89.trans (congrArg some (by kernel_rfl))
  f244 := Tryd.func97.trans (congrArg some (by kernel_rfl))
  f245 := Tryd.func98.trans (congrArg some (by kernel_rfl))
  f246 := Tryd.func99.trans (congrArg some (by kernel_rfl))
  f247 := Tryd.func102.trans (congrArg some (by kernel_rfl))
  f279 := Tryd.func103.trans (congrArg some (by kernel_rfl))
  f280 := Tryd.func104.trans (congrArg some (by kernel_rfl))
  f281 := Tryd.func105.trans (congrArg some (by kernel_rfl))
  f282 := Tryd.func106.trans (congrArg some (by kernel_rfl))
  f283 := Tryd.func107.trans (congrArg some (by kernel_rfl))
  f284 := Tryd.func108.trans (congrArg some (by kernel_rfl))
  f285 := Tryd.func109.trans (congrArg some (by kernel_rfl))
  f286 := Tryd.func110.trans (congrArg some (by kernel_rfl))
  f287 := Tryd.func111.trans (congrArg some (by kernel_rfl))
  f316 := Tryd.func112.trans (congrArg some (by kernel_rfl))
  f317 := Tryd.func114.trans (congrArg some (by kernel_rfl))
  f318 := Tryd.func116.trans (congrArg some (by kernel_rfl))
  f319 := Tryd.func117.trans (congrArg some (by kernel_rfl))
  f320 := Tryd.func118.trans (congrArg some (by kernel_rfl))
  f321 := Tryd.func119.trans (congrArg some (by kernel_rfl))
  f322 := Tryd.func120.trans (congrArg some (by kernel_rfl))
  f337 := Tryd.func121.trans (congrArg some (by kernel_rfl))
  f338 := Tryd.func122.trans (congrArg some (by kernel_rfl))
  t0 := Tryd.underlying0
  a0 := Tryd.isAgg0
  z0 := Tryd.sizeOf0
  v0 := Tryd.zeroValue0
  t2 := Tryd.underlying2
  a2 := Tryd.isAgg2
  z2 := Tryd.sizeOf2
  v2 := Tryd.zeroValue2
  t3 := Tryd.underlying3
  a3 := Tryd.isAgg3
  z3 := Tryd.sizeOf3
  v3 := Tryd.zeroValue3
  t4 := Tryd.underlying4
  a4 := Tryd.isAgg4
  z4 := Tryd.sizeOf4
  v4 := Tryd.zeroValue4
  t5 := Tryd.underlying5
  a5 := Tryd.isAgg5
  z5 := Tryd.sizeOf5
  v5 := Tryd.zeroValue5
  t9 := Tryd.underlying9
  a9 := Tryd.isAgg9
  z9 := Tryd.sizeOf9
  v9 := Tryd.zeroValue9
  t20 := Tryd.underlying20
  a20 := Tryd.isAgg20
  z20 := Tryd.sizeOf20
  v20 := Tryd.zeroValue20
  t21 := Tryd.underlying21
  a21 := Tryd.isAgg21
  z21 := Tryd.sizeOf21
  v21 := Tryd.zeroValue21
  t37 := Tryd.underlying45
  a37 := Tryd.isAgg45
  z37 := Tryd.sizeOf45
  v37 := Tryd.zeroValue45
  t46 := Tryd.underlying95
  a46 := Tryd.isAgg95
  z46 := Tryd.sizeOf95
  v46 := Tryd.zeroValue95
  t51 := Tryd.underlying109
  a51 := Tryd.isAgg109
  z51 := Tryd.sizeOf109
  v51 := Tryd.zeroValue109
  t53 := Tryd.underlying112
  a53 := Tryd.isAgg112
  z53 := Tryd.sizeOf112
  v53 := Tryd.zeroValue112
  t75 := Tryd.underlying91
  a75 := Tryd.isAgg91
  z75 := Tryd.sizeOf91
  v75 := Tryd.zeroValue91
  t76 := Tryd.underlying92
  a76 := Tryd.isAgg92
  z76 := Tryd.sizeOf92
  v76 := Tryd.zeroValue92
  t85 := Tryd.underlying121
  a85 := Tryd.isAgg121
  z85 := Tryd.sizeOf121
  v85 := Tryd.zeroValue121
  t127 := Tryd.underlying108
  a127 := Tryd.isAgg108
  z127 := Tryd.sizeOf108
  v127 := Tryd.zeroValue108
  t143 := Tryd.underlying142
  a143 := Tryd.isAgg142
  z143 := Tryd.sizeOf142
  v143 := Tryd.zeroValue142
  t145 := Tryd.underlying144
  a145 := Tryd.isAgg144
  z145 := Tryd.sizeOf144
  v145 := Tryd.zeroValue144
  t167 := Tryd.underlying120
  a167 := Tryd.isAgg120
  z167 := Tryd.sizeOf120
  v167 := Tryd.zeroValue120
  t168 := Tryd.underlying123
  a168 := Tryd.isAgg123
  z168 := Tryd.sizeOf123
  v168 := Tryd.zeroValue123
  t171 := Tryd.underlying126
  a171 := Tryd.isAgg126
  z171 := Tryd.sizeOf126
  v171 := Tryd.zeroValue126
  t173 := Tryd.underlying129
  a173 := Tryd.isAgg129
  z173 := Tryd.sizeOf129
  v173 := Tryd.zeroValue129
  t175 := Tryd.underlying131
  a175 := Tryd.isAgg131
  z175 := Tryd.sizeOf131
  v175 := Tryd.zeroValue131
  t210 := Tryd.underlying135
  a210 := Tryd.isAgg135
  z210 := Tryd.sizeOf135
  v210 := Tryd.zeroValue135
  t212 := Tryd.underlying138
  a212 := Tryd.isAgg138
  z212 := Tryd.sizeOf138
  v212 := Tryd.zeroValue138
  t213 := Tryd.underlying139
  a213 := Tryd.isAgg139
  z213 := Tryd.sizeOf139
  t232 := Tryd.underlying146
  a232 := Tryd.isAgg146
  z232 := Tryd.sizeOf146
  v232 := Tryd.zeroValue146
  t233 := Tryd.underlying147
  a233 := Tryd.isAgg147
  z233 := Tryd.sizeOf147
  v233 := Tryd.zeroValue147
  g15 := by kernel_rfl
  g16 := by kernel_rfl
  g17 := by kernel_rfl
  g18 := by kernel_rfl
  g19 := by kernel_rfl
  t80 := Tryd.underlying56
  a80 := Tryd.isAgg56
  z80 := Tryd.sizeOf56
  v80 := Tryd.zeroValue56
  i0 := by kernel_rfl
  i2 := by kernel_rfl
  i3 := by kernel_rfl
  i4 := by kernel_rfl
  i5 := by kernel_rfl
  i9 := by kernel_rfl
  i20 := by kernel_rfl
  i21 := by kernel_rfl
  i37 := by kernel_rfl
  i46 := by kernel_rfl
  i51 := by kernel_rfl
  i53 := by kernel_rfl
  i75 := by kernel_rfl
  i76 := by kernel_rfl
  i80 := by kernel_rfl
  i85 := by kernel_rfl
  i127 := by kernel_rfl
  i143 := by kernel_rfl
  i145 := by kernel_rfl
  i167 := by kernel_rfl
  i168 := by kernel_rfl
  i171 := by kernel_rfl
  i173 := by kernel_rfl
  i175 := by kernel_rfl
  i210 := by kernel_rfl
  i212 := by kernel_rfl
  i232 := by kernel_rfl
  i233 := by kernel_rfl
  m15 := by kernel_rfl
  m16 := by kernel_rfl
  m17 := by kernel_rfl
  m18 := by kernel_rfl
  m19 := by kernel_rfl
  c0 := by kernel_rfl
  c2 := by kernel_rfl
  c3 := by kernel_rfl
  c4 := by kernel_rfl
  c5 := by kernel_rfl
  c9 := by kernel_rfl
  c20 := by kernel_rfl
  c21 := by kernel_rfl
  c37 := by kernel_rfl
  c46 := by kernel_rfl
  c51 := by kernel_rfl
  c53 := by kernel_rfl
  c75 := by kernel_rfl
  c76 := by kernel_rfl
  c80 := by kernel_rfl
  c85 := by kernel_rfl
  c127 := by kernel_rfl
  c143 := by kernel_rfl
  c145 := by kernel_rfl
  c167 := by kernel_rfl
  c168 := by kernel_rfl
  c171 := by kernel_rfl
  c173 := by kernel_rfl
  c175 := by kernel_rfl
  c210 := by kernel_rfl
  c212 := by kernel_rfl
  c213 := by kernel_rfl
  c232 := by kernel_rfl
  c233 := by kernel_rfl }
open Go.RowKit in
theorem Tryd.strconv_Atoi_ok (s : ByteArray) (hmax : s.size ≤ 9223372036854775806) (v : Int) (h : Lib.atoiAll s.data.toList = .ok v) (w : World) :
    Calls Tryd.prog 81 #[.string s] w fun e w' => e = .returned (.tuple #[.int .i64 v, .nilIface]) ∧ (w' = w ∨ ∃ t, w' = Lib.bytesWorld w 5 t) := Any.strconv_Atoi_ok Tryd.laysC172 s hmax v h w
open Go.RowKit in
theorem Tryd.strconv_Atoi_syntax (s : ByteArray) (hlim : s.size ≤ 281474976710656) (h : Lib.atoiAll s.data.toList = Lib.atoiAll []) (ev : Value) (w : World) (hv : w.cell? ⟨1, 0, none⟩ = some ev) (hev : ev = .nilIface ∨ ∃ te pe, ev = .iface te pe) :
    Calls Tryd.prog 81 #[.string s] w fun e w' => ∃ N, e = .returned (.tuple #[.int .i64 (0), .iface 123 (.pointer (some ⟨N, 0, none⟩))]) ∧ w.heap.size ≤ N ∧ w'.heap[N]? = some (.cells #[.string ⟨#[65, 116, 111, 105]⟩, .string s, ev] 135 (0, 0)) ∧ Below w.heap.size w w' := Any.strconv_Atoi_syntax Tryd.laysC172 s hlim h ev w hv hev
open Go.RowKit in
theorem Tryd.strconv_Atoi_range (s : ByteArray) (hlim : s.size ≤ 281474976710656) (h : Lib.atoiAll s.data.toList = .range) (ev : Value) (w : World) (hv : w.cell? ⟨2, 0, none⟩ = some ev) (hev : ev = .nilIface ∨ ∃ te pe, ev = .iface te pe) :
    Calls Tryd.prog 81 #[.string s] w fun e w' => ∃ N, e = .returned (.tuple #[.int .i64 (Lib.atoiSat s.data.toList), .iface 123 (.pointer (some ⟨N, 0, none⟩))]) ∧ w.heap.size ≤ N ∧ w'.heap[N]? = some (.cells #[.string ⟨#[65, 116, 111, 105]⟩, .string s, ev] 135 (0, 0)) ∧ Below w.heap.size w w' := Any.strconv_Atoi_range Tryd.laysC172 s hlim h ev w hv hev
def Tryd.lays105_ren : Go.Shelf.Ren := ⟨fun | 105 => 42 | 212 => 73 | 99 => 74 | 165 => 75 | 166 => 70 | 170 => 76 | 169 => 71 | 263 => 91 | 264 => 92 | 206 => 93 | 240 => 90 | 241 => 94 | 276 => 100 | 277 => 101 | n => n, fun | 9 => 9 | 3 => 3 | 4 => 4 | 20 => 20 | 0 => 0 | 46 => 95 | 109 => 96 | 5 => 5 | 72 => 85 | 76 => 92 | 51 => 109 | 146 => 110 | 53 => 112 | 148 => 113 | 70 => 83 | 37 => 45 | 75 => 91 | 127 => 108 | 164 => 117 | 80 => 56 | n => n, fun | n => n⟩
theorem Tryd.lays105 : Go.Proofs.Lays.n105 Tryd.prog Tryd.lays105_ren := {
  mixed := by kernel_rfl
  f99 := Tryd.func74.trans (congrArg some (by kernel_rfl))
  f105 := Tryd.func42.trans (congrArg some (by kernel_rfl))
  f165 := Tryd.func75.trans (congrArg some (by kernel_rfl))
  f166 := Tryd.func70.trans (congrArg some (by kernel_rfl))
  f169 := Tryd.func71.trans (congrArg some (by kernel_rfl))
  f170 := Tryd.func76.trans (congrArg some (by kernel_rfl))
  f206 := Tryd.func93.trans (congrArg some (by kernel_rfl))
  f212 := Tryd.func73.trans (congrArg some (by kernel_rfl))
  f240 := Tryd.func90.trans (congrArg some (by kernel_rfl))
  f241 := Tryd.func94.trans (congrArg some (by kernel_rfl))
  f263 := Tryd.func91.trans (congrArg some (by kernel_rfl))
  f264 := Tryd.func92.trans (congrArg some (by kernel_rfl))
  f276 := Tryd.func100.trans (congrArg some (by kernel_rfl))
  f277 := Tryd.func101.trans (congrArg some (by kernel_rfl))
  t0 := Tryd.underlying0
  a0 := Tryd.isAgg0
  z0 := Tryd.sizeOf0
  v0 := Tryd.zeroValue0
  t3 := Tryd.underlying3
  a3 := Tryd.isAgg3
  z3 := Tryd.sizeOf3
  v3 := Tryd.zeroValue3
  t4 := Tryd.underlying4
  a4 := Tryd.isAgg4
  z4 := Tryd.sizeOf4
  v4 := Tryd.zeroValue4
  t5 := Tryd.underlying5
  a5 := Tryd.isAgg5
  z5 := Tryd.sizeOf5
  v5 := Tryd.zeroValue5
  t9 := Tryd.underlying9
  a9 := Tryd.isAgg9
  z9 := Tryd.sizeOf9
  v9 := Tryd.zeroValue9
  t20 := Tryd.underlying20
  a20 := Tryd.isAgg20
  z20 := Tryd.sizeOf20
  v20 := Tryd.zeroValue20
  t37 := Tryd.underlying45
  a37 := Tryd.isAgg45
  z37 := Tryd.sizeOf45
  v37 := Tryd.zeroValue45
  t46 := Tryd.underlying95
  a46 := Tryd.isAgg95
  z46 := Tryd.sizeOf95
  v46 := Tryd.zeroValue95
  t51 := Tryd.underlying109
  a51 := Tryd.isAgg109
  z51 := Tryd.sizeOf109
  v51 := Tryd.zeroValue109
  t53 := Tryd.underlying112
  a53 := Tryd.isAgg112
  z53 := Tryd.sizeOf112
  v53 := Tryd.zeroValue112
  t70 := Tryd.underlying83
  a70 := Tryd.isAgg83
  z70 := Tryd.sizeOf83
  v70 := Tryd.zeroValue83
  t72 := Tryd.underlying85
  a72 := Tryd.isAgg85
  z72 := Tryd.sizeOf85
  v72 := Tryd.zeroValue85
  t75 := Tryd.underlying91
  a75 := Tryd.isAgg91
  z75 := Tryd.sizeOf91
  v75 := Tryd.zeroValue91
  t76 := Tryd.underlying92
  a76 := Tryd.isAgg92
  z76 := Tryd.sizeOf92
  v76 := Tryd.zeroValue92
  t109 := Tryd.underlying96
  a109 := Tryd.isAgg96
  z109 := Tryd.sizeOf96
  v109 := Tryd.zeroValue96
  t127 := Tryd.underlying108
  a127 := Tryd.isAgg108
  z127 := Tryd.sizeOf108
  v127 := Tryd.zeroValue108
  t146 := Tryd.underlying110
  a146 := Tryd.isAgg110
  z146 := Tryd.sizeOf110
  v146 := Tryd.zeroValue110
  t148 := Tryd.underlying113
  a148 := Tryd.isAgg113
  z148 := Tryd.sizeOf113
  v148 := Tryd.zeroValue113
  t164 := Tryd.underlying117
  a164 := Tryd.isAgg117
  z164 := Tryd.sizeOf117
  v164 := Tryd.zeroValue117 }
theorem Tryd.Builder_Extra_105 : Builder.Extra Tryd.prog Tryd.lays105_ren := {
  sizeBuilder := by kernel_rfl
  liesBuilder := by kernel_rfl
  t5 := Tryd.underlying5
  a5 := Tryd.isAgg5
  z5 := Tryd.sizeOf5
  v5 := Tryd.zeroValue5
  infoByte := by kernel_rfl
  cellsByte := by kernel_rfl
  sizeByte := by kernel_rfl
  neB5 := by decide }
open Go.RowKit Go.Lib in
theorem Tryd.strings_Repeat (s : ByteArray) (c : Nat) (w : World) (hc : c ≤ 9223372036854775807) (hlen : s.size * c ≤ 140737488355328) :
    Calls Tryd.prog 42 #[.string s, .int .i64 c] w fun e w' => e = .returned (.string ⟨(Lib.repeatL s.data.toList c).toArray⟩) ∧ Below w.heap.size w w' := Any.strings_Repeat Tryd.lays105 Tryd.Builder_Extra_105 s c w hc hlen
end Go.Proofs
end
section
namespace Go.Proofs.YtdbgpoileffbeaaDoor.Ext
open Go.RowKit Go.Sort Go.Proofs.YtdbgpoileffbeaaDoorW.PrintWords Go.Proofs.YtdbgpoileffbeaaDoorW.PrintLast Go.Proofs.YtdbgpoileffbeaaDoorW.PrintMore
set_option linter.unusedVariables false
set_option linter.unusedSimpArgs false
def EnvI (w : World) : Prop := Lib.TabIs Tryd.prog w "internal/strconv.uint64pow10" .u64 Lib.pow10Tab
theorem gPow : Tryd.prog.globalNamed "internal/strconv.uint64pow10" = some 3 := by kernel_rfl
theorem EnvI.below {w w' : World} (h : EnvI w) (hb : Below w.heap.size w w') : EnvI w' := Joins.tab_stays gPow h hb (Nat.le_refl _)
def HoldsErr (g : Nat) (w : World) : Prop := ∃ ev, w.cell? ⟨g, 0, none⟩ = some ev ∧ (ev = .nilIface ∨ ∃ te pe, ev = .iface te pe)
theorem cell_stays {w w' : World} {p : Addr} {v : Value} (h : w.cell? p = some v) (hb : Below w.heap.size w w') : w'.cell? p = some v :=
  (hb.cell (World.block_lt_of_cell? _ _ h)).trans h
theorem HoldsErr.below {g : Nat} {w w' : World} (h : HoldsErr g w) (hb : Below w.heap.size w w') : HoldsErr g w' := by
  obtain ⟨ev, hc, he⟩ := h
  exact ⟨ev, cell_stays hc hb, he⟩
structure EnvA (w : World) : Prop where
  toI : EnvI w
  syn : HoldsErr 1 w
  ran : HoldsErr 2 w
  len : ∃ m, w.cell? ⟨0, 0, none⟩ = some (.int .i64 m)
theorem EnvA.below {w w' : World} (h : EnvA w) (hb : Below w.heap.size w w') : EnvA w' := by
  obtain ⟨m, hm⟩ := h.len
  exact ⟨h.toI.below hb, h.syn.below hb, h.ran.below hb, m, cell_stays hm hb⟩
def lib_Itoa.f (a0 : Int) : Option ByteArray := if -9223372036854775808 ≤ a0 ∧ a0 ≤ 9223372036854775807 then some ⟨(Lib.itoa a0).toArray⟩ else none
theorem lib_Itoa.calls (a0 : Int) (r : ByteArray) (w : World) (hT : EnvI w) (h : lib_Itoa.f a0 = some r) :
    Calls Tryd.prog 69 #[.int .i64 a0] w fun e w' => e = .returned (.string r) ∧ Below w.heap.size w w' := by
  unfold lib_Itoa.f at h
  split at h
  · rename_i hb
    obtain rfl := Option.some.inj h
    refine (Tryd.strconv_Itoa a0 hb.1 hb.2 w hT).mono ?_
    rintro e w' ⟨he, k, os, rfl⟩
    exact ⟨he, Lib.below_grow _ w (Nat.le_refl _) k os⟩
  · cases h
def lib_Repeat.f (a0 : ByteArray) (a1 : Int) : Option ByteArray := if 0 ≤ a1 ∧ a1 ≤ 9223372036854775807 ∧ a0.size * a1.toNat ≤ 140737488355328 then some ⟨(Lib.repeatL a0.data.toList a1.toNat).toArray⟩ else none
theorem lib_Repeat.calls (a0 : ByteArray) (a1 : Int) (r : ByteArray) (w : World) (h : lib_Repeat.f a0 a1 = some r) :
    Calls Tryd.prog 42 #[.string a0, .int .i64 a1] w fun e w' => e = .returned (.string r) ∧ Below w.heap.size w w' := by
  unfold lib_Repeat.f at h
  split at h
  · rename_i hb
    obtain rfl := Option.some.inj h
    obtain ⟨h0, h1, h2⟩ := hb
    obtain ⟨n, rfl⟩ := Int.eq_ofNat_of_zero_le h0
    rw [Int.toNat_natCast] at h2 ⊢
    exact Tryd.strings_Repeat a0 n w (by omega) h2
  · cases h
def atoiV (l : List UInt8) : Int := match Lib.atoiAll l with
  | .ok v => v
  | .range => Lib.atoiSat l
  | _ => 0
theorem atoi_calls (a0 : ByteArray) (hs : a0.size ≤ 281474976710656) (w : World) (hT : EnvA w) :
    Calls Tryd.prog 81 #[.string a0] w fun e w' => ∃ ev, e = .returned (.tuple #[.int .i64 (atoiV a0.data.toList), ev]) ∧ Below w.heap.size w w' := by
  unfold atoiV
  cases h : Lib.atoiAll a0.data.toList with
  | ok v =>
    refine (Tryd.strconv_Atoi_ok a0 (by omega) v h w).mono ?_
    rintro e w' ⟨he, rfl | ⟨t, rfl⟩⟩
    · exact ⟨_, he, Below.refl _ _⟩
    · exact ⟨_, he, Lib.bytesWorld_below _ _ _⟩
  | range =>
    obtain ⟨ev, hc, hev⟩ := hT.ran
    refine (Tryd.strconv_Atoi_range a0 hs h ev w hc hev).mono ?_
    rintro e w' ⟨N, he, _, _, hb⟩
    exact ⟨_, he, hb⟩
  | _ =>
    obtain ⟨ev, hc, hev⟩ := hT.syn
    refine (Tryd.strconv_Atoi_syntax a0 hs h ev w hc hev).mono ?_
    rintro e w' ⟨N, he, _, _, hb⟩
    exact ⟨_, he, hb⟩
def lib_Atoi.f (a0 : ByteArray) : Option (Int × Bool) := if a0.size ≤ 281474976710656 then some (atoiV a0.data.toList, true) else none
theorem lib_Atoi.calls (a0 : ByteArray) (r1 : Int) (r2 : Bool) (w : World) (hT : EnvA w) (h : lib_Atoi.f a0 = some (r1, r2)) :
    Calls Tryd.prog 81 #[.string a0] w fun e w' => ∃ ev, e = .returned (.tuple #[.int .i64 r1, ev]) ∧ Below w.heap.size w w' := by
  unfold lib_Atoi.f at h
  split at h
  · rename_i hb
    obtain ⟨rfl, rfl⟩ := Prod.mk.inj (Option.some.inj h)
    exact atoi_calls a0 hb w hT
  · cases h
def lib_CutPrefix.f (a0 a1 : ByteArray) : Option (ByteArray × Bool) := some (⟨(Lib.trimPrefix a0.data.toList a1.data.toList).toArray⟩, Lib.hasPrefix a0.data.toList a1.data.toList)
theorem lib_CutPrefix.calls (a0 a1 : ByteArray) (r1 : ByteArray) (r2 : Bool) (w : World) (h : lib_CutPrefix.f a0 a1 = some (r1, r2)) :
    Calls Tryd.prog 46 #[.string a0, .string a1] w fun e w' => e = .returned (.tuple #[.string r1, .bool r2]) ∧ Drawn0 w w' := by
  obtain ⟨rfl, rfl⟩ := Prod.mk.inj (Option.some.inj h)
  refine (Tryd.strings_CutPrefix a0 a1 w).mono ?_
  rintro e w' ⟨he, rfl⟩
  exact ⟨he, Drawn0.refl _⟩
theorem builder_WriteString (B b : Nat) (bs : List Value) (s : ByteArray) (w : World) (h : Lib.IsBuilderF 85 5 B b bs w) (hlen : bs.length + s.size ≤ 140737488355328) (hBw : B ≤ w.heap.size) :
    Calls Tryd.prog 70 #[.pointer (some ⟨b, 0, none⟩), .string s] w fun e w' => e = .returned (.tuple #[.int .i64 s.size, .nilIface]) ∧ (Lib.BuilderAtF 85 5 B b (.pointer (some ⟨b, 0, none⟩)) (bs ++ Lib.strCells s) w' ∧ Below B w w' ∧ Lib.OthersKept 5 (some b) w w') :=
  Any.Builder_WriteString_k { Tryd.lays105 with } Tryd.Builder_Extra_105 B b bs s w h hlen hBw
end Go.Proofs.YtdbgpoileffbeaaDoor.Ext
end
section
namespace Go.Proofs.YtdbgpoileffbeaaDoor.Dec
open Go.Lib
set_option linter.unusedVariables false
set_option linter.unusedSimpArgs false
def IsD (b : UInt8) : Prop := 48 ≤ b.toNat ∧ b.toNat ≤ 57
instance (b : UInt8) : Decidable (IsD b) := inferInstanceAs (Decidable (_ ∧ _))
def Digs (l : List UInt8) : Prop := ∀ b ∈ l, IsD b
instance (l : List UInt8) : Decidable (Digs l) := inferInstanceAs (Decidable (∀ b ∈ l, IsD b))
def dvalA (a : Nat) (l : List UInt8) : Nat := l.foldl (fun a b => a * 10 + (b.toNat - 48)) a
def dval (l : List UInt8) : Nat := dvalA 0 l
theorem Digs.nil : Digs [] := fun _ h => by cases h
theorem Digs.append {a b : List UInt8} (ha : Digs a) (hb : Digs b) : Digs (a ++ b) := fun x hx => (List.mem_append.1 hx).elim (ha x) (hb x)
theorem Digs.tail {x : UInt8} {a : List UInt8} (h : Digs (x :: a)) : Digs a := fun y hy => h y (by simp [hy])
theorem Digs.head {x : UInt8} {a : List UInt8} (h : Digs (x :: a)) : IsD x := h x (by simp)
theorem Digs.take {l : List UInt8} (h : Digs l) (n : Nat) : Digs (l.take n) := fun x hx => h x (List.mem_of_mem_take hx)
theorem Digs.drop {l : List UInt8} (h : Digs l) (n : Nat) : Digs (l.drop n) := fun x hx => h x (List.mem_of_mem_drop hx)
theorem Digs.get {l : List UInt8} (h : Digs l) {i : Nat} {b : UInt8} (hb : l[i]? = some b) : IsD b := h b (List.mem_of_getElem? hb)
theorem dvalA_nil (a : Nat) : dvalA a [] = a := List.foldl_nil
theorem dvalA_cons (a : Nat) (b : UInt8) (r : List UInt8) : dvalA a (b :: r) = dvalA (a * 10 + (b.toNat - 48)) r := List.foldl_cons ..
theorem dvalA_eq0 (l : List UInt8) : ∀ a, dvalA a l = a * 10 ^ l.length + dvalA 0 l := by
  induction l with
  | nil => intro a; rw [dvalA_nil, dvalA_nil, List.length_nil, Nat.pow_zero, Nat.mul_one, Nat.add_zero]
  | cons b r ih =>
    intro a
    rw [dvalA_cons, dvalA_cons, ih, ih (0 * 10 + (b.toNat - 48)), List.length_cons, Nat.pow_succ]
    generalize 10 ^ r.length = P
    generalize b.toNat - 48 = d
    rw [Nat.zero_mul, Nat.zero_add, Nat.add_mul, Nat.mul_assoc, Nat.mul_comm 10 P, Nat.add_assoc]
theorem dvalA_eq (l : List UInt8) (a : Nat) : dvalA a l = a * 10 ^ l.length + dval l := dvalA_eq0 l a
theorem dvalA_append (x b : List UInt8) (n : Nat) : dvalA n (x ++ b) = dvalA (dvalA n x) b := List.foldl_append ..
theorem dval_append (a b : List UInt8) : dval (a ++ b) = dval a * 10 ^ b.length + dval b := by
  unfold dval
  rw [dvalA_append, dvalA_eq b]
  rfl
theorem dval_nil : dval [] = 0 := dvalA_nil 0
theorem dval_one (b : UInt8) : dval [b] = b.toNat - 48 := by unfold dval; rw [dvalA_cons, dvalA_nil, Nat.zero_mul, Nat.zero_add]
theorem dval_cons (b : UInt8) (l : List UInt8) : dval (b :: l) = (b.toNat - 48) * 10 ^ l.length + dval l := by
  unfold dval
  rw [dvalA_cons, dvalA_eq0, Nat.zero_mul, Nat.zero_add]
theorem dval_snoc (l : List UInt8) (b : UInt8) : dval (l ++ [b]) = dval l * 10 + (b.toNat - 48) := by rw [dval_append, dval_one]; simp
theorem dval_lt {l : List UInt8} (h : Digs l) : dval l < 10 ^ l.length := by
  induction l with
  | nil => simp [dval_nil]
  | cons b r ih =>
    have h1 := ih h.tail
    have h2 := h.head
    unfold IsD at h2
    rw [dval_cons, List.length_cons, Nat.pow_succ]
    have h3 : (b.toNat - 48) * 10 ^ r.length ≤ 9 * 10 ^ r.length := Nat.mul_le_mul_right _ (by omega)
    omega
def zerosL (n : Nat) : List UInt8 := List.replicate n 48
theorem zerosL_digs (n : Nat) : Digs (zerosL n) := fun b hb => by
  rw [List.eq_of_mem_replicate hb]; decide
theorem zerosL_dval (n : Nat) : dval (zerosL n) = 0 := by
  induction n with
  | zero => rfl
  | succ n ih => unfold zerosL at *; rw [List.replicate_succ, dval_cons, ih]; simp
theorem zerosL_len (n : Nat) : (zerosL n).length = n := List.length_replicate
theorem ofNat_toNat {d : Nat} (h : d < 10) : (UInt8.ofNat (48 + d)).toNat = 48 + d := by
  rw [UInt8.toNat_ofNat']
  exact Nat.mod_eq_of_lt (by omega)
theorem decDigits_digs (n : Nat) : Digs (decDigits n) := by
  induction n using Nat.strongRecOn with
  | ind n ih =>
    rw [decDigits]
    split
    · intro b hb
      rw [List.mem_singleton.1 hb]
      unfold IsD
      rw [ofNat_toNat (by omega)]
      omega
    · refine (ih (n / 10) (by omega)).append ?_
      intro b hb
      rw [List.mem_singleton.1 hb]
      unfold IsD
      rw [ofNat_toNat (by omega)]
      omega
theorem decDigits_dval (n : Nat) : dval (decDigits n) = n := by
  induction n using Nat.strongRecOn with
  | ind n ih =>
    rw [decDigits]
    split
    · rw [dval_one, ofNat_toNat (by omega)]; omega
    · rw [dval_snoc, ih (n / 10) (by omega), ofNat_toNat (by omega)]; omega
def Canon (l : List UInt8) : Prop := l.length = 1 ∨ (1 < l.length ∧ l.head? ≠ some 48)
instance (l : List UInt8) : Decidable (Canon l) := inferInstanceAs (Decidable (_ ∨ _))
theorem decDigits_len_pos (n : Nat) : 0 < (decDigits n).length := by rw [decDigits]; split <;> simp
theorem decDigits_head (n : Nat) (h : n ≠ 0) : (decDigits n).head? ≠ some 48 := by
  induction n using Nat.strongRecOn with
  | ind n ih =>
    rw [decDigits]
    split
    · intro e
      rw [List.head?_cons, Option.some.injEq] at e
      have := congrArg UInt8.toNat e
      rw [ofNat_toNat (by omega)] at this
      have h48 : (48 : UInt8).toNat = 48 := rfl
      omega
    · have h1 := ih (n / 10) (by omega) (by omega)
      have h2 := decDigits_len_pos (n / 10)
      cases hd : decDigits (n / 10) with
      | nil => rw [hd] at h2; simp at h2
      | cons x xs => rw [hd] at h1; simpa using h1
theorem decDigits_canon (n : Nat) : Canon (decDigits n) := by
  have hp := decDigits_len_pos n
  by_cases h : n = 0
  · subst h; left; rw [decDigits, dif_pos (by decide)]; rfl
  · have := decDigits_head n h
    unfold Canon
    by_cases hl : (decDigits n).length = 1
    · exact .inl hl
    · exact .inr ⟨by omega, this⟩
theorem digit_inj {x y : UInt8} (hx : IsD x) (hy : IsD y) (h : x.toNat - 48 = y.toNat - 48) : x = y := by
  unfold IsD at hx hy
  exact UInt8.toNat_inj.1 (by omega)
theorem digs_uniq_len : ∀ {a b : List UInt8}, Digs a → Digs b → a.length = b.length → dval a = dval b → a = b
  | [], [], _, _, _, _ => rfl
  | [], _ :: _, _, _, h, _ => by simp at h
  | _ :: _, [], _, _, h, _ => by simp at h
  | x :: xs, y :: ys, ha, hb, h, hv => by
    have hl : xs.length = ys.length := by simpa using h
    rw [dval_cons, dval_cons, hl] at hv
    have l1 := dval_lt ha.tail
    have l2 := dval_lt hb.tail
    rw [hl] at l1
    have e : x.toNat - 48 = y.toNat - 48 := by
      have p : 0 < 10 ^ ys.length := Nat.pow_pos (by decide)
      rcases Nat.lt_trichotomy (x.toNat - 48) (y.toNat - 48) with hlt | he | hgt
      · have := Nat.mul_le_mul_right (10 ^ ys.length) (show (x.toNat - 48) + 1 ≤ y.toNat - 48 from hlt)
        rw [Nat.add_mul, Nat.one_mul] at this
        omega
      · exact he
      · have := Nat.mul_le_mul_right (10 ^ ys.length) (show (y.toNat - 48) + 1 ≤ x.toNat - 48 from hgt)
        rw [Nat.add_mul, Nat.one_mul] at this
        omega
    rw [e] at hv
    rw [digit_inj ha.head hb.head e, digs_uniq_len ha.tail hb.tail hl (by omega)]
theorem dval_ge {l : List UInt8} (h : Digs l) (h1 : l.head? ≠ some 48) (h0 : l ≠ []) : 10 ^ (l.length - 1) ≤ dval l := by
  cases l with
  | nil => exact absurd rfl h0
  | cons x xs =>
    have hx := h.head
    have : x.toNat ≠ 48 := fun e => h1 (by rw [List.head?_cons, UInt8.toNat_inj.1 (show x.toNat = (48 : UInt8).toNat from e)])
    unfold IsD at hx
    rw [dval_cons]
    have := Nat.mul_le_mul_right (10 ^ xs.length) (show 1 ≤ x.toNat - 48 by omega)
    simp only [List.length_cons, Nat.add_sub_cancel]
    omega
theorem canon_uniq {a b : List UInt8} (ha : Digs a) (hb : Digs b) (ca : Canon a) (cb : Canon b) (h : dval a = dval b) : a = b := by
  have key : ∀ {a b : List UInt8}, Digs a → Digs b → Canon a → Canon b → dval a = dval b → a.length ≤ b.length := by
    intro a b ha hb ca cb h
    rcases ca with h1 | ⟨h1, h2⟩
    · rcases cb with h3 | ⟨h3, _⟩ <;> omega
    · have g := dval_ge ha h2 (by intro e; rw [e] at h1; simp at h1)
      have l := dval_lt hb
      apply Nat.le_of_not_lt
      intro hlt
      have := Nat.pow_le_pow_right (show 0 < 10 by decide) (show b.length ≤ a.length - 1 by omega)
      omega
  exact digs_uniq_len ha hb (Nat.le_antisymm (key ha hb ca cb h) (key hb ha cb ca h.symm)) h
theorem decDigits_of {l : List UInt8} (h : Digs l) (c : Canon l) : decDigits (dval l) = l := canon_uniq (decDigits_digs _) h (decDigits_canon _) c (decDigits_dval _)
theorem decDigits_len_le {n k : Nat} (hk : 0 < k) (h : n < 10 ^ k) : (decDigits n).length ≤ k := by
  apply Nat.le_of_not_lt
  intro hlt
  have hn : n ≠ 0 := by
    intro e
    subst e
    have : (decDigits 0).length = 1 := by rw [decDigits, dif_pos (by decide)]; rfl
    omega
  have g := dval_ge (decDigits_digs n) (decDigits_head n hn) (by intro e; have := decDigits_len_pos n; rw [e] at this; simp at this)
  rw [decDigits_dval] at g
  have := Nat.pow_le_pow_right (show 0 < 10 by decide) (show k ≤ (decDigits n).length - 1 by omega)
  omega
def padL (n : Nat) (w : Nat) : List UInt8 := zerosL (w - (decDigits n).length) ++ decDigits n
theorem padL_digs (n w : Nat) : Digs (padL n w) := (zerosL_digs _).append (decDigits_digs n)
theorem padL_dval (n w : Nat) : dval (padL n w) = n := by unfold padL; rw [dval_append, zerosL_dval, decDigits_dval]; omega
theorem padL_len {n w : Nat} (hw : 0 < w) (h : n < 10 ^ w) : (padL n w).length = w := by
  have := decDigits_len_le hw h
  unfold padL
  rw [List.length_append, zerosL_len]; omega
end Go.Proofs.YtdbgpoileffbeaaDoor.Dec
end
section
namespace Go.Proofs.YtdbgpoileffbeaaDoor.Dec
open Go.Lib Go.Proofs.YtdbgpoileffbeaaDoor.Jt
set_option linter.unusedVariables false
set_option linter.unusedSimpArgs false
def pad4 (d : Int) : List UInt8 := padL d.toNat 4
def textL : List Int → List UInt8
  | [] => [48]
  | [x] => decDigits x.toNat
  | x :: y :: r => textL (y :: r) ++ pad4 x
def textB (l : List Int) : List UInt8 := if l = [] then [] else textL l
theorem textB_step (l : List Int) {k : Nat} (hk : k < l.length) : textB (l.drop k) = textB (l.drop (k + 1)) ++ (if k + 1 < l.length then pad4 (l.getD k 0) else decDigits (l.getD k 0).toNat) := by
  rw [drop_cons hk]
  by_cases h : k + 1 < l.length
  · rw [if_pos h, drop_cons h]
    simp [textB, textL]
  · rw [if_neg h, List.drop_eq_nil_of_le (by omega)]
    simp [textB, textL]
theorem pad4_len {d : Int} (h0 : 0 ≤ d) (h1 : d ≤ 9999) : (pad4 d).length = 4 := padL_len (by decide) (by omega)
theorem pad4_dval {d : Int} : dval (pad4 d) = d.toNat := padL_dval _ _
theorem nz_tail {x y : Int} {r : List Int} (h : Nz (x :: y :: r)) : Nz (y :: r) := by
  right
  have h' := h.resolve_left (by simp)
  simpa using h'
theorem textL_ne (l : List Int) : textL l ≠ [] := by
  induction l with
  | nil => simp [textL]
  | cons x r ih =>
    cases r with
    | nil => simp only [textL]; intro e; have := decDigits_len_pos x.toNat; rw [e] at this; simp at this
    | cons y r => simp only [textL]; intro e; exact ih (List.append_eq_nil_iff.1 e).1
theorem head_append {a b : List UInt8} (h : a ≠ []) : (a ++ b).head? = a.head? := by cases a with | nil => exact absurd rfl h | cons x xs => rfl
theorem textL_eq : ∀ (l : List Int), Dig l → Nz l → textL l = decDigits (val l).toNat
  | [], _, _ => by rw [show (val []).toNat = 0 from rfl, decDigits, dif_pos (by decide)]; rfl
  | [x], hd, hz => by simp [textL, val]
  | x :: y :: r, hd, hz => by
    have ih := textL_eq (y :: r) hd.tail (nz_tail hz)
    have hp := nz_pos hd.tail (nz_tail hz) (by simp)
    have hx := hd.head
    simp only [textL]
    rw [ih]
    have hv : val (x :: y :: r) = x + 10000 * val (y :: r) := rfl
    have dl := decDigits_len_pos (val (y :: r)).toNat
    have ne : decDigits (val (y :: r)).toNat ≠ [] := by intro e; rw [e] at dl; simp at dl
    refine canon_uniq ((decDigits_digs _).append (padL_digs _ _)) (decDigits_digs _) ?_ (decDigits_canon _) ?_
    · right
      refine ⟨by rw [List.length_append, pad4_len hx.1 hx.2]; omega, ?_⟩
      rw [head_append ne]
      exact decDigits_head _ (by omega)
    · rw [dval_append, pad4_len hx.1 hx.2, decDigits_dval, decDigits_dval, pad4_dval, hv]
      omega
theorem textL_digs (l : List Int) : Digs (textL l) := by
  induction l with
  | nil => decide
  | cons x r ih =>
    cases r with
    | nil => exact decDigits_digs _
    | cons y r => exact ih.append (padL_digs _ _)
theorem textL_len : ∀ (l : List Int), Dig l → (textL l).length ≤ 4 * l.length + 1
  | [], _ => by decide
  | [x], hd => by
    have hx := hd.head
    have : (decDigits x.toNat).length ≤ 4 := decDigits_len_le (by decide) (by omega)
    simp only [textL, List.length_cons, List.length_nil]; omega
  | x :: y :: r, hd => by
    have ih := textL_len (y :: r) hd.tail
    have hx := hd.head
    simp only [textL, List.length_append, pad4_len hx.1 hx.2, List.length_cons] at ih ⊢
    omega
def cutL (s : List UInt8) : List UInt8 := s.drop (s.length - 4)
def restL (s : List UInt8) : List UInt8 := s.take (s.length - 4)
def readL (s : List UInt8) : List Int := if h : s = [] then [] else (dval (cutL s) : Int) :: readL (restL s)
termination_by s.length
decreasing_by
  have : s.length ≠ 0 := fun e => h (List.eq_nil_of_length_eq_zero e)
  simp only [restL, List.length_take]; omega
theorem readL_nil : readL [] = [] := by rw [readL]; simp
theorem readL_cons {s : List UInt8} (h : s ≠ []) : readL s = (dval (cutL s) : Int) :: readL (restL s) := by rw [readL, dif_neg h]
theorem readL_ok : ∀ (n : Nat) (s : List UInt8), s.length ≤ n → Digs s → Dig (readL s) ∧ val (readL s) = (dval s : Int) ∧ 4 * (readL s).length < s.length + 4 := by
  intro n
  induction n with
  | zero =>
    intro s hs hd
    obtain rfl : s = [] := List.eq_nil_of_length_eq_zero (by omega)
    rw [readL_nil]
    exact ⟨Jt.Dig.nil, rfl, by simp⟩
  | succ n ih =>
    intro s hs hd
    by_cases h : s = []
    · subst h
      rw [readL_nil]
      exact ⟨Jt.Dig.nil, rfl, by simp⟩
    · have hl : s.length ≠ 0 := fun e => h (List.eq_nil_of_length_eq_zero e)
      have h1 : (restL s).length = s.length - 4 := by simp only [restL, List.length_take]; omega
      have h2 : (cutL s).length ≤ 4 := by simp only [cutL, List.length_drop]; omega
      have dc : Digs (cutL s) := hd.drop _
      have hlt := dval_lt dc
      have h3 : 10 ^ (cutL s).length ≤ 10 ^ 4 := Nat.pow_le_pow_right (by decide) h2
      obtain ⟨i1, i2, i3⟩ := ih (restL s) (by omega) (hd.take _)
      rw [readL_cons h]
      refine ⟨Jt.Dig.cons (by omega) (by omega) i1, ?_, by rw [List.length_cons]; omega⟩
      have e : s = restL s ++ cutL s := by simp only [restL, cutL, List.take_append_drop]
      have ev : dval s = dval (restL s) * 10 ^ (cutL s).length + dval (cutL s) := by
        conv => lhs; rw [e]
        exact dval_append _ _
      simp only [val]
      rw [i2, ev]
      by_cases h4 : 4 ≤ s.length
      · have : (cutL s).length = 4 := by simp only [cutL, List.length_drop]; omega
        rw [this]; omega
      · have : restL s = [] := by simp only [restL, show s.length - 4 = 0 by omega, List.take_zero]
        rw [this]; simp [dval_nil]
end Go.Proofs.YtdbgpoileffbeaaDoor.Dec
end
section
namespace Go.Proofs.YtdbgpoileffbeaaDoor.Rng
open Go.RowKit Go.Shelf Go.Lib Go.Proofs.YtdbgpoileffbeaaDoor.Jt Go.Proofs.YtdbgpoileffbeaaDoor.Dec Go.Proofs.YtdbgpoileffbeaaDoor.Ext Go.Proofs.YtdbgpoileffbeaaDoorW.PrintWords Go.Proofs.YtdbgpoileffbeaaDoorW.PrintLast Go.Proofs.YtdbgpoileffbeaaDoorW.PrintMore
set_option linter.unusedVariables false
set_option linter.unusedSimpArgs false
attribute [local go_sem] Oper.semAt_some
theorem builder_grown {T e : TypeId} {B b : Nat} {bs : List Value} {W W' : World} {row : Option Nat} (h : IsBuilderF T e B b bs W) (hg : W.grownBy W' row) (hrow : ∀ r, row = some r → ∃ o : Obj, W.heap[r]? = some o ∧ o.isCells = false) : IsBuilderF T e B b bs W' := by
  have go : ∀ p, BuilderAtF T e B b p bs W → BuilderAtF T e B b p bs W' := by
    rintro p ⟨hB, v, hb, ho, hne⟩
    refine ⟨hB, v, (grownBy_keeps_cells hg hrow hb rfl).trans hb, ho.kept hg ?_, hne⟩
    cases hv : v.ownBlock with
    | none => exact .inl rfl
    | some g =>
      right
      intro e'
      obtain ⟨o, ho', hc⟩ := hrow g e'.symm
      rcases ho.2 with ⟨rfl, _⟩ | ⟨g', cap, cur, fz, rfl, _, hgg, _⟩
      · simp [Value.ownBlock] at hv
      · simp [Value.ownBlock] at hv
        subst hv
        rw [hgg] at ho'; cases ho'; cases hc
  exact h.elim (fun x => .inl (go _ x)) (fun x => .inr (go _ x))
theorem builder_below {T e : TypeId} {B b : Nat} {bs : List Value} {W W' : World} (h : IsBuilderF T e B b bs W) (hb : Below W.heap.size W W') : IsBuilderF T e B b bs W' := by
  have go : ∀ p, BuilderAtF T e B b p bs W → BuilderAtF T e B b p bs W' := by
    rintro p ⟨hB, v, hbk, ho, hne⟩
    have same : ∀ {k : Nat} {o : Obj}, W.heap[k]? = some o → W'.heap[k]? = some o := fun hk => (hb.block _ (Array.getElem?_eq_some_iff.1 hk).1).trans hk
    refine ⟨hB, v, same hbk, ⟨ho.1, ?_⟩, hne⟩
    rcases ho.2 with hn | ⟨g, cap, cur, fz, hv, hbg, hgg, rest⟩
    · exact .inl hn
    · exact .inr ⟨g, cap, cur, fz, hv, hbg, same hgg, rest⟩
  exact h.elim (fun x => .inl (go _ x)) (fun x => .inr (go _ x))
theorem repeat_zeros (c : Nat) : repeatL [48] c = zerosL c := by
  induction c with
  | zero => rfl
  | succ c ih => unfold zerosL at *; rw [repeatL, ih, List.replicate_succ]; rfl
theorem size_list (z : ByteArray) : z.size = z.data.toList.length := by rw [Array.length_toList]; rfl
def piece (len : Nat) (x : Nat × Int) : List UInt8 := if x.1 + 1 < len then pad4 x.2 else decDigits x.2.toNat
def soFar (len : Nat) (l : List (Nat × Int)) : List UInt8 := l.flatMap (piece len)
theorem soFar_snoc (len : Nat) (l : List (Nat × Int)) (x : Nat × Int) : soFar len (l ++ [x]) = soFar len l ++ piece len x := by simp [soFar]
theorem piece_len {len : Nat} {x : Nat × Int} (h0 : 0 ≤ x.2) (h1 : x.2 ≤ 9999) : (piece len x).length ≤ 4 := by
  unfold piece
  split
  · rw [pad4_len h0 h1]; omega
  · exact decDigits_len_le (by decide) (by omega)
theorem soFar_len {len : Nat} : ∀ {l : List (Nat × Int)}, (∀ x ∈ l, 0 ≤ x.2 ∧ x.2 ≤ 9999) → (soFar len l).length ≤ 4 * l.length
  | [], _ => by simp [soFar]
  | x :: r, h => by
    have h1 := piece_len (len := len) (h x (by simp)).1 (h x (by simp)).2
    have h2 := soFar_len (len := len) (l := r) (fun y hy => h y (by simp [hy]))
    have e : soFar len (x :: r) = piece len x ++ soFar len r := rfl
    rw [e, List.length_append, List.length_cons]; omega
theorem soFar_down (l : List Int) : ∀ k, k ≤ l.length → soFar l.length (down l l.length k) = textB (l.drop (l.length - k))
  | 0, _ => by rw [Nat.sub_zero, List.drop_length]; rfl
  | k + 1, h => by
    have ih := soFar_down l k (by omega)
    have e1 := down_step l (len := l.length) (m := l.length - (k + 1)) (by omega)
    rw [show l.length - (l.length - (k + 1)) = k + 1 by omega, show l.length - (l.length - (k + 1) + 1) = k by omega] at e1
    rw [e1, soFar_snoc, ih, textB_step l (k := l.length - (k + 1)) (by omega), show l.length - (k + 1) + 1 = l.length - k by omega]
    congr 1
    unfold piece
    simp only
    have e2 : l[l.length - (k + 1)]?.getD 0 = l.getD (l.length - (k + 1)) 0 := (List.getD_eq_getElem?_getD ..).symm
    rw [e2, show l.length - (k + 1) + 1 = l.length - k by omega]
theorem soFar_all {l : List Int} (h : l ≠ []) : soFar l.length (down l l.length l.length) = textL l := by
  rw [soFar_down l l.length (Nat.le_refl _), Nat.sub_self, List.drop_zero]
  unfold textB
  rw [if_neg h]
theorem dig_get {l : List Int} (hd : Dig l) (i : Nat) : 0 ≤ l[i]?.getD 0 ∧ l[i]?.getD 0 ≤ 9999 := by
  cases h : l[i]? with
  | none => simp
  | some v => have := hd v (List.mem_of_getElem? h); simp only [Option.getD_some]; omega
theorem row_of {a : Option Addr} {l : List Int} {w w' : World} {S : Nat → Prop} (hS : ∀ x, x < w.heap.size → S x) (hr : Kd.C (Kd.int .i64) w a l.length l) (hb : Below w.heap.size w w') : RowIn S w' a l.length l := by
  cases hl : l with
  | nil => exact .inl rfl
  | cons x r =>
    right
    obtain ⟨ad, e, hc0⟩ := Kd.at_int hr 0 (by omega) (by rw [hl]; simp)
    have hlt := World.block_lt_of_cell? _ _ hc0
    rw [add_blk] at hlt
    rw [← hl]
    refine ⟨ad, e, hS _ hlt, fun j hj => ?_⟩
    obtain ⟨ad', e', hc⟩ := Kd.at_int hr (j : Int) (by omega) (by omega)
    rw [e] at e'; cases e'
    rw [hb.cell (by rw [add_blk]; exact hlt), ← Int.toNat_natCast j, hc]
    simp [rd, List.getD_eq_getElem?_getD]
set_option maxRecDepth 100000 in
set_option maxHeartbeats 2000000 in
theorem text_in (a : Option Addr) (c : Nat) (l : List Int) (h0 : l ≠ []) (hd : Dig l) (hlen : l.length * 8 ≤ 140737488351232) (w : World) (hT : EnvI w) (hr : Kd.C (Kd.int .i64) w a l.length l) (hc : l.length ≤ c) :
    CallsIn Fence.wide 3 Tryd.prog 36 #[.slice a l.length c] w fun e W' => e = .returned (.string ⟨(textL l).toArray⟩) ∧ Below w.heap.size w W' := by
  refine callsIn_of_wp_marks Tryd.func36 rfl trivial ?_ rfl
  simp only [Tryd.ntmps36, List.size_toArray, List.length_cons, List.length_nil, Nat.reduceAdd, Nat.reduceSub, Array.replicate_succ, Array.replicate_zero, List.push_toArray, List.append_toArray, List.nil_append, List.cons_append]
  have hl0 : (l.length : Int) ≠ 0 := by
    cases l with
    | nil => exact absurd rfl h0
    | cons x r => simp; omega
  have hne : ((l.length : Int) == 0) = false := beq_eq_false_iff_ne.2 hl0
  gi_wp2_with (refine ⟨trivial, ?_⟩; gi_at_call 68; refine (back_in Fence.wide (3 - 1) trivial rfl _ _ _ _).mono ?_; rintro e w' ⟨rfl, rfl⟩)
  obtain ⟨W1, hW1⟩ : ∃ W1, w.alloc (.cells #[.slice a l.length c] 55) = W1 := ⟨_, rfl⟩
  obtain ⟨W2, hW2⟩ : ∃ W2, W1.alloc (.cells #[.pointer none, .slice none 0 0] 85) = W2 := ⟨_, rfl⟩
  obtain ⟨W3, hW3⟩ : ∃ W3, W2.alloc (.cells #[.slice a l.length c] 55) = W3 := ⟨_, rfl⟩
  have s1 : W1.heap.size = w.heap.size + 1 := by rw [← hW1, World.size_alloc]
  have s2 : W2.heap.size = w.heap.size + 2 := by rw [← hW2, World.size_alloc, s1]
  have s3 : W3.heap.size = w.heap.size + 3 := by rw [← hW3, World.size_alloc, s2]
  have bA : Boxed W1 w.heap.size 55 (.slice a l.length c) := hW1 ▸ Boxed.new w _ _
  have bA3 : Boxed W3 w.heap.size 55 (.slice a l.length c) := hW3 ▸ (hW2 ▸ bA.alloc _ : Boxed W2 w.heap.size 55 (.slice a l.length c)).alloc _
  have bS : Boxed W3 (w.heap.size + 2) 55 (.slice a l.length c) := by have := Boxed.new W2 55 (.slice a l.length c); rw [hW3, s2] at this; exact this
  have bO : IsBuilderF 85 5 (w.heap.size + 1) (w.heap.size + 1) [] W3 := by
    refine .inl ⟨Nat.le_refl _, .slice none 0 0, ?_, World.ownsRowF_nil _ _ _ _, by simp [Value.ownBlock]⟩
    have h2 : W2.heap[w.heap.size + 1]? = some (.cells #[.pointer none, .slice none 0 0] 85 (0, 0)) := by have := World.alloc_heap_new W1 (.cells #[.pointer none, .slice none 0 0] 85); rw [hW2, s1] at this; exact this
    rw [← hW3]
    exact (Below.heap_alloc W2 _ _ (by rw [s2]; omega)).trans h2
  have hB3 : Below w.heap.size w W3 := by
    have b1 : Below w.heap.size w W1 := hW1 ▸ (Below.refl _ w).alloc (Nat.le_refl _) _
    have b2 : Below w.heap.size w W2 := hW2 ▸ b1.alloc (by rw [s1]; omega) _
    exact hW3 ▸ b2.alloc (by rw [s2]; omega) _
  rw [hW1, hW2, hW3]
  have hIrow := row_of (S := fun x => x < w.heap.size + 1 ∨ x = w.heap.size + 2) (fun x hx => .inl (by omega)) hr hB3
  refine wpIn_rangeFunc_ownG rfl (by decide) (gf := 88) (lb := #[.pointer (some ⟨w.heap.size + 2, 0, none⟩)]) ?hg trivial (enters_of Tryd.func88 (by kernel_rfl) rfl)
    (back_stops Fence.wide 2 trivial rfl (by decide) (w.heap.size + 2) a l.length c l hlen (fun x => x < w.heap.size + 1 ∨ x = w.heap.size + 2) (.inr rfl) W3 (fun x hx => by rw [s3]; omega) bS.cell hIrow) SameIn.trans (sameIn_b (fun x hx => by rw [s3]; omega)) (Below.refl _ _) (fun _ => rfl)
    (fun pre W => (IsBuilderF 85 5 (w.heap.size + 1) (w.heap.size + 1) (byteCells (soFar l.length (pre.map Subtype.val))) W ∧ Boxed W w.heap.size 55 (.slice a l.length c) ∧ Boxed W (w.heap.size + 2) 55 (.slice a l.length c)) ∧ Below w.heap.size w W)
    (fun _ _ _ => False)
    ?hI (fun _ _ _ _ _ hs _ _ => hs) ⟨⟨bO, bA3, bS⟩, hB3⟩
    (fun x => { tmps := #[.slice a l.length c, .pointer (some ⟨w.heap.size, 0, none⟩), .string ⟨#[]⟩, .pointer (some ⟨w.heap.size + 1, 0, none⟩), .int .i64 (x.1.1 : Int), .int .i64 x.1.2, undef, .slice a l.length c, .int .i64 (l.length : Int), .bool false, .slice a l.length c, .func (.func 88) #[] #[.pointer (some ⟨w.heap.size + 2, 0, none⟩)], .int .i64 (x.1.1 : Int), .int .i64 x.1.2, undef, undef, undef, undef, undef, undef, undef, undef, undef, undef, undef, undef, undef, undef, undef, undef], defers := [] }) ?assign ?body ?done ?stop
  case hg => rfl
  case hI =>
    refine OwnFrom.and (Own.from (fun s X Y row hs hg hr => ⟨builder_grown hs.1 hg hr, ?_, ?_⟩) _) (ownFrom_below (Nat.le_refl _) (by rw [s3]; omega))
    · exact (grownBy_keeps_cells hg hr hs.2.1 rfl).trans hs.2.1
    · exact (grownBy_keeps_cells hg hr hs.2.2 rfl).trans hs.2.2
  case assign =>
    intro lo x W K hK
    gi_wp2
    exact hK
  case body =>
    rintro lo pre x W ⟨⟨hbO, hbA, hbS⟩, hB⟩ hN
    have hx : 0 ≤ x.1.2 ∧ x.1.2 ≤ 9999 := by
      rw [x.2.2]
      exact dig_get hd _
    have hxi := x.2.1
    have hpre : ∀ y ∈ pre.map Subtype.val, 0 ≤ y.2 ∧ y.2 ≤ 9999 := by
      intro y hy
      obtain ⟨z, _, rfl⟩ := List.mem_map.1 hy
      rw [z.2.2]
      exact dig_get hd _
    have hsl := soFar_len (len := l.length) hpre
    rw [List.length_map] at hsl
    have hpl := piece_len (len := l.length) hx.1 hx.2
    obtain ⟨s, hs⟩ : ∃ s : ByteArray, s = ⟨(Lib.itoa x.1.2).toArray⟩ := ⟨_, rfl⟩
    have hit : lib_Itoa.f x.1.2 = some s := by unfold lib_Itoa.f; rw [if_pos (by omega), hs]
    have hdig : Lib.itoa x.1.2 = decDigits x.1.2.toNat := by unfold Lib.itoa; rw [if_neg (by omega)]
    have hssz : s.size = (decDigits x.1.2.toNat).length := by rw [hs, hdig]; simp [ByteArray.size]
    have hs4 : s.size ≤ 4 := by rw [hssz]; exact decDigits_len_le (by decide) (by omega)
    have hsd : s.data.toList = decDigits x.1.2.toNat := by rw [hs, hdig]
    have hc1 := hbA.cell
    have hwl : wrap64 ((l.length : Int) - 1) = (l.length : Int) - 1 := by unfold wrap64; omega
    have fin : ∀ (q : ByteArray) (W4 W5 : World), Below W.heap.size W W4 → q.data.toList = piece l.length x.1 →
        (BuilderAtF 85 5 (w.heap.size + 1) (w.heap.size + 1) (.pointer (some ⟨w.heap.size + 1, 0, none⟩)) (byteCells (soFar l.length (pre.map Subtype.val)) ++ strCells q) W5 ∧ Below (w.heap.size + 1) W4 W5 ∧ OthersKept 5 (some (w.heap.size + 1)) W4 W5) →
        KeepsFrom W3.heap.size W W5 ∧ SameIn (fun x => x < w.heap.size + 1 ∨ x = w.heap.size + 2) W W5 ∧ (IsBuilderF 85 5 (w.heap.size + 1) (w.heap.size + 1) (byteCells (soFar l.length ((pre ++ [x]).map Subtype.val))) W5 ∧ Boxed W5 w.heap.size 55 (.slice a l.length c) ∧ Boxed W5 (w.heap.size + 2) 55 (.slice a l.length c)) ∧ Below w.heap.size w W5 := by
      rintro q W4 W5 hb4 hq ⟨h1, h2, h3⟩
      have same4 : ∀ {k : Nat} {o : Obj}, W.heap[k]? = some o → W4.heap[k]? = some o := fun hk => (hb4.block _ (Array.getElem?_eq_some_iff.1 hk).1).trans hk
      have hA5 : Boxed W5 w.heap.size 55 (.slice a l.length c) := h3 _ _ (same4 hbA) (by simp) (fun c' fz e => by cases e)
      have hS5 : Boxed W5 (w.heap.size + 2) 55 (.slice a l.length c) := h3 _ _ (same4 hbS) (by simp) (fun c' fz e => by cases e)
      have hWs := hB.size
      have hSs := hbS.lt
      refine ⟨⟨Nat.le_trans hb4.size h2.size, fun k o hk ho hcl => h3 _ _ (same4 ho) (by simp; omega) (fun c' fz e => by rw [e] at hcl; cases hcl)⟩, ?_, ⟨.inr ?_, hA5, hS5⟩, (hB.trans (hb4.mono hWs)).trans (h2.mono (by omega))⟩
      · intro p hp
        rcases hp with hp | hp
        · rw [h2.cell (p := p) (by omega), hb4.cell (p := p) (by omega)]
        · refine World.cell?_of_block ?_
          rw [hp]
          exact hS5.trans hbS.symm
      · rw [List.map_append, List.map_cons, List.map_nil, soFar_snoc, byteCells_append, ← hq]
        exact h1
    by_cases hlast : (x.1.1 : Int) < (l.length : Int) - 1
    · have hld : decide ((x.1.1 : Int) < (l.length : Int) - 1) = true := decide_eq_true hlast
      have hwo : wrap64 (4 - (s.size : Int)) = 4 - (s.size : Int) := by unfold wrap64; omega
      obtain ⟨z, hz⟩ : ∃ z : ByteArray, z = ⟨(repeatL [48] (4 - (s.size : Int)).toNat).toArray⟩ := ⟨_, rfl⟩
      have hzl : z.data.toList = zerosL (4 - (decDigits x.1.2.toNat).length) := by
        rw [hz, show (4 - (s.size : Int)).toNat = 4 - (decDigits x.1.2.toNat).length by omega]
        exact repeat_zeros _
      have hzs : z.size = 4 - (decDigits x.1.2.toNat).length := by
        rw [size_list, hzl, zerosL_len]
      have hrep : lib_Repeat.f (⟨#[48]⟩ : ByteArray) (4 - (s.size : Int)) = some z := by
        unfold lib_Repeat.f
        rw [if_pos (by rw [show (⟨#[48]⟩ : ByteArray).size = 1 from rfl]; omega), hz]
      have hcat : z.size + s.size ≤ 9223372036854775807 := by omega
      have hcat2 : (9223372036854775807 < z.size + s.size) = False := eq_false (Nat.not_lt.2 hcat)
      have hq : (z ++ s).data.toList = piece l.length x.1 := by
        unfold piece
        rw [if_pos (by omega)]
        show (z ++ s).data.toList = padL _ _
        unfold padL
        rw [← hzl, ← hsd]
        simp
      have hqs : (z ++ s).size ≤ 4 := by
        rw [size_list, hq]; exact hpl
      have HQ := Aside0.mk hq
      have hqs' : (soFar l.length (pre.map Subtype.val)).length + (z ++ s).size ≤ 140737488355328 := by omega
      have HX := Aside0.mk hx
      clear hs hdig hssz hsd hz hzl hzs hq hxi hpre hx
      gi_wp2_with (first | (refine ⟨trivial, ?_⟩; gi_at_call 69; refine (CallsIn.inRound lo (callsIn_wide.2 (lib_Itoa.calls x.1.2 s _ (hT.below hB) hit))).mono ?_; rintro e w4 ⟨rfl, hb4⟩; have hc4 := cell_stays hc1 hb4) | (refine ⟨trivial, ?_⟩; gi_at_call 42; refine (CallsIn.inRound lo (callsIn_wide.2 (lib_Repeat.calls (⟨#[48]⟩ : ByteArray) (4 - (s.size : Int)) z _ hrep))).mono ?_; rintro e w5 ⟨rfl, hb5⟩) | (refine ⟨trivial, ?_⟩; gi_at_call 70; refine (CallsIn.inRound lo (callsIn_wide.2 (builder_WriteString (w.heap.size + 1) (w.heap.size + 1) (byteCells (soFar l.length (pre.map Subtype.val))) (z ++ s) _ (builder_below (builder_below hbO hb4) hb5) (by rw [byteCells_length]; exact hqs') (by have := hb4.size; have := hb5.size; have := hbS.lt; omega)))).mono ?_; rintro e w6 ⟨rfl, hpost⟩))
      exact fin (z ++ s) _ _ (hb4.trans (hb5.mono hb4.size)) HQ.out hpost
    · have hld : decide ((x.1.1 : Int) < (l.length : Int) - 1) = false := decide_eq_false hlast
      have hq : s.data.toList = piece l.length x.1 := by
        unfold piece
        rw [if_neg (by omega), hsd]
      have HQ := Aside0.mk hq
      have hqs' : (soFar l.length (pre.map Subtype.val)).length + s.size ≤ 140737488355328 := by omega
      have HX := Aside0.mk hx
      clear hs hdig hssz hsd hq hxi hpre hx
      gi_wp2_with (first | (refine ⟨trivial, ?_⟩; gi_at_call 69; refine (CallsIn.inRound lo (callsIn_wide.2 (lib_Itoa.calls x.1.2 s _ (hT.below hB) hit))).mono ?_; rintro e w4 ⟨rfl, hb4⟩; have hc4 := cell_stays hc1 hb4) | (refine ⟨trivial, ?_⟩; gi_at_call 70; refine (CallsIn.inRound lo (callsIn_wide.2 (builder_WriteString (w.heap.size + 1) (w.heap.size + 1) (byteCells (soFar l.length (pre.map Subtype.val))) s _ (builder_below hbO hb4) (by rw [byteCells_length]; exact hqs') (by have := hb4.size; have := hbS.lt; omega)))).mono ?_; rintro e w6 ⟨rfl, hpost⟩))
      exact fin s _ _ hb4 HQ.out hpost
  case done =>
    rintro D xs W hD hxs ⟨⟨hbO, hbA, hbS⟩, hB⟩ hK
    have hT2 : soFar l.length (xs.map Subtype.val) = textL l := by rw [hxs]; exact soFar_all h0
    rw [hT2] at hbO
    have hDn : some D ≠ some (w.heap.size + 1) := by simp; omega
    gi_wp2_with (refine ⟨trivial, ?_⟩; gi_at_call 71; refine (callsIn_wide.2 (Tryd.Builder_String_any_k (w.heap.size + 1) (w.heap.size + 1) (textL l) _ hbO (by have := hB.size; have := hbO; rcases hbO with h | h <;> (obtain ⟨_, v, hb, _⟩ := h; have := (Array.getElem?_eq_some_iff.1 hb).1; omega)))).mono ?_; rintro e w5 ⟨rfl, hb5, hw5, hk5⟩)
    have hK5 := hk5 D _ hK hDn (fun c fz e => by cases e)
    refine ⟨by simp, .inl ⟨_, _, rfl, run_takeDeferred hK5, ?_⟩⟩
    exact ⟨_, results_tmp rfl _ _ _, rfl, (hB.trans (hw5.mono (by omega))).trans (belowK_b (w := w) (Nat.le_refl _) w5 D _ _ (by omega) hK5 rfl rfl)⟩
  case stop =>
    rintro D c pre W _ _ h _
    exact h.elim
set_option maxHeartbeats 2000000 in
theorem text_nil (a : Option Addr) (c : Nat) (w : World) : Calls Tryd.prog 36 #[.slice a 0 c] w fun e W' => e = .returned (.string ⟨#[48]⟩) ∧ Below w.heap.size w W' := by
  go_enter Tryd.func36, Tryd.ntmps36
  go_wp2
  go_ret
  exact ⟨rfl, below_alloc (Below.refl _ _) _⟩
end Go.Proofs.YtdbgpoileffbeaaDoor.Rng
namespace Go.Proofs.YtdbgpoileffbeaaDoor.Ext
open Go.RowKit Go.Proofs.YtdbgpoileffbeaaDoor.Jt Go.Proofs.YtdbgpoileffbeaaDoor.Dec Go.Proofs.YtdbgpoileffbeaaDoorW.PrintWords
instance (l : List Int) : Decidable (Dig l) := inferInstanceAs (Decidable (∀ x ∈ l, _))
def impl_limbs_text.f (l0 : List Int) : Option ByteArray := if Dig l0 ∧ l0.length * 8 ≤ 140737488351232 then some ⟨(textL l0).toArray⟩ else none
theorem impl_limbs_text.calls (A0 : Option Addr) (c0 : Nat) (l0 : List Int) (r : ByteArray) (w : World) (hT : EnvI w) (hr0 : Kd.C (Kd.int .i64) w A0 l0.length l0) (hc0 : l0.length ≤ c0) (h : impl_limbs_text.f l0 = some r) :
    Calls Tryd.prog 36 #[.slice A0 l0.length c0] w fun e w' => e = .returned (.string r) ∧ Below w.heap.size w w' := by
  unfold impl_limbs_text.f at h
  split at h
  · rename_i hb
    obtain rfl := Option.some.inj h
    by_cases h0 : l0 = []
    · subst h0
      exact Rng.text_nil A0 c0 w
    · exact callsIn_wide.1 (Rng.text_in A0 c0 l0 h0 hb.1 hb.2 w hT hr0 hc0)
  · cases h
end Go.Proofs.YtdbgpoileffbeaaDoor.Ext
end
section
namespace Go.Proofs.YtdbgpoileffbeaaDoor.Pr
open Go.RowKit Go.Proofs.YtdbgpoileffbeaaDoorW.PrintWords Go.Proofs.YtdbgpoileffbeaaDoorW.PrintLast Go.Proofs.YtdbgpoileffbeaaDoor.Ext Go.Proofs.YtdbgpoileffbeaaDoorW.PrintMore
attribute [local go_sem] max2_int min2_int max_two min_two max_three min_three max_four min_four
set_option linter.unusedVariables false
set_option linter.unusedSimpArgs false
def errW : Option Int → Value
  | none => .nilIface
  | some c => .iface 0 (.int .i64 c)
theorem errW_none : errW none = .nilIface := rfl
theorem errW_some (c : Int) : errW (some c) = .iface 0 (.int .i64 c) := rfl
theorem info3 : (Tryd.prog.info? 3).map (fun i => (i.zero, i.size, i.bytes)) = some (some (.int .i64 0), 1, 8) := by kernel_rfl
end Go.Proofs.YtdbgpoileffbeaaDoor.Pr
end
section
namespace Go.Proofs.YtdbgpoileffbeaaDoor.Pr
open Go.RowKit Go.Proofs.YtdbgpoileffbeaaDoorW.PrintWords Go.Proofs.YtdbgpoileffbeaaDoorW.PrintLast Go.Proofs.YtdbgpoileffbeaaDoor.Ext Go.Proofs.YtdbgpoileffbeaaDoorW.PrintMore
attribute [local go_sem] max2_int min2_int max_two min_two max_three min_three max_four min_four
set_option linter.unusedVariables false
set_option linter.unusedSimpArgs false
def laws_szIntS.f (l0 : List Int) (a1 : Int) : Option (Int) := if (wrap64 (a1 - (l0.length : Int))) < 0 then (some (-1)) else (some (wrap64 (a1 - (l0.length : Int))))
def laws_szBig.f (a0_0 : Bool) (l0_1 : List Int) (a1 : Int) : Option (Int) := (laws_szIntS.f l0_1 a1).bind fun t102 => (if t102 < 0 then (some (-1)) else (some t102))
def laws_toIntS.l0 : Nat → List Int → List Int → Int → Option (List Int)
  | 0, _, _, _ => none
  | k + 1, x0, x3, x4 => if x4 < (x0.length : Int) then (if 0 ≤ x4 then (if x4 < (x3.length : Int) then (laws_toIntS.l0 k x0 (x3.set (x4 : Int).toNat (rd x0 x4)) (wrap64 (x4 + 1))) else (none)) else (none)) else (some x3)
def laws_toIntS.f (k : Nat) (l0 : List Int) : Option (List Int) := if 0 ≤ (l0.length : Int) then (if ((l0.length : Int) : Int).toNat ≤ 35184372088832 then (laws_toIntS.l0 k l0 (List.replicate ((l0.length : Int) : Int).toNat 0) 0) else (none)) else (none)
def laws_toBig.f (k : Nat) (a0_0 : Bool) (l0_1 : List Int) : Option (Bool × List Int) := (laws_toIntS.f k l0_1).bind fun t133 => (some (a0_0, t133))
def laws_eqIntS.l0 : Nat → List Int → List Int → Int → Option (Bool)
  | 0, _, _, _ => none
  | k + 1, x0, x1, x5 => if x5 < (x0.length : Int) then (if 0 ≤ x5 then (if x5 < (x1.length : Int) then (if (rd x0 x5) = (rd x1 x5) then (laws_eqIntS.l0 k x0 x1 (wrap64 (x5 + 1))) else (some false)) else (none)) else (none)) else (some true)
def laws_eqIntS.f (k : Nat) (l0 : List Int) (l1 : List Int) : Option (Bool) := if (l0.length : Int) = (l1.length : Int) then (laws_eqIntS.l0 k l0 l1 0) else (some false)
set_option maxHeartbeats 8000000 in
set_option maxRecDepth 100000 in
theorem laws_eqIntS.calls (k : Nat) (A0 : Option Addr) (c0 : Nat) (l0 : List Int) (A1 : Option Addr) (c1 : Nat) (l1 : List Int) (r : Bool) (w : World) (hr0 : Kd.C (Kd.int .i64) w A0 l0.length l0) (hc0 : l0.length ≤ c0) (hr1 : Kd.C (Kd.int .i64) w A1 l1.length l1) (hc1 : l1.length ≤ c1) (h : laws_eqIntS.f k l0 l1 = some r) :
    Calls Tryd.prog 37 #[.slice A0 l0.length c0, .slice A1 l1.length c1] w fun e w' => e = .returned (.bool r) ∧ Drawn0 w w' := by
  have HR0 := Aside0.mk hr0
  have HC0 := Aside0.mk hc0
  clear hr0 hc0
  have HR1 := Aside0.mk hr1
  have HC1 := Aside0.mk hc1
  clear hr1 hc1
  have H : (if (l0.length : Int) = (l1.length : Int) then (laws_eqIntS.l0 k l0 l1 0) else (some false)) = some r := h
  clear h
  by_cases c3 : (l0.length : Int) = (l1.length : Int)
  · rw [if_pos c3] at H
    have c3b0 : ((l0.length : Int) == (l1.length : Int)) = true := beq_iff_eq.mpr c3
    have c3b1 : ((l0.length : Int) != (l1.length : Int)) = false := bne_eq_false_iff_eq.mpr c3
    have c3b2 : (l0.length == l1.length) = true := by first | simpa using c3 | (simp at c3 ⊢; omega)
    clear c3
    have H' := Aside0.mk H
    clear H
    go_enter Tryd.func37, Tryd.ntmps37
    go_wp2
    repeat (go_quiet (fail); try go_wp2)
    go_loopg [5] k (fun kq v5 w' => ∃ (x5_1 : Int), v5 = .int .i64 x5_1 ∧ Aside0 (laws_eqIntS.l0 kq l0 l1 x5_1 = some r) ∧ Aside0 (kq ≤ k) ∧ Drawn0 w w')
    case atStart => exact ⟨(0), (by first | rfl | (simp; done) | (simp [*]; done)), H', ⟨Nat.le_refl _⟩, by repeat (first | exact Drawn0.refl _ | apply Drawn0.step)⟩
    case round =>
      clear H'
      try clear c1
      try clear p2
      try clear c3
      try clear c3b0
      try clear c3b1
      try clear c3b2
      obtain ⟨x5_1, rfl, HA, HK1, ⟨m1, rfl⟩⟩ := hrel
      cases gk with
      | zero => exact absurd HA.out (by simp [laws_eqIntS.l0])
      | succ k1 =>
        have H := HA.out
        clear HA
        simp only [laws_eqIntS.l0] at H
        by_cases c4 : x5_1 < (l0.length : Int)
        · rw [if_pos c4] at H
          have c4b0 : decide (x5_1 < (l0.length : Int)) = true := decide_eq_true c4
          clear c4
          by_cases c5 : 0 ≤ x5_1
          · rw [if_pos c5] at H
            have c5b0 : decide (0 ≤ x5_1) = true := decide_eq_true c5
            clear c5
            by_cases c6 : x5_1 < (l1.length : Int)
            · rw [if_pos c6] at H
              have c6b0 : decide (x5_1 < (l1.length : Int)) = true := decide_eq_true c6
              clear c6
              by_cases c7 : (rd l0 x5_1) = (rd l1 x5_1)
              · rw [if_pos c7] at H
                have c7b0 : ((rd l0 x5_1) == (rd l1 x5_1)) = true := beq_iff_eq.mpr c7
                have c7b1 : ((rd l0 x5_1) != (rd l1 x5_1)) = false := bne_eq_false_iff_eq.mpr c7
                clear c7
                have H' := Aside0.mk H
                clear H
                have p168 : 0 ≤ (x5_1 : Int) := of_decide_eq_true (by first | (with_reducible assumption) | assumption)
                have q168 : x5_1 < (l0.length : Int) := of_decide_eq_true (by first | (with_reducible assumption) | assumption)
                obtain ⟨ad168, e168, hx168_0⟩ := Kd.at_int HR0.out x5_1 p168 q168
                cases e168
                replace p168 := eq_true p168
                replace q168 := eq_true q168
                have p169 : 0 ≤ (x5_1 : Int) := of_decide_eq_true (by first | (with_reducible assumption) | assumption)
                have q169 : x5_1 < (l1.length : Int) := of_decide_eq_true (by first | (with_reducible assumption) | assumption)
                obtain ⟨ad169, e169, hx169_0⟩ := Kd.at_int HR1.out x5_1 p169 q169
                cases e169
                replace p169 := eq_true p169
                replace q169 := eq_true q169
                go_wp2
                repeat (go_quiet (fail); try go_wp2)
                go_roundg k1
                case measure => have := HK1.out; omega
                case rel => exact ⟨(wrap64 (x5_1 + 1)), (by first | rfl | (simp; done) | (simp [*]; done)), H', ⟨by have := HK1.out; omega⟩, by repeat (first | exact Drawn0.refl _ | apply Drawn0.step)⟩
              · rw [if_neg c7] at H
                have c7b0 : ((rd l0 x5_1) == (rd l1 x5_1)) = false := beq_eq_false_iff_ne.mpr c7
                have c7b1 : ((rd l0 x5_1) != (rd l1 x5_1)) = true := bne_iff_ne.mpr c7
                obtain rfl := Option.some.inj H
                have p168 : 0 ≤ (x5_1 : Int) := of_decide_eq_true (by first | (with_reducible assumption) | assumption)
                have q168 : x5_1 < (l0.length : Int) := of_decide_eq_true (by first | (with_reducible assumption) | assumption)
                obtain ⟨ad168, e168, hx168_0⟩ := Kd.at_int HR0.out x5_1 p168 q168
                cases e168
                replace p168 := eq_true p168
                replace q168 := eq_true q168
                have p169 : 0 ≤ (x5_1 : Int) := of_decide_eq_true (by first | (with_reducible assumption) | assumption)
                have q169 : x5_1 < (l1.length : Int) := of_decide_eq_true (by first | (with_reducible assumption) | assumption)
                obtain ⟨ad169, e169, hx169_0⟩ := Kd.at_int HR1.out x5_1 p169 q169
                cases e169
                replace p169 := eq_true p169
                replace q169 := eq_true q169
                go_wp2
                repeat (go_quiet (fail); try go_wp2)
                go_ret
                exact ⟨by first | rfl | (simp; done) | (simp [*]; done), by repeat (first | exact Drawn0.refl _ | apply Drawn0.step)⟩
            · rw [if_neg c6] at H
              exact absurd H (by simp)
          · rw [if_neg c5] at H
            exact absurd H (by simp)
        · rw [if_neg c4] at H
          have c4b0 : decide (x5_1 < (l0.length : Int)) = false := decide_eq_false c4
          clear c4
          obtain rfl := Option.some.inj H
          go_wp2
          repeat (go_quiet (fail); try go_wp2)
          go_ret
          exact ⟨by first | rfl | (simp; done) | (simp [*]; done), by repeat (first | exact Drawn0.refl _ | apply Drawn0.step)⟩
  · rw [if_neg c3] at H
    have c3b0 : ((l0.length : Int) == (l1.length : Int)) = false := beq_eq_false_iff_ne.mpr c3
    have c3b1 : ((l0.length : Int) != (l1.length : Int)) = true := bne_iff_ne.mpr c3
    have c3b2 : (l0.length == l1.length) = false := by first | simpa using c3 | (simp at c3 ⊢; omega)
    obtain rfl := Option.some.inj H
    go_enter Tryd.func37, Tryd.ntmps37
    go_wp2
    repeat (go_quiet (fail); try go_wp2)
    go_ret
    exact ⟨by first | rfl | (simp; done) | (simp [*]; done), by repeat (first | exact Drawn0.refl _ | apply Drawn0.step)⟩
def laws_eqBig.f (k : Nat) (a0_0 : Bool) (l0_1 : List Int) (a1_0 : Bool) (l1_1 : List Int) : Option (Bool) := if (a0_0 != a1_0) = true then (some false) else ((laws_eqIntS.f k l0_1 l1_1).bind fun t172 => (if t172 = true then (some true) else (some false)))
set_option maxHeartbeats 8000000 in
set_option maxRecDepth 100000 in
theorem laws_eqBig.calls (k : Nat) (a0_0 : Bool) (A0_1 : Option Addr) (c0_1 : Nat) (l0_1 : List Int) (a1_0 : Bool) (A1_1 : Option Addr) (c1_1 : Nat) (l1_1 : List Int) (r : Bool) (w : World) (hr0_1 : Kd.C (Kd.int .i64) w A0_1 l0_1.length l0_1) (hc0_1 : l0_1.length ≤ c0_1) (hr1_1 : Kd.C (Kd.int .i64) w A1_1 l1_1.length l1_1) (hc1_1 : l1_1.length ≤ c1_1) (h : laws_eqBig.f k a0_0 l0_1 a1_0 l1_1 = some r) :
    Calls Tryd.prog 13 #[.agg #[.bool a0_0, .slice A0_1 l0_1.length c0_1], .agg #[.bool a1_0, .slice A1_1 l1_1.length c1_1]] w fun e w' => e = .returned (.bool r) ∧ Below w.heap.size w w' := by
  have hu27 := Tryd.underlying27
  have HR0_1 := Aside0.mk hr0_1
  have HC0_1 := Aside0.mk hc0_1
  clear hr0_1 hc0_1
  have HR1_1 := Aside0.mk hr1_1
  have HC1_1 := Aside0.mk hc1_1
  clear hr1_1 hc1_1
  have HB := Aside0.mk (Below.refl w.heap.size w)
  have H : (if (a0_0 != a1_0) = true then (some false) else ((laws_eqIntS.f k l0_1 l1_1).bind fun t172 => (if t172 = true then (some true) else (some false)))) = some r := h
  clear h
  by_cases c3 : (a0_0 != a1_0) = true
  · rw [if_pos c3] at H
    have c3b0 : (a0_0 != a1_0) = true := c3
    (try (have c3b1 : decide (a0_0 = a1_0) = false := by simpa using c3))
    (try (have c3b2 : (a0_0 == a1_0) = false := by simpa using c3))
    (try (have c3b3 : ¬ (a0_0 = a1_0) := by simpa using c3))
    clear c3
    obtain rfl := Option.some.inj H
    go_enter Tryd.func13, Tryd.ntmps13
    go_wp2_with (first | ((with_reducible refine gate_dst (N := 2) rfl ?_); refine box_event ?hg (N := 2) ?hd (cs := #[.bool a0_0, .slice A0_1 l0_1.length c0_1]) (t := 27) ?hr ?_; (case hd => rfl); (case hg => rfl); (case hr => first | (go_simp; done) | (go_simp; rfl)); intro gb170 hg w4 hbox hb; have n0_ := Aside0.mk (below_step zb hb); have n1_ := Aside0.mk (hbox); have n2_ := Aside0.mk ((by rw [hg]; exact (below_size zb) : w.heap.size ≤ gb170)); have n3_ := Aside0.mk ((by rw [hg]; exact (below_size zb) : w.heap.size ≤ gb170)); clear HB; have HB := n0_; have BK170 := n1_; have GW170 := n2_; have GE170 := n3_; clear n0_ n1_ n2_ n3_; clear hb hbox hg) | ((with_reducible refine gate_dst (N := 3) rfl ?_); refine box_event ?hg (N := 3) ?hd (cs := #[.bool a1_0, .slice A1_1 l1_1.length c1_1]) (t := 27) ?hr ?_; (case hd => rfl); (case hg => rfl); (case hr => first | (go_simp; done) | (go_simp; rfl)); intro gb171 hg w5 hbox hb; have n0_ := Aside0.mk (blk_below (g := gb170) (o := .cells #[.bool a0_0, .slice A0_1 l0_1.length c0_1] 27 (0, 0)) (zk BK170.out) hb); have n1_ := Aside0.mk (below_step zb hb); have n2_ := Aside0.mk (hbox); have n3_ := Aside0.mk ((by rw [hg]; exact (below_size zb) : w.heap.size ≤ gb171)); have n4_ := Aside0.mk ((by rw [hg]; exact (below_size zb) : w.heap.size ≤ gb171)); have n5_ := Aside0.mk ((by rw [hg]; exact Nat.ne_of_lt (blk_lt (g := gb170) (o := .cells #[.bool a0_0, .slice A0_1 l0_1.length c0_1] 27 (0, 0)) (zk BK170.out)) : gb170 ≠ gb171)); have n6_ := Aside0.mk ((by rw [hg]; exact Nat.ne_of_gt (blk_lt (g := gb170) (o := .cells #[.bool a0_0, .slice A0_1 l0_1.length c0_1] 27 (0, 0)) (zk BK170.out)) : gb171 ≠ gb170)); clear BK170; clear HB; have BK170 := n0_; have HB := n1_; have BK171 := n2_; have GW171 := n3_; have GE171 := n4_; have NB170_171 := n5_; have NB171_170 := n6_; clear n0_ n1_ n2_ n3_ n4_ n5_ n6_; clear hb hbox hg; have hnb6 := NB170_171.out; have hnc6 := NB171_170.out; have hcz7_0 : w5.cell? ⟨gb170, 0, none⟩ = some (.bool a0_0) := (blk_cell BK170.out 0).trans rfl; have hcz7_1 : w5.cell? ⟨gb170, 1, none⟩ = some (.slice A0_1 l0_1.length c0_1) := (blk_cell BK170.out 1).trans rfl; have hfz7_0 := blk_frozen BK170.out 0; have hfz7_1 := blk_frozen BK170.out 1; have hcz8_0 : w5.cell? ⟨gb171, 0, none⟩ = some (.bool a1_0) := (blk_cell BK171.out 0).trans rfl; have hcz8_1 : w5.cell? ⟨gb171, 1, none⟩ = some (.slice A1_1 l1_1.length c1_1) := (blk_cell BK171.out 1).trans rfl; have hfz8_0 := blk_frozen BK171.out 0; have hfz8_1 := blk_frozen BK171.out 1))
    go_ret
    exact ⟨by first | rfl | (simp [errW_none, errW_some] <;> rfl) | (simp [*, errW_none, errW_some] <;> rfl), zb⟩
  · rw [if_neg c3] at H
    have c3b0 : (a0_0 != a1_0) = false := by simpa using c3
    (try (have c3b1 : decide (a0_0 = a1_0) = true := by simpa using c3))
    (try (have c3b2 : (a0_0 == a1_0) = true := by simpa using c3))
    clear c3
    replace H := Option.bind_eq_some_iff.mp H
    obtain ⟨t172, A90, H⟩ := H
    replace H : (if t172 = true then (some true) else (some false)) = some r := H
    have A9 := Aside0.mk A90
    clear A90
    by_cases c10 : t172 = true
    · subst c10
      have H1 : (some true) = some r := by rw [if_pos rfl] at H; exact H
      clear H
      have H := H1
      clear H1
      obtain rfl := Option.some.inj H
      go_enter Tryd.func13, Tryd.ntmps13
      go_wp2_with (first | ((with_reducible refine gate_dst (N := 2) rfl ?_); refine box_event ?hg (N := 2) ?hd (cs := #[.bool a0_0, .slice A0_1 l0_1.length c0_1]) (t := 27) ?hr ?_; (case hd => rfl); (case hg => rfl); (case hr => first | (go_simp; done) | (go_simp; rfl)); intro gb170 hg w11 hbox hb; have n0_ := Aside0.mk (below_step zb hb); have n1_ := Aside0.mk (hbox); have n2_ := Aside0.mk ((by rw [hg]; exact (below_size zb) : w.heap.size ≤ gb170)); have n3_ := Aside0.mk ((by rw [hg]; exact (below_size zb) : w.heap.size ≤ gb170)); clear HB; have HB := n0_; have BK170 := n1_; have GW170 := n2_; have GE170 := n3_; clear n0_ n1_ n2_ n3_; clear hb hbox hg) | ((with_reducible refine gate_dst (N := 3) rfl ?_); refine box_event ?hg (N := 3) ?hd (cs := #[.bool a1_0, .slice A1_1 l1_1.length c1_1]) (t := 27) ?hr ?_; (case hd => rfl); (case hg => rfl); (case hr => first | (go_simp; done) | (go_simp; rfl)); intro gb171 hg w12 hbox hb; have n0_ := Aside0.mk (blk_below (g := gb170) (o := .cells #[.bool a0_0, .slice A0_1 l0_1.length c0_1] 27 (0, 0)) (zk BK170.out) hb); have n1_ := Aside0.mk (below_step zb hb); have n2_ := Aside0.mk (hbox); have n3_ := Aside0.mk ((by rw [hg]; exact (below_size zb) : w.heap.size ≤ gb171)); have n4_ := Aside0.mk ((by rw [hg]; exact (below_size zb) : w.heap.size ≤ gb171)); have n5_ := Aside0.mk ((by rw [hg]; exact Nat.ne_of_lt (blk_lt (g := gb170) (o := .cells #[.bool a0_0, .slice A0_1 l0_1.length c0_1] 27 (0, 0)) (zk BK170.out)) : gb170 ≠ gb171)); have n6_ := Aside0.mk ((by rw [hg]; exact Nat.ne_of_gt (blk_lt (g := gb170) (o := .cells #[.bool a0_0, .slice A0_1 l0_1.length c0_1] 27 (0, 0)) (zk BK170.out)) : gb171 ≠ gb170)); clear BK170; clear HB; have BK170 := n0_; have HB := n1_; have BK171 := n2_; have GW171 := n3_; have GE171 := n4_; have NB170_171 := n5_; have NB171_170 := n6_; clear n0_ n1_ n2_ n3_ n4_ n5_ n6_; clear hb hbox hg; have hnb13 := NB170_171.out; have hnc13 := NB171_170.out; have hcz14_0 : w12.cell? ⟨gb170, 0, none⟩ = some (.bool a0_0) := (blk_cell BK170.out 0).trans rfl; have hcz14_1 : w12.cell? ⟨gb170, 1, none⟩ = some (.slice A0_1 l0_1.length c0_1) := (blk_cell BK170.out 1).trans rfl; have hfz14_0 := blk_frozen BK170.out 0; have hfz14_1 := blk_frozen BK170.out 1; have hcz15_0 : w12.cell? ⟨gb171, 0, none⟩ = some (.bool a1_0) := (blk_cell BK171.out 0).trans rfl; have hcz15_1 : w12.cell? ⟨gb171, 1, none⟩ = some (.slice A1_1 l1_1.length c1_1) := (blk_cell BK171.out 1).trans rfl; have hfz15_0 := blk_frozen BK171.out 0; have hfz15_1 := blk_frozen BK171.out 1) | ((with_reducible refine gate_callee (f := 37) rfl ?_); refine goesL_ (some 14) rfl rfl Tryd.func37 (by kernel_rfl) rfl #[.slice A0_1 l0_1.length c0_1, .slice A1_1 l1_1.length c1_1] rfl za ?_; (with_reducible refine (laws_eqIntS.calls k _ _ l0_1 _ _ l1_1 true _ ?side1 ?side2 ?side3 ?side4 A9.out).mono ?_); (case side1 => repeat (first | exact (Kd.C_below HR0_1.out HB.out) | (with_reducible refine Kd.C_alloc ?_ _) | (with_reducible refine Kd.C_drewN ?_ _) | (with_reducible refine Kd.C_drew ?_))); (case side2 => exact HC0_1.out); (case side3 => repeat (first | exact (Kd.C_below HR1_1.out HB.out) | (with_reducible refine Kd.C_alloc ?_ _) | (with_reducible refine Kd.C_drewN ?_ _) | (with_reducible refine Kd.C_drew ?_))); (case side4 => exact HC1_1.out); rintro e w' ⟨rfl, ⟨nd, rfl⟩⟩; refine ⟨_, rfl, ?_⟩))
      go_ret
      exact ⟨by first | rfl | (simp [errW_none, errW_some] <;> rfl) | (simp [*, errW_none, errW_some] <;> rfl), zb⟩
    · replace c10 := Bool.eq_false_iff.mpr c10
      subst c10
      have H1 : (some false) = some r := by rw [if_neg (show ¬ (false = true) by decide)] at H; exact H
      clear H
      have H := H1
      clear H1
      obtain rfl := Option.some.inj H
      go_enter Tryd.func13, Tryd.ntmps13
      go_wp2_with (first | ((with_reducible refine gate_dst (N := 2) rfl ?_); refine box_event ?hg (N := 2) ?hd (cs := #[.bool a0_0, .slice A0_1 l0_1.length c0_1]) (t := 27) ?hr ?_; (case hd => rfl); (case hg => rfl); (case hr => first | (go_simp; done) | (go_simp; rfl)); intro gb170 hg w16 hbox hb; have n0_ := Aside0.mk (below_step zb hb); have n1_ := Aside0.mk (hbox); have n2_ := Aside0.mk ((by rw [hg]; exact (below_size zb) : w.heap.size ≤ gb170)); have n3_ := Aside0.mk ((by rw [hg]; exact (below_size zb) : w.heap.size ≤ gb170)); clear HB; have HB := n0_; have BK170 := n1_; have GW170 := n2_; have GE170 := n3_; clear n0_ n1_ n2_ n3_; clear hb hbox hg) | ((with_reducible refine gate_dst (N := 3) rfl ?_); refine box_event ?hg (N := 3) ?hd (cs := #[.bool a1_0, .slice A1_1 l1_1.length c1_1]) (t := 27) ?hr ?_; (case hd => rfl); (case hg => rfl); (case hr => first | (go_simp; done) | (go_simp; rfl)); intro gb171 hg w17 hbox hb; have n0_ := Aside0.mk (blk_below (g := gb170) (o := .cells #[.bool a0_0, .slice A0_1 l0_1.length c0_1] 27 (0, 0)) (zk BK170.out) hb); have n1_ := Aside0.mk (below_step zb hb); have n2_ := Aside0.mk (hbox); have n3_ := Aside0.mk ((by rw [hg]; exact (below_size zb) : w.heap.size ≤ gb171)); have n4_ := Aside0.mk ((by rw [hg]; exact (below_size zb) : w.heap.size ≤ gb171)); have n5_ := Aside0.mk ((by rw [hg]; exact Nat.ne_of_lt (blk_lt (g := gb170) (o := .cells #[.bool a0_0, .slice A0_1 l0_1.length c0_1] 27 (0, 0)) (zk BK170.out)) : gb170 ≠ gb171)); have n6_ := Aside0.mk ((by rw [hg]; exact Nat.ne_of_gt (blk_lt (g := gb170) (o := .cells #[.bool a0_0, .slice A0_1 l0_1.length c0_1] 27 (0, 0)) (zk BK170.out)) : gb171 ≠ gb170)); clear BK170; clear HB; have BK170 := n0_; have HB := n1_; have BK171 := n2_; have GW171 := n3_; have GE171 := n4_; have NB170_171 := n5_; have NB171_170 := n6_; clear n0_ n1_ n2_ n3_ n4_ n5_ n6_; clear hb hbox hg; have hnb18 := NB170_171.out; have hnc18 := NB171_170.out; have hcz19_0 : w17.cell? ⟨gb170, 0, none⟩ = some (.bool a0_0) := (blk_cell BK170.out 0).trans rfl; have hcz19_1 : w17.cell? ⟨gb170, 1, none⟩ = some (.slice A0_1 l0_1.length c0_1) := (blk_cell BK170.out 1).trans rfl; have hfz19_0 := blk_frozen BK170.out 0; have hfz19_1 := blk_frozen BK170.out 1; have hcz20_0 : w17.cell? ⟨gb171, 0, none⟩ = some (.bool a1_0) := (blk_cell BK171.out 0).trans rfl; have hcz20_1 : w17.cell? ⟨gb171, 1, none⟩ = some (.slice A1_1 l1_1.length c1_1) := (blk_cell BK171.out 1).trans rfl; have hfz20_0 := blk_frozen BK171.out 0; have hfz20_1 := blk_frozen BK171.out 1) | ((with_reducible refine gate_callee (f := 37) rfl ?_); refine goesL_ (some 14) rfl rfl Tryd.func37 (by kernel_rfl) rfl #[.slice A0_1 l0_1.length c0_1, .slice A1_1 l1_1.length c1_1] rfl za ?_; (with_reducible refine (laws_eqIntS.calls k _ _ l0_1 _ _ l1_1 false _ ?side1 ?side2 ?side3 ?side4 A9.out).mono ?_); (case side1 => repeat (first | exact (Kd.C_below HR0_1.out HB.out) | (with_reducible refine Kd.C_alloc ?_ _) | (with_reducible refine Kd.C_drewN ?_ _) | (with_reducible refine Kd.C_drew ?_))); (case side2 => exact HC0_1.out); (case side3 => repeat (first | exact (Kd.C_below HR1_1.out HB.out) | (with_reducible refine Kd.C_alloc ?_ _) | (with_reducible refine Kd.C_drewN ?_ _) | (with_reducible refine Kd.C_drew ?_))); (case side4 => exact HC1_1.out); rintro e w' ⟨rfl, ⟨nd, rfl⟩⟩; refine ⟨_, rfl, ?_⟩))
      go_ret
      exact ⟨by first | rfl | (simp [errW_none, errW_some] <;> rfl) | (simp [*, errW_none, errW_some] <;> rfl), zb⟩
def laws_szDec.f (a0_0 : Bool) (l0_1 : List Int) (a0_2 : Int) (a1 : Int) : Option (Int) := (laws_szBig.f a0_0 l0_1 a1).bind fun t192 => (if t192 < 0 then (some (-1)) else (some t192))
def laws_toDec.f (k : Nat) (a0_0 : Bool) (l0_1 : List Int) (a0_2 : Int) : Option (Bool × List Int × Int) := (laws_toBig.f k a0_0 l0_1).bind fun bt203 => (some (bt203.1, bt203.2, a0_2))
def laws_eqDec.f (k : Nat) (a0_0 : Bool) (l0_1 : List Int) (a0_2 : Int) (a1_0 : Bool) (l1_1 : List Int) (a1_2 : Int) : Option (Bool) := (laws_eqBig.f k a0_0 l0_1 a1_0 l1_1).bind fun t214 => (if t214 = true then (if a0_2 = a1_2 then (some true) else (some false)) else (some false))
end Go.Proofs.YtdbgpoileffbeaaDoor.Pr
end
section
namespace Go.Proofs.YtdbgpoileffbeaaDoor.Pr
open Go.RowKit Go.Proofs.YtdbgpoileffbeaaDoorW.PrintWords Go.Proofs.YtdbgpoileffbeaaDoorW.PrintLast Go.Proofs.YtdbgpoileffbeaaDoor.Ext Go.Proofs.YtdbgpoileffbeaaDoorW.PrintMore
attribute [local go_sem] max2_int min2_int max_two min_two max_three min_three max_four min_four
set_option linter.unusedVariables false
set_option linter.unusedSimpArgs false
def spec_l1In.f (a0 : Int) (a1 : Int) (a2 : Int) : Option (Bool) := if a0 ≥ a1 then (some (decide (a0 ≤ a2))) else (some false)
mutual
def spec_l1Ok.j0 : Nat → Bool → Bool → List Int → Option (Bool)
  | 0, _, _, _ => none
  | k + 1, x17, x104000, x104001 => if x17 = true then (some false) else (spec_l1Ok.l0 k 0 x104000 x104001)
def spec_l1Ok.l0 : Nat → Int → Bool → List Int → Option (Bool)
  | 0, _, _, _ => none
  | k + 1, x3, x104000, x104001 => if x3 < (x104001.length : Int) then (if 0 ≤ x3 then ((spec_l1In.f (rd x104001 x3) 0 9999).bind fun t105 => (if t105 = true then (spec_l1Ok.l0 k (wrap64 (x3 + 1)) x104000 x104001) else (some false))) else (none)) else (if (x104001.length : Int) = 0 then (some true) else (if 0 ≤ (wrap64 ((x104001.length : Int) - 1)) then (if (wrap64 ((x104001.length : Int) - 1)) < (x104001.length : Int) then (some ((rd x104001 (wrap64 ((x104001.length : Int) - 1))) != 0)) else (none)) else (none)))
end
def spec_l1Ok.f (k : Nat) (a0_0 : Bool) (l0_1 : List Int) : Option (Bool) := if (l0_1.length : Int) > 16 then (spec_l1Ok.j0 k true a0_0 l0_1) else (if a0_0 = true then (spec_l1Ok.j0 k ((l0_1.length : Int) == 0) a0_0 l0_1) else (spec_l1Ok.j0 k false a0_0 l0_1))
def spec_l1Dec.f : Nat → Int → Option (ByteArray)
  | 0, _ => none
  | k + 1, a0 => if a0 < (-9223372036854775807) then (some (⟨#[45, 57, 50, 50, 51, 51, 55, 50, 48, 51, 54, 56, 53, 52, 55, 55, 53, 56, 48, 56]⟩ : ByteArray)) else (if a0 < 0 then ((spec_l1Dec.f k (wrap64 (-a0))).bind fun t107 => (if 1 + t107.size ≤ 9223372036854775807 then (some ((⟨#[45]⟩ : ByteArray) ++ t107)) else (none))) else (if a0 < 10 then (some (strOfNums (([(wrap64 (48 + a0)) % 256] : List Int)))) else ((spec_l1Dec.f k (wrap64 (Int.tdiv a0 10))).bind fun t111 => ((some (([(wrap64 (48 + (Int.tmod a0 10))) % 256] : List Int) : List Int)).bind fun y112 => (if t111.size + (strOfNums y112).size ≤ 9223372036854775807 then (some (t111 ++ (strOfNums y112))) else (none))))))
def spec_l1Wide.l0 : Nat → Int → ByteArray → Option (ByteArray)
  | 0, _, _ => none
  | k + 1, x1, x5 => if (x5.size : Int) < x1 then (if 1 + x5.size ≤ 9223372036854775807 then (spec_l1Wide.l0 k x1 ((⟨#[48]⟩ : ByteArray) ++ x5)) else (none)) else (some x5)
def spec_l1Wide.f (k : Nat) (a0 : Int) (a1 : Int) : Option (ByteArray) := (spec_l1Dec.f k a0).bind fun t115 => (spec_l1Wide.l0 k a1 t115)
def spec_l1Figures.l0 : Nat → List Int → ByteArray → Int → Option (ByteArray)
  | 0, _, _, _ => none
  | k + 1, x0, x3, x4 => if x4 ≥ 0 then (if 0 ≤ x4 then (if x4 < (x0.length : Int) then ((spec_l1Wide.f k (rd x0 x4) 4).bind fun t119 => (if x3.size + t119.size ≤ 9223372036854775807 then (spec_l1Figures.l0 k x0 (x3 ++ t119) (wrap64 (x4 - 1))) else (none))) else (none)) else (none)) else (some x3)
def spec_l1Figures.f (k : Nat) (l0 : List Int) : Option (ByteArray) := if (l0.length : Int) = 0 then (some (⟨#[48]⟩ : ByteArray)) else (if 0 ≤ (wrap64 ((l0.length : Int) - 1)) then (if (wrap64 ((l0.length : Int) - 1)) < (l0.length : Int) then ((spec_l1Dec.f k (rd l0 (wrap64 ((l0.length : Int) - 1)))).bind fun t117 => (spec_l1Figures.l0 k l0 t117 (wrap64 ((l0.length : Int) - 2)))) else (none)) else (none))
def spec_l1Put.f (k : Nat) (a0_0 : Bool) (l0_1 : List Int) : Option (ByteArray) := (spec_l1Figures.f k l0_1).bind fun t121 => (if a0_0 = true then (if 1 + t121.size ≤ 9223372036854775807 then (some ((⟨#[45]⟩ : ByteArray) ++ t121)) else (none)) else (some t121))
def spec_BigPut.f (k : Nat) (a0_0 : Bool) (l0_1 : List Int) : Option (ByteArray) := (spec_l1Ok.f k a0_0 l0_1).bind fun t123 => (if t123 = true then ((spec_l1Put.f k a0_0 l0_1).bind fun t124 => (some t124)) else (some (⟨#[]⟩ : ByteArray)))
def spec_l1Long.f (k : Nat) (l0 : List Int) : Option (Int) := if (l0.length : Int) = 0 then (some 0) else ((spec_l1Figures.f k l0).bind fun t193 => (some (t193.size : Int)))
def spec_l2Ok.f (k : Nat) (a0_0 : Bool) (l0_1 : List Int) (a0_2 : Int) : Option (Bool) := (spec_l1Ok.f k a0_0 l0_1).bind fun t195 => (if t195 = true then ((spec_l1Long.f k l0_1).bind fun t196 => (if t196 ≤ 30 then ((spec_l1In.f a0_2 0 12).bind fun t197 => (some t197)) else (some false))) else (some false))
def spec_DecOk.f (k : Nat) (a0_0 : Bool) (l0_1 : List Int) (a0_2 : Int) : Option (Bool) := (spec_l2Ok.f k a0_0 l0_1 a0_2).bind fun t199 => (some t199)
def spec_l2Put.l0 : Nat → ByteArray → Bool → List Int → Int → Option (ByteArray)
  | 0, _, _, _, _ => none
  | k + 1, x3, x237000, x237001, x237002 => if (x3.size : Int) ≤ x237002 then (if 1 + x3.size ≤ 9223372036854775807 then (spec_l2Put.l0 k ((⟨#[48]⟩ : ByteArray) ++ x3) x237000 x237001 x237002) else (none)) else (if x237002 > 0 then (if 0 ≤ (wrap64 ((x3.size : Int) - x237002)) then (if (wrap64 ((x3.size : Int) - x237002)) ≤ (x3.size : Int) then (if (x3.extract 0 ((wrap64 ((x3.size : Int) - x237002)) : Int).toNat).size + 1 ≤ 9223372036854775807 then (if ((x3.extract 0 ((wrap64 ((x3.size : Int) - x237002)) : Int).toNat) ++ (⟨#[46]⟩ : ByteArray)).size + (x3.extract ((wrap64 ((x3.size : Int) - x237002)) : Int).toNat x3.size).size ≤ 9223372036854775807 then (if x237000 = true then (if 1 + (((x3.extract 0 ((wrap64 ((x3.size : Int) - x237002)) : Int).toNat) ++ (⟨#[46]⟩ : ByteArray)) ++ (x3.extract ((wrap64 ((x3.size : Int) - x237002)) : Int).toNat x3.size)).size ≤ 9223372036854775807 then (some ((⟨#[45]⟩ : ByteArray) ++ (((x3.extract 0 ((wrap64 ((x3.size : Int) - x237002)) : Int).toNat) ++ (⟨#[46]⟩ : ByteArray)) ++ (x3.extract ((wrap64 ((x3.size : Int) - x237002)) : Int).toNat x3.size)))) else (none)) else (some (((x3.extract 0 ((wrap64 ((x3.size : Int) - x237002)) : Int).toNat) ++ (⟨#[46]⟩ : ByteArray)) ++ (x3.extract ((wrap64 ((x3.size : Int) - x237002)) : Int).toNat x3.size)))) else (none)) else (none)) else (none)) else (none)) else (if x237000 = true then (if 1 + x3.size ≤ 9223372036854775807 then (some ((⟨#[45]⟩ : ByteArray) ++ x3)) else (none)) else (some x3)))
def spec_l2Put.f (k : Nat) (a0_0 : Bool) (l0_1 : List Int) (a0_2 : Int) : Option (ByteArray) := (spec_l1Figures.f k l0_1).bind fun t237 => (spec_l2Put.l0 k t237 a0_0 l0_1 a0_2)
def spec_DecPut.f (k : Nat) (a0_0 : Bool) (l0_1 : List Int) (a0_2 : Int) : Option (ByteArray) := (spec_l2Ok.f k a0_0 l0_1 a0_2).bind fun t239 => (if t239 = true then ((spec_l2Put.f k a0_0 l0_1 a0_2).bind fun t240 => (some t240)) else (some (⟨#[]⟩ : ByteArray)))
end Go.Proofs.YtdbgpoileffbeaaDoor.Pr
end
section
namespace Go.Proofs.YtdbgpoileffbeaaDoor.Pr
open Go.RowKit Go.Proofs.YtdbgpoileffbeaaDoorW.PrintWords Go.Proofs.YtdbgpoileffbeaaDoorW.PrintLast Go.Proofs.YtdbgpoileffbeaaDoor.Ext Go.Proofs.YtdbgpoileffbeaaDoorW.PrintMore
attribute [local go_sem] max2_int min2_int max_two min_two max_three min_three max_four min_four
set_option linter.unusedVariables false
set_option linter.unusedSimpArgs false
def impl_BigOk.f (a0_0 : Bool) (l0_1 : List Int) : Option (Bool) := if (l0_1.length : Int) ≤ 16 then (if (l0_1.length : Int) = 0 then (if a0_0 = true then (if (l0_1.length : Int) > 0 then (if 0 ≤ (wrap64 ((l0_1.length : Int) - 1)) then (if (wrap64 ((l0_1.length : Int) - 1)) < (l0_1.length : Int) then (if (rd l0_1 (wrap64 ((l0_1.length : Int) - 1))) = 0 then (some false) else ((containsBad.f l0_1).bind fun t138 => (some (!t138)))) else (none)) else (none)) else (some false)) else ((containsBad.f l0_1).bind fun t139 => (some (!t139)))) else (if (l0_1.length : Int) > 0 then (if 0 ≤ (wrap64 ((l0_1.length : Int) - 1)) then (if (wrap64 ((l0_1.length : Int) - 1)) < (l0_1.length : Int) then (if (rd l0_1 (wrap64 ((l0_1.length : Int) - 1))) = 0 then (some false) else ((containsBad.f l0_1).bind fun t141 => (some (!t141)))) else (none)) else (none)) else (some false))) else (some false)
set_option maxHeartbeats 8000000 in
set_option maxRecDepth 100000 in
theorem impl_BigOk.calls (a0_0 : Bool) (A0_1 : Option Addr) (c0_1 : Nat) (l0_1 : List Int) (r : Bool) (w : World) (hr0_1 : Kd.C (Kd.int .i64) w A0_1 l0_1.length l0_1) (hc0_1 : l0_1.length ≤ c0_1) (h : impl_BigOk.f a0_0 l0_1 = some r) :
    Calls Tryd.prog 27 #[.agg #[.bool a0_0, .slice A0_1 l0_1.length c0_1]] w fun e w' => e = .returned (.bool r) ∧ Below w.heap.size w w' := by
  have hu27 := Tryd.underlying27
  have HR0_1 := Aside0.mk hr0_1
  have HC0_1 := Aside0.mk hc0_1
  clear hr0_1 hc0_1
  have HB := Aside0.mk (Below.refl w.heap.size w)
  have H : (if (l0_1.length : Int) ≤ 16 then (if (l0_1.length : Int) = 0 then (if a0_0 = true then (if (l0_1.length : Int) > 0 then (if 0 ≤ (wrap64 ((l0_1.length : Int) - 1)) then (if (wrap64 ((l0_1.length : Int) - 1)) < (l0_1.length : Int) then (if (rd l0_1 (wrap64 ((l0_1.length : Int) - 1))) = 0 then (some false) else ((containsBad.f l0_1).bind fun t138 => (some (!t138)))) else (none)) else (none)) else (some false)) else ((containsBad.f l0_1).bind fun t139 => (some (!t139)))) else (if (l0_1.length : Int) > 0 then (if 0 ≤ (wrap64 ((l0_1.length : Int) - 1)) then (if (wrap64 ((l0_1.length : Int) - 1)) < (l0_1.length : Int) then (if (rd l0_1 (wrap64 ((l0_1.length : Int) - 1))) = 0 then (some false) else ((containsBad.f l0_1).bind fun t141 => (some (!t141)))) else (none)) else (none)) else (some false))) else (some false)) = some r := h
  clear h
  by_cases c2 : (l0_1.length : Int) ≤ 16
  · rw [if_pos c2] at H
    have c2b0 : decide ((l0_1.length : Int) ≤ 16) = true := decide_eq_true c2
    have c2b1 : decide (l0_1.length ≤ 16) = true := decide_eq_true (by omega)
    clear c2
    by_cases c3 : (l0_1.length : Int) = 0
    · rw [if_pos c3] at H
      have c3b0 : ((l0_1.length : Int) == 0) = true := beq_iff_eq.mpr c3
      have c3b1 : ((l0_1.length : Int) != 0) = false := bne_eq_false_iff_eq.mpr c3
      clear c3
      by_cases c4 : a0_0 = true
      · subst c4
        have H1 : (if (l0_1.length : Int) > 0 then (if 0 ≤ (wrap64 ((l0_1.length : Int) - 1)) then (if (wrap64 ((l0_1.length : Int) - 1)) < (l0_1.length : Int) then (if (rd l0_1 (wrap64 ((l0_1.length : Int) - 1))) = 0 then (some false) else ((containsBad.f l0_1).bind fun t138 => (some (!t138)))) else (none)) else (none)) else (some false)) = some r := by rw [if_pos rfl] at H; exact H
        clear H
        have H := H1
        clear H1
        by_cases c5 : (l0_1.length : Int) > 0
        · rw [if_pos c5] at H
          have c5b0 : decide (0 < (l0_1.length : Int)) = true := decide_eq_true c5
          have c5b1 : decide (0 < l0_1.length) = true := decide_eq_true (by omega)
          clear c5
          obtain ⟨ji6, hji6⟩ : ∃ j_ : Int, (wrap64 ((l0_1.length : Int) - 1)) = j_ := ⟨_, rfl⟩
          replace H : (if 0 ≤ (ji6) then (if (ji6) < (l0_1.length : Int) then (if (rd l0_1 (ji6)) = 0 then (some false) else ((containsBad.f l0_1).bind fun t138 => (some (!t138)))) else (none)) else (none)) = some r := by first | (rw [hji6] at H; exact H) | (simp only [hji6] at H ⊢; exact H)
          have hji6w : (IntKind.i64.wrap ((l0_1.length : Int) - 1)) = ji6 := (i64_w _).trans hji6
          by_cases c7 : 0 ≤ (ji6)
          · rw [if_pos c7] at H
            have c7b0 : decide (0 ≤ (ji6)) = true := decide_eq_true c7
            clear c7
            by_cases c8 : (ji6) < (l0_1.length : Int)
            · rw [if_pos c8] at H
              have c8b0 : decide ((ji6) < (l0_1.length : Int)) = true := decide_eq_true c8
              clear c8
              by_cases c9 : (rd l0_1 (ji6)) = 0
              · rw [if_pos c9] at H
                have c9b0 : ((rd l0_1 (ji6)) == 0) = true := beq_iff_eq.mpr c9
                have c9b1 : ((rd l0_1 (ji6)) != 0) = false := bne_eq_false_iff_eq.mpr c9
                clear c9
                obtain rfl := Option.some.inj H
                go_enter Tryd.func27, Tryd.ntmps27
                go_wp2_with (first | ((with_reducible refine gate_dst (N := 1) rfl ?_); refine box_event ?hg (N := 1) ?hd (cs := #[.bool true, .slice A0_1 l0_1.length c0_1]) (t := 27) ?hr ?_; (case hd => rfl); (case hg => rfl); (case hr => first | (go_simp; done) | (go_simp; rfl)); intro gb136 hg w10 hbox hb; have n0_ := Aside0.mk (below_step zb hb); have n1_ := Aside0.mk (hbox); have n2_ := Aside0.mk ((by rw [hg]; exact (below_size zb) : w.heap.size ≤ gb136)); have n3_ := Aside0.mk ((by rw [hg]; exact (below_size zb) : w.heap.size ≤ gb136)); clear HB; have HB := n0_; have BK136 := n1_; have GW136 := n2_; have GE136 := n3_; clear n0_ n1_ n2_ n3_; clear hb hbox hg; have hcz11_0 : w10.cell? ⟨gb136, 0, none⟩ = some (.bool true) := (blk_cell BK136.out 0).trans rfl; have hcz11_1 : w10.cell? ⟨gb136, 1, none⟩ = some (.slice A0_1 l0_1.length c0_1) := (blk_cell BK136.out 1).trans rfl; have hfz11_0 := blk_frozen BK136.out 0; have hfz11_1 := blk_frozen BK136.out 1; have p137 : 0 ≤ ((ji6) : Int) := of_decide_eq_true (by first | (with_reducible assumption) | assumption); have q137 : (ji6) < (l0_1.length : Int) := of_decide_eq_true (by first | (with_reducible assumption) | assumption); obtain ⟨ad137, e137, hx137_0⟩ := Kd.at_int HR0_1.out (ji6) p137 q137; cases e137; replace hx137_0 := (HB.out.cell (World.block_lt_of_cell? w _ hx137_0)).trans hx137_0; replace p137 := eq_true p137; replace q137 := eq_true q137))
                go_ret
                exact ⟨by first | rfl | (simp [errW_none, errW_some] <;> rfl) | (simp only [← hji6]; first | rfl | (simp [errW_none, errW_some] <;> rfl)) | (simp [*, errW_none, errW_some] <;> rfl), zb⟩
              · rw [if_neg c9] at H
                have c9b0 : ((rd l0_1 (ji6)) == 0) = false := beq_eq_false_iff_ne.mpr c9
                have c9b1 : ((rd l0_1 (ji6)) != 0) = true := bne_iff_ne.mpr c9
                replace H := Option.bind_eq_some_iff.mp H
                obtain ⟨t138, A120, H⟩ := H
                replace H : (some (!t138)) = some r := H
                have A12 := Aside0.mk A120
                clear A120
                obtain rfl := Option.some.inj H
                go_enter Tryd.func27, Tryd.ntmps27
                go_wp2_with (first | ((with_reducible refine gate_dst (N := 1) rfl ?_); refine box_event ?hg (N := 1) ?hd (cs := #[.bool true, .slice A0_1 l0_1.length c0_1]) (t := 27) ?hr ?_; (case hd => rfl); (case hg => rfl); (case hr => first | (go_simp; done) | (go_simp; rfl)); intro gb136 hg w13 hbox hb; have n0_ := Aside0.mk (below_step zb hb); have n1_ := Aside0.mk (hbox); have n2_ := Aside0.mk ((by rw [hg]; exact (below_size zb) : w.heap.size ≤ gb136)); have n3_ := Aside0.mk ((by rw [hg]; exact (below_size zb) : w.heap.size ≤ gb136)); clear HB; have HB := n0_; have BK136 := n1_; have GW136 := n2_; have GE136 := n3_; clear n0_ n1_ n2_ n3_; clear hb hbox hg; have hcz14_0 : w13.cell? ⟨gb136, 0, none⟩ = some (.bool true) := (blk_cell BK136.out 0).trans rfl; have hcz14_1 : w13.cell? ⟨gb136, 1, none⟩ = some (.slice A0_1 l0_1.length c0_1) := (blk_cell BK136.out 1).trans rfl; have hfz14_0 := blk_frozen BK136.out 0; have hfz14_1 := blk_frozen BK136.out 1; have p137 : 0 ≤ ((ji6) : Int) := of_decide_eq_true (by first | (with_reducible assumption) | assumption); have q137 : (ji6) < (l0_1.length : Int) := of_decide_eq_true (by first | (with_reducible assumption) | assumption); obtain ⟨ad137, e137, hx137_0⟩ := Kd.at_int HR0_1.out (ji6) p137 q137; cases e137; replace hx137_0 := (HB.out.cell (World.block_lt_of_cell? w _ hx137_0)).trans hx137_0; replace p137 := eq_true p137; replace q137 := eq_true q137) | (go_at_call 59; (with_reducible refine (containsBad.calls _ _ l0_1 t138 _ ?side1 ?side2 A12.out).mono ?_); (case side1 => repeat (first | exact (Kd.C_below HR0_1.out HB.out) | (with_reducible refine Kd.C_alloc ?_ _) | (with_reducible refine Kd.C_drewN ?_ _) | (with_reducible refine Kd.C_drew ?_))); (case side2 => exact HC0_1.out); rintro e w' ⟨rfl, ⟨nd, rfl⟩⟩))
                go_ret
                exact ⟨by first | rfl | (simp [errW_none, errW_some] <;> rfl) | (simp only [← hji6]; first | rfl | (simp [errW_none, errW_some] <;> rfl)) | (simp [*, errW_none, errW_some] <;> rfl), zb⟩
            · rw [if_neg c8] at H
              exact absurd H (by simp)
          · rw [if_neg c7] at H
            exact absurd H (by simp)
        · rw [if_neg c5] at H
          have c5b0 : decide (0 < (l0_1.length : Int)) = false := decide_eq_false c5
          have c5b1 : decide (0 < l0_1.length) = false := decide_eq_false (by omega)
          clear c5
          obtain rfl := Option.some.inj H
          go_enter Tryd.func27, Tryd.ntmps27
          go_wp2_with (first | ((with_reducible refine gate_dst (N := 1) rfl ?_); refine box_event ?hg (N := 1) ?hd (cs := #[.bool true, .slice A0_1 l0_1.length c0_1]) (t := 27) ?hr ?_; (case hd => rfl); (case hg => rfl); (case hr => first | (go_simp; done) | (go_simp; rfl)); intro gb136 hg w15 hbox hb; have n0_ := Aside0.mk (below_step zb hb); have n1_ := Aside0.mk (hbox); have n2_ := Aside0.mk ((by rw [hg]; exact (below_size zb) : w.heap.size ≤ gb136)); have n3_ := Aside0.mk ((by rw [hg]; exact (below_size zb) : w.heap.size ≤ gb136)); clear HB; have HB := n0_; have BK136 := n1_; have GW136 := n2_; have GE136 := n3_; clear n0_ n1_ n2_ n3_; clear hb hbox hg; have hcz16_0 : w15.cell? ⟨gb136, 0, none⟩ = some (.bool true) := (blk_cell BK136.out 0).trans rfl; have hcz16_1 : w15.cell? ⟨gb136, 1, none⟩ = some (.slice A0_1 l0_1.length c0_1) := (blk_cell BK136.out 1).trans rfl; have hfz16_0 := blk_frozen BK136.out 0; have hfz16_1 := blk_frozen BK136.out 1))
          go_ret
          exact ⟨by first | rfl | (simp [errW_none, errW_some] <;> rfl) | (simp [*, errW_none, errW_some] <;> rfl), zb⟩
      · replace c4 := Bool.eq_false_iff.mpr c4
        subst c4
        have H1 : ((containsBad.f l0_1).bind fun t139 => (some (!t139))) = some r := by rw [if_neg (show ¬ (false = true) by decide)] at H; exact H
        clear H
        have H := H1
        clear H1
        replace H := Option.bind_eq_some_iff.mp H
        obtain ⟨t139, A170, H⟩ := H
        replace H : (some (!t139)) = some r := H
        have A17 := Aside0.mk A170
        clear A170
        obtain rfl := Option.some.inj H
        go_enter Tryd.func27, Tryd.ntmps27
        go_wp2_with (first | ((with_reducible refine gate_dst (N := 1) rfl ?_); refine box_event ?hg (N := 1) ?hd (cs := #[.bool false, .slice A0_1 l0_1.length c0_1]) (t := 27) ?hr ?_; (case hd => rfl); (case hg => rfl); (case hr => first | (go_simp; done) | (go_simp; rfl)); intro gb136 hg w18 hbox hb; have n0_ := Aside0.mk (below_step zb hb); have n1_ := Aside0.mk (hbox); have n2_ := Aside0.mk ((by rw [hg]; exact (below_size zb) : w.heap.size ≤ gb136)); have n3_ := Aside0.mk ((by rw [hg]; exact (below_size zb) : w.heap.size ≤ gb136)); clear HB; have HB := n0_; have BK136 := n1_; have GW136 := n2_; have GE136 := n3_; clear n0_ n1_ n2_ n3_; clear hb hbox hg; have hcz19_0 : w18.cell? ⟨gb136, 0, none⟩ = some (.bool false) := (blk_cell BK136.out 0).trans rfl; have hcz19_1 : w18.cell? ⟨gb136, 1, none⟩ = some (.slice A0_1 l0_1.length c0_1) := (blk_cell BK136.out 1).trans rfl; have hfz19_0 := blk_frozen BK136.out 0; have hfz19_1 := blk_frozen BK136.out 1) | (go_at_call 59; (with_reducible refine (containsBad.calls _ _ l0_1 t139 _ ?side1 ?side2 A17.out).mono ?_); (case side1 => repeat (first | exact (Kd.C_below HR0_1.out HB.out) | (with_reducible refine Kd.C_alloc ?_ _) | (with_reducible refine Kd.C_drewN ?_ _) | (with_reducible refine Kd.C_drew ?_))); (case side2 => exact HC0_1.out); rintro e w' ⟨rfl, ⟨nd, rfl⟩⟩))
        go_ret
        exact ⟨by first | rfl | (simp [errW_none, errW_some] <;> rfl) | (simp [*, errW_none, errW_some] <;> rfl), zb⟩
    · rw [if_neg c3] at H
      have c3b0 : ((l0_1.length : Int) == 0) = false := beq_eq_false_iff_ne.mpr c3
      have c3b1 : ((l0_1.length : Int) != 0) = true := bne_iff_ne.mpr c3
      have c3b2 : ¬ (l0_1 = []) := fun h_ => c3 (by rw [h_]; rfl)
      by_cases c20 : (l0_1.length : Int) > 0
      · rw [if_pos c20] at H
        have c20b0 : decide (0 < (l0_1.length : Int)) = true := decide_eq_true c20
        have c20b1 : decide (0 < l0_1.length) = true := decide_eq_true (by omega)
        clear c20
        obtain ⟨ji21, hji21⟩ : ∃ j_ : Int, (wrap64 ((l0_1.length : Int) - 1)) = j_ := ⟨_, rfl⟩
        replace H : (if 0 ≤ (ji21) then (if (ji21) < (l0_1.length : Int) then (if (rd l0_1 (ji21)) = 0 then (some false) else ((containsBad.f l0_1).bind fun t141 => (some (!t141)))) else (none)) else (none)) = some r := by first | (rw [hji21] at H; exact H) | (simp only [hji21] at H ⊢; exact H)
        have hji21w : (IntKind.i64.wrap ((l0_1.length : Int) - 1)) = ji21 := (i64_w _).trans hji21
        by_cases c22 : 0 ≤ (ji21)
        · rw [if_pos c22] at H
          have c22b0 : decide (0 ≤ (ji21)) = true := decide_eq_true c22
          clear c22
          by_cases c23 : (ji21) < (l0_1.length : Int)
          · rw [if_pos c23] at H
            have c23b0 : decide ((ji21) < (l0_1.length : Int)) = true := decide_eq_true c23
            clear c23
            by_cases c24 : (rd l0_1 (ji21)) = 0
            · rw [if_pos c24] at H
              have c24b0 : ((rd l0_1 (ji21)) == 0) = true := beq_iff_eq.mpr c24
              have c24b1 : ((rd l0_1 (ji21)) != 0) = false := bne_eq_false_iff_eq.mpr c24
              clear c24
              obtain rfl := Option.some.inj H
              go_enter Tryd.func27, Tryd.ntmps27
              go_wp2_with (first | ((with_reducible refine gate_dst (N := 1) rfl ?_); refine box_event ?hg (N := 1) ?hd (cs := #[.bool a0_0, .slice A0_1 l0_1.length c0_1]) (t := 27) ?hr ?_; (case hd => rfl); (case hg => rfl); (case hr => first | (go_simp; done) | (go_simp; rfl)); intro gb136 hg w25 hbox hb; have n0_ := Aside0.mk (below_step zb hb); have n1_ := Aside0.mk (hbox); have n2_ := Aside0.mk ((by rw [hg]; exact (below_size zb) : w.heap.size ≤ gb136)); have n3_ := Aside0.mk ((by rw [hg]; exact (below_size zb) : w.heap.size ≤ gb136)); clear HB; have HB := n0_; have BK136 := n1_; have GW136 := n2_; have GE136 := n3_; clear n0_ n1_ n2_ n3_; clear hb hbox hg; have hcz26_0 : w25.cell? ⟨gb136, 0, none⟩ = some (.bool a0_0) := (blk_cell BK136.out 0).trans rfl; have hcz26_1 : w25.cell? ⟨gb136, 1, none⟩ = some (.slice A0_1 l0_1.length c0_1) := (blk_cell BK136.out 1).trans rfl; have hfz26_0 := blk_frozen BK136.out 0; have hfz26_1 := blk_frozen BK136.out 1; have p140 : 0 ≤ ((ji21) : Int) := of_decide_eq_true (by first | (with_reducible assumption) | assumption); have q140 : (ji21) < (l0_1.length : Int) := of_decide_eq_true (by first | (with_reducible assumption) | assumption); obtain ⟨ad140, e140, hx140_0⟩ := Kd.at_int HR0_1.out (ji21) p140 q140; cases e140; replace hx140_0 := (HB.out.cell (World.block_lt_of_cell? w _ hx140_0)).trans hx140_0; replace p140 := eq_true p140; replace q140 := eq_true q140))
              go_ret
              exact ⟨by first | rfl | (simp [errW_none, errW_some] <;> rfl) | (simp only [← hji21]; first | rfl | (simp [errW_none, errW_some] <;> rfl)) | (simp [*, errW_none, errW_some] <;> rfl), zb⟩
            · rw [if_neg c24] at H
              have c24b0 : ((rd l0_1 (ji21)) == 0) = false := beq_eq_false_iff_ne.mpr c24
              have c24b1 : ((rd l0_1 (ji21)) != 0) = true := bne_iff_ne.mpr c24
              replace H := Option.bind_eq_some_iff.mp H
              obtain ⟨t141, A270, H⟩ := H
              replace H : (some (!t141)) = some r := H
              have A27 := Aside0.mk A270
              clear A270
              obtain rfl := Option.some.inj H
              go_enter Tryd.func27, Tryd.ntmps27
              go_wp2_with (first | ((with_reducible refine gate_dst (N := 1) rfl ?_); refine box_event ?hg (N := 1) ?hd (cs := #[.bool a0_0, .slice A0_1 l0_1.length c0_1]) (t := 27) ?hr ?_; (case hd => rfl); (case hg => rfl); (case hr => first | (go_simp; done) | (go_simp; rfl)); intro gb136 hg w28 hbox hb; have n0_ := Aside0.mk (below_step zb hb); have n1_ := Aside0.mk (hbox); have n2_ := Aside0.mk ((by rw [hg]; exact (below_size zb) : w.heap.size ≤ gb136)); have n3_ := Aside0.mk ((by rw [hg]; exact (below_size zb) : w.heap.size ≤ gb136)); clear HB; have HB := n0_; have BK136 := n1_; have GW136 := n2_; have GE136 := n3_; clear n0_ n1_ n2_ n3_; clear hb hbox hg; have hcz29_0 : w28.cell? ⟨gb136, 0, none⟩ = some (.bool a0_0) := (blk_cell BK136.out 0).trans rfl; have hcz29_1 : w28.cell? ⟨gb136, 1, none⟩ = some (.slice A0_1 l0_1.length c0_1) := (blk_cell BK136.out 1).trans rfl; have hfz29_0 := blk_frozen BK136.out 0; have hfz29_1 := blk_frozen BK136.out 1; have p140 : 0 ≤ ((ji21) : Int) := of_decide_eq_true (by first | (with_reducible assumption) | assumption); have q140 : (ji21) < (l0_1.length : Int) := of_decide_eq_true (by first | (with_reducible assumption) | assumption); obtain ⟨ad140, e140, hx140_0⟩ := Kd.at_int HR0_1.out (ji21) p140 q140; cases e140; replace hx140_0 := (HB.out.cell (World.block_lt_of_cell? w _ hx140_0)).trans hx140_0; replace p140 := eq_true p140; replace q140 := eq_true q140) | (go_at_call 59; (with_reducible refine (containsBad.calls _ _ l0_1 t141 _ ?side1 ?side2 A27.out).mono ?_); (case side1 => repeat (first | exact (Kd.C_below HR0_1.out HB.out) | (with_reducible refine Kd.C_alloc ?_ _) | (with_reducible refine Kd.C_drewN ?_ _) | (with_reducible refine Kd.C_drew ?_))); (case side2 => exact HC0_1.out); rintro e w' ⟨rfl, ⟨nd, rfl⟩⟩))
              go_ret
              exact ⟨by first | rfl | (simp [errW_none, errW_some] <;> rfl) | (simp only [← hji21]; first | rfl | (simp [errW_none, errW_some] <;> rfl)) | (simp [*, errW_none, errW_some] <;> rfl), zb⟩
          · rw [if_neg c23] at H
            exact absurd H (by simp)
        · rw [if_neg c22] at H
          exact absurd H (by simp)
      · rw [if_neg c20] at H
        have c20b0 : decide (0 < (l0_1.length : Int)) = false := decide_eq_false c20
        have c20b1 : decide (0 < l0_1.length) = false := decide_eq_false (by omega)
        clear c20
        obtain rfl := Option.some.inj H
        go_enter Tryd.func27, Tryd.ntmps27
        go_wp2_with (first | ((with_reducible refine gate_dst (N := 1) rfl ?_); refine box_event ?hg (N := 1) ?hd (cs := #[.bool a0_0, .slice A0_1 l0_1.length c0_1]) (t := 27) ?hr ?_; (case hd => rfl); (case hg => rfl); (case hr => first | (go_simp; done) | (go_simp; rfl)); intro gb136 hg w30 hbox hb; have n0_ := Aside0.mk (below_step zb hb); have n1_ := Aside0.mk (hbox); have n2_ := Aside0.mk ((by rw [hg]; exact (below_size zb) : w.heap.size ≤ gb136)); have n3_ := Aside0.mk ((by rw [hg]; exact (below_size zb) : w.heap.size ≤ gb136)); clear HB; have HB := n0_; have BK136 := n1_; have GW136 := n2_; have GE136 := n3_; clear n0_ n1_ n2_ n3_; clear hb hbox hg; have hcz31_0 : w30.cell? ⟨gb136, 0, none⟩ = some (.bool a0_0) := (blk_cell BK136.out 0).trans rfl; have hcz31_1 : w30.cell? ⟨gb136, 1, none⟩ = some (.slice A0_1 l0_1.length c0_1) := (blk_cell BK136.out 1).trans rfl; have hfz31_0 := blk_frozen BK136.out 0; have hfz31_1 := blk_frozen BK136.out 1))
        go_ret
        exact ⟨by first | rfl | (simp [errW_none, errW_some] <;> rfl) | (simp [*, errW_none, errW_some] <;> rfl), zb⟩
  · rw [if_neg c2] at H
    have c2b0 : decide ((l0_1.length : Int) ≤ 16) = false := decide_eq_false c2
    have c2b1 : decide (l0_1.length ≤ 16) = false := decide_eq_false (by omega)
    clear c2
    obtain rfl := Option.some.inj H
    go_enter Tryd.func27, Tryd.ntmps27
    go_wp2_with (first | ((with_reducible refine gate_dst (N := 1) rfl ?_); refine box_event ?hg (N := 1) ?hd (cs := #[.bool a0_0, .slice A0_1 l0_1.length c0_1]) (t := 27) ?hr ?_; (case hd => rfl); (case hg => rfl); (case hr => first | (go_simp; done) | (go_simp; rfl)); intro gb136 hg w32 hbox hb; have n0_ := Aside0.mk (below_step zb hb); have n1_ := Aside0.mk (hbox); have n2_ := Aside0.mk ((by rw [hg]; exact (below_size zb) : w.heap.size ≤ gb136)); have n3_ := Aside0.mk ((by rw [hg]; exact (below_size zb) : w.heap.size ≤ gb136)); clear HB; have HB := n0_; have BK136 := n1_; have GW136 := n2_; have GE136 := n3_; clear n0_ n1_ n2_ n3_; clear hb hbox hg; have hcz33_0 : w32.cell? ⟨gb136, 0, none⟩ = some (.bool a0_0) := (blk_cell BK136.out 0).trans rfl; have hcz33_1 : w32.cell? ⟨gb136, 1, none⟩ = some (.slice A0_1 l0_1.length c0_1) := (blk_cell BK136.out 1).trans rfl; have hfz33_0 := blk_frozen BK136.out 0; have hfz33_1 := blk_frozen BK136.out 1))
    go_ret
    exact ⟨by first | rfl | (simp [errW_none, errW_some] <;> rfl) | (simp [*, errW_none, errW_some] <;> rfl), zb⟩
def impl_BigPut.f (a0_0 : Bool) (l0_1 : List Int) : Option (ByteArray) := (impl_BigOk.f a0_0 l0_1).bind fun t165 => (if t165 = true then (if a0_0 = true then ((impl_limbs_text.f l0_1).bind fun t166 => (if 1 + t166.size ≤ 9223372036854775807 then (some ((⟨#[45]⟩ : ByteArray) ++ t166)) else (none))) else ((impl_limbs_text.f l0_1).bind fun t167 => (some t167))) else (some (⟨#[]⟩ : ByteArray)))
set_option maxHeartbeats 8000000 in
set_option maxRecDepth 100000 in
theorem impl_BigPut.calls (a0_0 : Bool) (A0_1 : Option Addr) (c0_1 : Nat) (l0_1 : List Int) (r : ByteArray) (w : World) (hT : EnvI w) (hr0_1 : Kd.C (Kd.int .i64) w A0_1 l0_1.length l0_1) (hc0_1 : l0_1.length ≤ c0_1) (h : impl_BigPut.f a0_0 l0_1 = some r) :
    Calls Tryd.prog 12 #[.agg #[.bool a0_0, .slice A0_1 l0_1.length c0_1]] w fun e w' => e = .returned (.string r) ∧ Below w.heap.size w w' := by
  have hu27 := Tryd.underlying27
  have HR0_1 := Aside0.mk hr0_1
  have HC0_1 := Aside0.mk hc0_1
  clear hr0_1 hc0_1
  have HB := Aside0.mk (Below.refl w.heap.size w)
  have HT := Aside0.mk hT
  clear hT
  have H : ((impl_BigOk.f a0_0 l0_1).bind fun t165 => (if t165 = true then (if a0_0 = true then ((impl_limbs_text.f l0_1).bind fun t166 => (if 1 + t166.size ≤ 9223372036854775807 then (some ((⟨#[45]⟩ : ByteArray) ++ t166)) else (none))) else ((impl_limbs_text.f l0_1).bind fun t167 => (some t167))) else (some (⟨#[]⟩ : ByteArray)))) = some r := h
  clear h
  replace H := Option.bind_eq_some_iff.mp H
  obtain ⟨t165, A20, H⟩ := H
  replace H : (if t165 = true then (if a0_0 = true then ((impl_limbs_text.f l0_1).bind fun t166 => (if 1 + t166.size ≤ 9223372036854775807 then (some ((⟨#[45]⟩ : ByteArray) ++ t166)) else (none))) else ((impl_limbs_text.f l0_1).bind fun t167 => (some t167))) else (some (⟨#[]⟩ : ByteArray))) = some r := H
  have A2 := Aside0.mk A20
  clear A20
  by_cases c3 : t165 = true
  · subst c3
    have H1 : (if a0_0 = true then ((impl_limbs_text.f l0_1).bind fun t166 => (if 1 + t166.size ≤ 9223372036854775807 then (some ((⟨#[45]⟩ : ByteArray) ++ t166)) else (none))) else ((impl_limbs_text.f l0_1).bind fun t167 => (some t167))) = some r := by rw [if_pos rfl] at H; exact H
    clear H
    have H := H1
    clear H1
    by_cases c4 : a0_0 = true
    · subst c4
      have H1 : ((impl_limbs_text.f l0_1).bind fun t166 => (if 1 + t166.size ≤ 9223372036854775807 then (some ((⟨#[45]⟩ : ByteArray) ++ t166)) else (none))) = some r := by rw [if_pos rfl] at H; exact H
      clear H
      have H := H1
      clear H1
      replace H := Option.bind_eq_some_iff.mp H
      obtain ⟨t166, A50, H⟩ := H
      replace H : (if 1 + t166.size ≤ 9223372036854775807 then (some ((⟨#[45]⟩ : ByteArray) ++ t166)) else (none)) = some r := H
      have A5 := Aside0.mk A50
      clear A50
      by_cases c6 : 1 + t166.size ≤ 9223372036854775807
      · rw [if_pos c6] at H
        have c6b0 := eq_true c6
        have c6b1 : decide (1 + t166.size ≤ 9223372036854775807) = true := decide_eq_true c6
        try have c6b2 : (9223372036854775807 < 1 + t166.size) = False := eq_false (Nat.not_lt.2 c6)
        obtain rfl := Option.some.inj H
        go_enter Tryd.func12, Tryd.ntmps12
        go_wp2_with (first | ((with_reducible refine gate_dst (N := 1) rfl ?_); refine box_event ?hg (N := 1) ?hd (cs := #[.bool true, .slice A0_1 l0_1.length c0_1]) (t := 27) ?hr ?_; (case hd => rfl); (case hg => rfl); (case hr => first | (go_simp; done) | (go_simp; rfl)); intro gb164 hg w7 hbox hb; have n0_ := Aside0.mk (below_step zb hb); have n1_ := Aside0.mk (hbox); have n2_ := Aside0.mk ((by rw [hg]; exact (below_size zb) : w.heap.size ≤ gb164)); have n3_ := Aside0.mk ((by rw [hg]; exact (below_size zb) : w.heap.size ≤ gb164)); clear HB; have HB := n0_; have BK164 := n1_; have GW164 := n2_; have GE164 := n3_; clear n0_ n1_ n2_ n3_; clear hb hbox hg; have hcz8_0 : w7.cell? ⟨gb164, 0, none⟩ = some (.bool true) := (blk_cell BK164.out 0).trans rfl; have hcz8_1 : w7.cell? ⟨gb164, 1, none⟩ = some (.slice A0_1 l0_1.length c0_1) := (blk_cell BK164.out 1).trans rfl; have hfz8_0 := blk_frozen BK164.out 0; have hfz8_1 := blk_frozen BK164.out 1) | ((with_reducible refine gate_callee (f := 27) rfl ?_); refine goesL_ (some 4) rfl rfl Tryd.func27 (by kernel_rfl) rfl #[.agg #[.bool true, .slice A0_1 l0_1.length c0_1]] rfl za ?_; (with_reducible refine (impl_BigOk.calls true _ _ l0_1 true _ ?side1 ?side2 A2.out).mono ?_); (case side1 => repeat (first | exact (Kd.C_below HR0_1.out HB.out) | (with_reducible refine Kd.C_alloc ?_ _) | (with_reducible refine Kd.C_drewN ?_ _) | (with_reducible refine Kd.C_drew ?_))); (case side2 => exact HC0_1.out); rintro e w9 ⟨rfl, hb⟩; refine ⟨_, rfl, ?_⟩; have n0_ := Aside0.mk (blk_below (g := gb164) (o := .cells #[.bool true, .slice A0_1 l0_1.length c0_1] 27 (0, 0)) (zk BK164.out) hb); have n1_ := Aside0.mk (below_step zb hb); clear BK164; clear HB; have BK164 := n0_; have HB := n1_; clear n0_ n1_; (try clear hb); (try clear hb2); (try clear hk); (try clear hi); have hcz10_0 : w9.cell? ⟨gb164, 0, none⟩ = some (.bool true) := (blk_cell BK164.out 0).trans rfl; have hcz10_1 : w9.cell? ⟨gb164, 1, none⟩ = some (.slice A0_1 l0_1.length c0_1) := (blk_cell BK164.out 1).trans rfl; have hfz10_0 := blk_frozen BK164.out 0; have hfz10_1 := blk_frozen BK164.out 1) | ((with_reducible refine gate_callee (f := 36) rfl ?_); refine goesL_ (some 10) rfl rfl Tryd.func36 (by kernel_rfl) rfl #[.slice A0_1 l0_1.length c0_1] rfl za ?_; (with_reducible refine (impl_limbs_text.calls _ _ l0_1 t166 _ ?side1 ?side2 ?side3 A5.out).mono ?_); (case side1 => exact HT.out.below zb); (case side2 => repeat (first | exact (Kd.C_below HR0_1.out HB.out) | (with_reducible refine Kd.C_alloc ?_ _) | (with_reducible refine Kd.C_drewN ?_ _) | (with_reducible refine Kd.C_drew ?_))); (case side3 => exact HC0_1.out); rintro e w11 ⟨rfl, hb⟩; refine ⟨_, rfl, ?_⟩; have n0_ := Aside0.mk (blk_below (g := gb164) (o := .cells #[.bool true, .slice A0_1 l0_1.length c0_1] 27 (0, 0)) (zk BK164.out) hb); have n1_ := Aside0.mk (below_step zb hb); clear BK164; clear HB; have BK164 := n0_; have HB := n1_; clear n0_ n1_; (try clear hb); (try clear hb2); (try clear hk); (try clear hi)))
        go_ret
        exact ⟨by first | rfl | (simp [errW_none, errW_some] <;> rfl) | (simp [*, errW_none, errW_some] <;> rfl), zb⟩
      · rw [if_neg c6] at H
        exact absurd H (by simp)
    · replace c4 := Bool.eq_false_iff.mpr c4
      subst c4
      have H1 : ((impl_limbs_text.f l0_1).bind fun t167 => (some t167)) = some r := by rw [if_neg (show ¬ (false = true) by decide)] at H; exact H
      clear H
      have H := H1
      clear H1
      replace H := Option.bind_eq_some_iff.mp H
      obtain ⟨t167, A120, H⟩ := H
      replace H : (some t167) = some r := H
      have A12 := Aside0.mk A120
      clear A120
      obtain rfl := Option.some.inj H
      go_enter Tryd.func12, Tryd.ntmps12
      go_wp2_with (first | ((with_reducible refine gate_dst (N := 1) rfl ?_); refine box_event ?hg (N := 1) ?hd (cs := #[.bool false, .slice A0_1 l0_1.length c0_1]) (t := 27) ?hr ?_; (case hd => rfl); (case hg => rfl); (case hr => first | (go_simp; done) | (go_simp; rfl)); intro gb164 hg w13 hbox hb; have n0_ := Aside0.mk (below_step zb hb); have n1_ := Aside0.mk (hbox); have n2_ := Aside0.mk ((by rw [hg]; exact (below_size zb) : w.heap.size ≤ gb164)); have n3_ := Aside0.mk ((by rw [hg]; exact (below_size zb) : w.heap.size ≤ gb164)); clear HB; have HB := n0_; have BK164 := n1_; have GW164 := n2_; have GE164 := n3_; clear n0_ n1_ n2_ n3_; clear hb hbox hg; have hcz14_0 : w13.cell? ⟨gb164, 0, none⟩ = some (.bool false) := (blk_cell BK164.out 0).trans rfl; have hcz14_1 : w13.cell? ⟨gb164, 1, none⟩ = some (.slice A0_1 l0_1.length c0_1) := (blk_cell BK164.out 1).trans rfl; have hfz14_0 := blk_frozen BK164.out 0; have hfz14_1 := blk_frozen BK164.out 1) | ((with_reducible refine gate_callee (f := 27) rfl ?_); refine goesL_ (some 4) rfl rfl Tryd.func27 (by kernel_rfl) rfl #[.agg #[.bool false, .slice A0_1 l0_1.length c0_1]] rfl za ?_; (with_reducible refine (impl_BigOk.calls false _ _ l0_1 true _ ?side1 ?side2 A2.out).mono ?_); (case side1 => repeat (first | exact (Kd.C_below HR0_1.out HB.out) | (with_reducible refine Kd.C_alloc ?_ _) | (with_reducible refine Kd.C_drewN ?_ _) | (with_reducible refine Kd.C_drew ?_))); (case side2 => exact HC0_1.out); rintro e w15 ⟨rfl, hb⟩; refine ⟨_, rfl, ?_⟩; have n0_ := Aside0.mk (blk_below (g := gb164) (o := .cells #[.bool false, .slice A0_1 l0_1.length c0_1] 27 (0, 0)) (zk BK164.out) hb); have n1_ := Aside0.mk (below_step zb hb); clear BK164; clear HB; have BK164 := n0_; have HB := n1_; clear n0_ n1_; (try clear hb); (try clear hb2); (try clear hk); (try clear hi); have hcz16_0 : w15.cell? ⟨gb164, 0, none⟩ = some (.bool false) := (blk_cell BK164.out 0).trans rfl; have hcz16_1 : w15.cell? ⟨gb164, 1, none⟩ = some (.slice A0_1 l0_1.length c0_1) := (blk_cell BK164.out 1).trans rfl; have hfz16_0 := blk_frozen BK164.out 0; have hfz16_1 := blk_frozen BK164.out 1) | ((with_reducible refine gate_callee (f := 36) rfl ?_); refine goesL_ (some 14) rfl rfl Tryd.func36 (by kernel_rfl) rfl #[.slice A0_1 l0_1.length c0_1] rfl za ?_; (with_reducible refine (impl_limbs_text.calls _ _ l0_1 t167 _ ?side1 ?side2 ?side3 A12.out).mono ?_); (case side1 => exact HT.out.below zb); (case side2 => repeat (first | exact (Kd.C_below HR0_1.out HB.out) | (with_reducible refine Kd.C_alloc ?_ _) | (with_reducible refine Kd.C_drewN ?_ _) | (with_reducible refine Kd.C_drew ?_))); (case side3 => exact HC0_1.out); rintro e w17 ⟨rfl, hb⟩; refine ⟨_, rfl, ?_⟩; have n0_ := Aside0.mk (blk_below (g := gb164) (o := .cells #[.bool false, .slice A0_1 l0_1.length c0_1] 27 (0, 0)) (zk BK164.out) hb); have n1_ := Aside0.mk (below_step zb hb); clear BK164; clear HB; have BK164 := n0_; have HB := n1_; clear n0_ n1_; (try clear hb); (try clear hb2); (try clear hk); (try clear hi)))
      go_ret
      exact ⟨by first | rfl | (simp [errW_none, errW_some] <;> rfl) | (simp [*, errW_none, errW_some] <;> rfl), zb⟩
  · replace c3 := Bool.eq_false_iff.mpr c3
    subst c3
    have H1 : (some (⟨#[]⟩ : ByteArray)) = some r := by rw [if_neg (show ¬ (false = true) by decide)] at H; exact H
    clear H
    have H := H1
    clear H1
    obtain rfl := Option.some.inj H
    go_enter Tryd.func12, Tryd.ntmps12
    go_wp2_with (first | ((with_reducible refine gate_dst (N := 1) rfl ?_); refine box_event ?hg (N := 1) ?hd (cs := #[.bool a0_0, .slice A0_1 l0_1.length c0_1]) (t := 27) ?hr ?_; (case hd => rfl); (case hg => rfl); (case hr => first | (go_simp; done) | (go_simp; rfl)); intro gb164 hg w18 hbox hb; have n0_ := Aside0.mk (below_step zb hb); have n1_ := Aside0.mk (hbox); have n2_ := Aside0.mk ((by rw [hg]; exact (below_size zb) : w.heap.size ≤ gb164)); have n3_ := Aside0.mk ((by rw [hg]; exact (below_size zb) : w.heap.size ≤ gb164)); clear HB; have HB := n0_; have BK164 := n1_; have GW164 := n2_; have GE164 := n3_; clear n0_ n1_ n2_ n3_; clear hb hbox hg; have hcz19_0 : w18.cell? ⟨gb164, 0, none⟩ = some (.bool a0_0) := (blk_cell BK164.out 0).trans rfl; have hcz19_1 : w18.cell? ⟨gb164, 1, none⟩ = some (.slice A0_1 l0_1.length c0_1) := (blk_cell BK164.out 1).trans rfl; have hfz19_0 := blk_frozen BK164.out 0; have hfz19_1 := blk_frozen BK164.out 1) | ((with_reducible refine gate_callee (f := 27) rfl ?_); refine goesL_ (some 4) rfl rfl Tryd.func27 (by kernel_rfl) rfl #[.agg #[.bool a0_0, .slice A0_1 l0_1.length c0_1]] rfl za ?_; (with_reducible refine (impl_BigOk.calls a0_0 _ _ l0_1 false _ ?side1 ?side2 A2.out).mono ?_); (case side1 => repeat (first | exact (Kd.C_below HR0_1.out HB.out) | (with_reducible refine Kd.C_alloc ?_ _) | (with_reducible refine Kd.C_drewN ?_ _) | (with_reducible refine Kd.C_drew ?_))); (case side2 => exact HC0_1.out); rintro e w20 ⟨rfl, hb⟩; refine ⟨_, rfl, ?_⟩; have n0_ := Aside0.mk (blk_below (g := gb164) (o := .cells #[.bool a0_0, .slice A0_1 l0_1.length c0_1] 27 (0, 0)) (zk BK164.out) hb); have n1_ := Aside0.mk (below_step zb hb); clear BK164; clear HB; have BK164 := n0_; have HB := n1_; clear n0_ n1_; (try clear hb); (try clear hb2); (try clear hk); (try clear hi)))
    go_ret
    exact ⟨by first | rfl | (simp [errW_none, errW_some] <;> rfl) | (simp [*, errW_none, errW_some] <;> rfl), zb⟩
def impl_limbs_digits.f (l0 : List Int) : Option (Int) := if (l0.length : Int) = 0 then (some 0) else ((impl_limbs_text.f l0).bind fun t207 => (some (t207.size : Int)))
def impl_in.f (a0 : Int) (a1 : Int) (a2 : Int) : Option (Bool) := if a0 ≥ a1 then (some (decide (a0 ≤ a2))) else (some false)
def impl_DecOk.f (a0_0 : Bool) (l0_1 : List Int) (a0_2 : Int) : Option (Bool) := (impl_BigOk.f a0_0 l0_1).bind fun t209 => (if t209 = true then ((impl_limbs_digits.f l0_1).bind fun t210 => (if t210 ≤ 30 then ((impl_in.f a0_2 0 12).bind fun t211 => (some t211)) else (some false))) else (some false))
def impl_DecPut.f (a0_0 : Bool) (l0_1 : List Int) (a0_2 : Int) : Option (ByteArray) := (impl_DecOk.f a0_0 l0_1 a0_2).bind fun t242 => (if t242 = true then ((impl_limbs_text.f l0_1).bind fun t243 => (if a0_2 > 0 then ((lib_Repeat.f (⟨#[48]⟩ : ByteArray) (mx 0 (wrap64 ((wrap64 (a0_2 + 1)) - (t243.size : Int))))).bind fun t244 => (if t244.size + t243.size ≤ 9223372036854775807 then (if 0 ≤ (wrap64 (((t244 ++ t243).size : Int) - a0_2)) then (if (wrap64 (((t244 ++ t243).size : Int) - a0_2)) ≤ ((t244 ++ t243).size : Int) then (if ((t244 ++ t243).extract 0 ((wrap64 (((t244 ++ t243).size : Int) - a0_2)) : Int).toNat).size + 1 ≤ 9223372036854775807 then (if (((t244 ++ t243).extract 0 ((wrap64 (((t244 ++ t243).size : Int) - a0_2)) : Int).toNat) ++ (⟨#[46]⟩ : ByteArray)).size + ((t244 ++ t243).extract ((wrap64 (((t244 ++ t243).size : Int) - a0_2)) : Int).toNat (t244 ++ t243).size).size ≤ 9223372036854775807 then (if a0_0 = true then (if 1 + ((((t244 ++ t243).extract 0 ((wrap64 (((t244 ++ t243).size : Int) - a0_2)) : Int).toNat) ++ (⟨#[46]⟩ : ByteArray)) ++ ((t244 ++ t243).extract ((wrap64 (((t244 ++ t243).size : Int) - a0_2)) : Int).toNat (t244 ++ t243).size)).size ≤ 9223372036854775807 then (some ((⟨#[45]⟩ : ByteArray) ++ ((((t244 ++ t243).extract 0 ((wrap64 (((t244 ++ t243).size : Int) - a0_2)) : Int).toNat) ++ (⟨#[46]⟩ : ByteArray)) ++ ((t244 ++ t243).extract ((wrap64 (((t244 ++ t243).size : Int) - a0_2)) : Int).toNat (t244 ++ t243).size)))) else (none)) else (some ((((t244 ++ t243).extract 0 ((wrap64 (((t244 ++ t243).size : Int) - a0_2)) : Int).toNat) ++ (⟨#[46]⟩ : ByteArray)) ++ ((t244 ++ t243).extract ((wrap64 (((t244 ++ t243).size : Int) - a0_2)) : Int).toNat (t244 ++ t243).size)))) else (none)) else (none)) else (none)) else (none)) else (none))) else (if a0_0 = true then (if 1 + t243.size ≤ 9223372036854775807 then (some ((⟨#[45]⟩ : ByteArray) ++ t243)) else (none)) else (some t243)))) else (some (⟨#[]⟩ : ByteArray)))
end Go.Proofs.YtdbgpoileffbeaaDoor.Pr
end
section
namespace Go.Proofs.YtdbgpoileffbeaaDoor.Val
open Go.RowKit Go.Proofs.YtdbgpoileffbeaaDoor.Pr Go.Proofs.YtdbgpoileffbeaaDoor.Ext Go.Proofs.YtdbgpoileffbeaaDoor.Jt Go.Proofs.YtdbgpoileffbeaaDoorW.PrintWords Go.Proofs.YtdbgpoileffbeaaDoorW.PrintLast Go.Proofs.YtdbgpoileffbeaaDoorW.PrintMore
set_option linter.unusedVariables false
set_option linter.unusedSimpArgs false
theorem w64 {x : Int} (h : -9223372036854775808 ≤ x) (h' : x ≤ 9223372036854775807) : wrap64 x = x := by unfold wrap64; omega
theorem rdn (l : List Int) (i : Int) : rd l i = l.getD i.toNat 0 := rfl
def okD (x : Int) : Bool := decide (0 ≤ x) && decide (x ≤ 9999)
def okB (neg : Bool) (l : List Int) : Bool := decide (l.length ≤ 16) && l.all okD && (decide (l.length = 0) || decide (l.getD (l.length - 1) 0 ≠ 0)) && (!neg || decide (l.length ≠ 0))
theorem okB_iff (neg : Bool) (l : List Int) : okB neg l = true ↔ BOk neg l := by
  unfold okB BOk Dig Nz
  simp only [Bool.and_eq_true, decide_eq_true_eq, List.all_eq_true, okD, Bool.or_eq_true, Bool.not_eq_true']
  constructor
  · rintro ⟨⟨⟨a, b⟩, c⟩, d⟩
    exact ⟨a, b, c, fun h => d.resolve_left (by simp [h])⟩
  · rintro ⟨a, b, c, d⟩
    refine ⟨⟨⟨a, b⟩, c⟩, ?_⟩
    cases neg
    · exact .inl rfl
    · exact .inr (d rfl)
theorem any_bad (l : List Int) : l.any bad = !(l.all okD) := by
  induction l with
  | nil => rfl
  | cons x xs ih => rw [List.any_cons, List.all_cons, ih, Bool.not_and]; rfl
theorem bigOk_f (neg : Bool) (l : List Int) : impl_BigOk.f neg l = some (okB neg l) := by
  unfold impl_BigOk.f okB containsBad.f
  simp only [any_bad, Option.bind_some, Bool.not_not]
  by_cases h16 : (l.length : Int) ≤ 16
  · rw [if_pos h16, decide_eq_true (show l.length ≤ 16 by omega), Bool.true_and]
    by_cases h0 : (l.length : Int) = 0
    · rw [if_pos h0]
      have h0' : l.length = 0 := by omega
      cases neg
      · rw [if_neg (by decide)]; simp [h0']
      · rw [if_pos rfl, if_neg (by omega)]; simp [h0']
    · have h0' : l.length ≠ 0 := by omega
      rw [if_neg h0, if_pos (by omega), w64 (by omega) (by omega), if_pos (by omega), if_pos (by omega), rdn, show ((l.length : Int) - 1).toNat = l.length - 1 from by omega, decide_eq_false h0', decide_eq_true (show l.length ≠ 0 from h0'), Bool.false_or, Bool.or_true, Bool.and_true]
      by_cases hz : l.getD (l.length - 1) 0 = 0
      · rw [if_pos hz, decide_eq_false (by simpa using hz)]; simp
      · rw [if_neg hz, decide_eq_true hz]; simp
  · rw [if_neg h16, decide_eq_false (show ¬ l.length ≤ 16 by omega)]; simp
theorem rdN (l : List Int) (i : Nat) : rd l (i : Int) = l.getD i 0 := by unfold rd; rw [Int.toNat_natCast]
theorem getD_set_ne {l : List Int} {i j : Nat} (v : Int) (h : i < l.length) (hne : j ≠ i) : (l.set i v).getD j 0 = l.getD j 0 := by rw [getD_set l i j v h, if_neg hne]
theorem getD_set_eq {l : List Int} {i : Nat} (v : Int) (h : i < l.length) : (l.set i v).getD i 0 = v := by rw [getD_set l i i v h, if_pos rfl]
theorem eqIntS_l0 {a : List Int} (hL : a.length < 100000000) : ∀ (m k i : Nat), i + m = a.length → m + 1 ≤ k → laws_eqIntS.l0 k a a (i : Int) = some true := by
  intro m
  induction m with
  | zero =>
    intro k i hi hk
    obtain ⟨k, rfl⟩ : ∃ j, k = j + 1 := ⟨k - 1, by omega⟩
    rw [laws_eqIntS.l0, if_neg (by omega)]
  | succ m ih =>
    intro k i hi hk
    obtain ⟨k, rfl⟩ : ∃ j, k = j + 1 := ⟨k - 1, by omega⟩
    rw [laws_eqIntS.l0, if_pos (by omega), if_pos (by omega), if_pos (by omega), if_pos rfl, w64 (by omega) (by omega), show ((i : Int) + 1) = ((i + 1 : Nat) : Int) from by omega]
    exact ih k (i + 1) (by omega) (by omega)
theorem eqBig_ge (n : Bool) {l : List Int} (hl : l.length < 100000000) (k : Nat) (hk : l.length + 1 ≤ k) : laws_eqBig.f k n l n l = some true := by
  unfold laws_eqBig.f laws_eqIntS.f
  rw [if_neg (by simp), if_pos rfl]
  rw [show (0 : Int) = ((0 : Nat) : Int) from rfl, eqIntS_l0 hl l.length k 0 (by omega) hk]
  rfl
end Go.Proofs.YtdbgpoileffbeaaDoor.Val
end
section
namespace Go.Proofs.YtdbgpoileffbeaaDoor.Ext
open Go.RowKit Go.Proofs.YtdbgpoileffbeaaDoorW.PrintWords Go.Proofs.YtdbgpoileffbeaaDoorW.PrintLast Go.Proofs.YtdbgpoileffbeaaDoorW.PrintMore
set_option linter.unusedVariables false
set_option linter.unusedSimpArgs false
theorem info3 : (Tryd.prog.info? 3).map (fun i => (i.zero, i.size, i.bytes)) = some (some (.int .i64 0), 1, 8) := by kernel_rfl
def clone99.f (l0 : List Int) : Option (List Int) := if l0.length < 17592186044416 then some l0 else none
set_option maxHeartbeats 4000000 in
set_option maxRecDepth 100000 in
theorem clone99.calls (A0 : Option Addr) (c0 : Nat) (l0 : List Int) (r : List Int) (w : World) (hr0 : Kd.C (Kd.int .i64) w A0 l0.length l0) (hc0 : l0.length ≤ c0) (h : clone99.f l0 = some r) :
    Calls Tryd.prog 96 #[.slice A0 l0.length c0] w fun e w' => ∃ v0_ : Value, e = .returned (v0_) ∧ Kd.R (Kd.int .i64) 3 w' w.heap.size (fun _ => True) v0_ r ∧ Below w.heap.size w w' := by
  have hlim : l0.length < 17592186044416 := by unfold clone99.f at h; split at h <;> simp_all
  obtain rfl : l0 = r := by unfold clone99.f at h; rw [if_pos hlim] at h; exact Option.some.inj h
  clear h
  have hq := fun w : World => Lib.run_eql_slice_nil (P := Tryd.prog) w 22 3 A0 l0.length c0 0 0 Tryd.underlying22
  have HLIM := Aside0.mk hlim
  clear hlim
  cases A0 with
  | none =>
    have h0 : l0 = [] := by
      apply List.eq_nil_of_length_eq_zero
      apply Nat.eq_zero_of_not_pos
      intro hp
      obtain ⟨ad, e, _⟩ := hr0.2.2 hp
      cases e
    subst h0
    clear hr0 hc0
    simp only [Option.isNone_none, List.length_nil] at hq
    go_enter Tryd.func96, Tryd.ntmps96
    go_wp2
    go_ret
    exact ⟨_, rfl, Kd.R_nil _ _ _ _ _, Below.refl _ _⟩
  | some ad0 =>
    have HR0 := Aside0.mk hr0
    have HC0 := Aside0.mk hc0
    clear hr0 hc0
    simp only [Option.isNone_some] at hq
    have HB := Aside0.mk (Below.refl w.heap.size w)
    go_enter Tryd.func96, Tryd.ntmps96
    go_wp2_with (first | ((with_reducible refine gate_dst (N := 5) rfl ?_); refine Kd.R_lit (Kd.int .i64) _ 3 ?hg (N := 5) ?hd (xs := ([] : List Int)) (inner := []) (ok := fun _ => True) (okp := fun _ => True) ?hr ?hp (fun _ hk => hk) trivial (Below.refl _ _) (Nat.le_refl _) (by simp) ?_; (case hd => rfl); (case hg => rfl); (case hr => first | (go_simp; done) | (go_simp; rfl)); (case hp => exact (Reps.none _ _)); intro v1 w1 ho1 hb hg_ hnew_; clear hg_ hnew_; have n0_ := Aside0.mk (Kd.R_lower ho1 (below_size zb)); have n1_ := Aside0.mk (below_step zb hb); clear HB; have HO1 := n0_; have HB := n1_; clear n0_ n1_; clear hb ho1) | ((with_reducible refine gate_builtin (b := .append) (xs := #[.tmp 5, .tmp 6]) rfl ?_); at_builtin; refine Kd.R_append_rows (Kd.int .i64) (w0 := w) w.heap.size rfl (.tmp 5) (.tmp 6) 22 3 (.int .i64 0) 8 rfl Tryd.underlying22 info3 rfl (by decide) (by omega) v1 ([] : List Int) l0 _ _ _ (fun _ => True) (fun _ => False) rfl rfl ?aO ?aR (fun _ _ h => h) (fun _ h => h.elim) ?aF ?aB ?aS ?aL ?_; (case aR => (repeat (first | exact (Kd.C_below HR0.out HB.out) | (with_reducible refine Kd.C_alloc ?_ _) | (with_reducible refine Kd.C_drewN ?_ _) | (with_reducible refine Kd.C_drew ?_)))); (case aB => exact zb); (case aF => exact (fun _ _ => trivial)); (case aO => exact (zR HO1.out)); (case aS => exact (below_size zb)); (case aL => have := HLIM.out; simp only [List.length_nil]; omega); intro v2 w2 ho hb hg hat; have n0_ := Aside0.mk (hb); have n1_ := Aside0.mk (ho); clear HB; clear HO1; have HB := n0_; have HO2 := n1_; clear n0_ n1_; clear ho hb hg hat))
    go_ret
    exact ⟨_, rfl, by have := HO2.out; simp only [List.nil_append] at this; (with_reducible repeat (first | apply Kd.R_alloc | apply Kd.R_drewN | apply Kd.R_drew)); exact this, zb⟩
set_option maxHeartbeats 1000000 in
theorem clip_calls (A : Option Addr) (n c : Nat) (hn : n ≤ c) (hm : n ≤ 9223372036854775807) (w : World) : Calls Tryd.prog 95 #[.slice A n c] w fun e w' => e = .returned (.slice A n n) ∧ Drawn0 w w' := by
  go_enter Tryd.func95, Tryd.ntmps95
  go_wp2
  go_ret
  exact ⟨by first | rfl | (simp; done), by repeat (first | exact Drawn0.refl _ | apply Drawn0.step)⟩
def impl_clone_int.f (l0 : List Int) : Option (List Int) := clone99.f l0
end Go.Proofs.YtdbgpoileffbeaaDoor.Ext
end
section
namespace Go.Proofs.YtdbgpoileffbeaaDoor.Pr
open Go.RowKit Go.Proofs.YtdbgpoileffbeaaDoorW.PrintWords Go.Proofs.YtdbgpoileffbeaaDoorW.PrintLast Go.Proofs.YtdbgpoileffbeaaDoor.Ext Go.Proofs.YtdbgpoileffbeaaDoorW.PrintMore
attribute [local go_sem] max2_int min2_int max_two min_two max_three min_three max_four min_four
set_option linter.unusedVariables false
set_option linter.unusedSimpArgs false
def laws_jtInts.l0 : Nat → List Int → List Int → Int → Option (Bool)
  | 0, _, _, _ => none
  | k + 1, x0, x1, x5 => if x5 < (x0.length : Int) then (if 0 ≤ x5 then (if x5 < (x1.length : Int) then (if (rd x0 x5) = (rd x1 x5) then (laws_jtInts.l0 k x0 x1 (wrap64 (x5 + 1))) else (some false)) else (none)) else (none)) else (some true)
def laws_jtInts.f (k : Nat) (l0 : List Int) (l1 : List Int) : Option (Bool) := if (l0.length : Int) = (l1.length : Int) then (laws_jtInts.l0 k l0 l1 0) else (some false)
def laws_jtBig.f (k : Nat) (a0_0 : Bool) (l0_1 : List Int) (a1_0 : Bool) (l1_1 : List Int) : Option (Bool) := if (a0_0 == a1_0) = true then ((laws_jtInts.f k l0_1 l1_1).bind fun t375 => (some t375)) else (some false)
end Go.Proofs.YtdbgpoileffbeaaDoor.Pr
end
section
namespace Go.Proofs.YtdbgpoileffbeaaDoor.Pr
open Go.RowKit Go.Proofs.YtdbgpoileffbeaaDoorW.PrintWords Go.Proofs.YtdbgpoileffbeaaDoorW.PrintLast Go.Proofs.YtdbgpoileffbeaaDoor.Ext Go.Proofs.YtdbgpoileffbeaaDoorW.PrintMore
attribute [local go_sem] max2_int min2_int max_two min_two max_three min_three max_four min_four
set_option linter.unusedVariables false
set_option linter.unusedSimpArgs false
def spec_l1IsFigures.l0 : Nat → ByteArray → Int → Option (Bool)
  | 0, _, _ => none
  | k + 1, x0, x3 => if x3 < (x0.size : Int) then (if 0 ≤ x3 then (if (bt x0 x3) < 48 then (some false) else (if (bt x0 x3) > 57 then (some false) else (spec_l1IsFigures.l0 k x0 (wrap64 (x3 + 1))))) else (none)) else (if (x0.size : Int) = 1 then (some true) else (if (x0.size : Int) > 1 then (if 0 < (x0.size : Int) then (some ((bt x0 0) != 48)) else (none)) else (some false)))
def spec_l1IsFigures.f (k : Nat) (a0 : ByteArray) : Option (Bool) := spec_l1IsFigures.l0 k a0 0
set_option maxHeartbeats 8000000 in
set_option maxRecDepth 100000 in
theorem spec_l1IsFigures.calls (k : Nat) (a0 : ByteArray) (r : Bool) (w : World) (h : spec_l1IsFigures.f k a0 = some r) :
    Calls Tryd.prog 43 #[.string a0] w fun e w' => e = .returned (.bool r) ∧ Drawn0 w w' := by
  have H : (spec_l1IsFigures.l0 k a0 0) = some r := h
  clear h
  have H' := Aside0.mk H
  clear H
  go_enter Tryd.func43, Tryd.ntmps43
  go_wp2
  go_loopg [3] k (fun kq v3 w' => ∃ (x3_1 : Int), v3 = .int .i64 x3_1 ∧ Aside0 (spec_l1IsFigures.l0 kq a0 x3_1 = some r) ∧ Aside0 (kq ≤ k) ∧ Drawn0 w w')
  case atStart => exact ⟨(0), (by first | rfl | (simp; done) | (simp [*]; done)), H', ⟨Nat.le_refl _⟩, by repeat (first | exact Drawn0.refl _ | apply Drawn0.step)⟩
  case round =>
    clear H'
    obtain ⟨x3_1, rfl, HA, HK1, ⟨m1, rfl⟩⟩ := hrel
    cases gk with
    | zero => exact absurd HA.out (by simp [spec_l1IsFigures.l0])
    | succ k1 =>
      have H := HA.out
      clear HA
      simp only [spec_l1IsFigures.l0] at H
      by_cases c2 : x3_1 < (a0.size : Int)
      · rw [if_pos c2] at H
        have c2b0 : decide (x3_1 < (a0.size : Int)) = true := decide_eq_true c2
        clear c2
        by_cases c3 : 0 ≤ x3_1
        · rw [if_pos c3] at H
          have c3b0 : decide (0 ≤ x3_1) = true := decide_eq_true c3
          clear c3
          by_cases c5 : (bt a0 x3_1) < 48
          · rw [if_pos c5] at H
            have c5b0 : decide ((bt a0 x3_1) < 48) = true := decide_eq_true c5
            clear c5
            obtain rfl := Option.some.inj H
            have p4 : 0 ≤ (x3_1 : Int) := of_decide_eq_true (by first | (with_reducible assumption) | assumption)
            have q4 : x3_1 < (a0.size : Int) := of_decide_eq_true (by first | (with_reducible assumption) | assumption)
            have hx4 := bt_at a0 x3_1
            replace p4 := eq_true p4
            replace q4 := eq_true q4
            go_wp2
            go_ret
            exact ⟨by first | rfl | (simp; done) | (simp [*]; done), by repeat (first | exact Drawn0.refl _ | apply Drawn0.step)⟩
          · rw [if_neg c5] at H
            have c5b0 : decide ((bt a0 x3_1) < 48) = false := decide_eq_false c5
            clear c5
            by_cases c7 : (bt a0 x3_1) > 57
            · rw [if_pos c7] at H
              have c7b0 : decide (57 < (bt a0 x3_1)) = true := decide_eq_true c7
              clear c7
              obtain rfl := Option.some.inj H
              have p4 : 0 ≤ (x3_1 : Int) := of_decide_eq_true (by first | (with_reducible assumption) | assumption)
              have q4 : x3_1 < (a0.size : Int) := of_decide_eq_true (by first | (with_reducible assumption) | assumption)
              have hx4 := bt_at a0 x3_1
              replace p4 := eq_true p4
              replace q4 := eq_true q4
              have p6 : 0 ≤ (x3_1 : Int) := of_decide_eq_true (by first | (with_reducible assumption) | assumption)
              have q6 : x3_1 < (a0.size : Int) := of_decide_eq_true (by first | (with_reducible assumption) | assumption)
              have hx6 := bt_at a0 x3_1
              replace p6 := eq_true p6
              replace q6 := eq_true q6
              go_wp2
              go_ret
              exact ⟨by first | rfl | (simp; done) | (simp [*]; done), by repeat (first | exact Drawn0.refl _ | apply Drawn0.step)⟩
            · rw [if_neg c7] at H
              have c7b0 : decide (57 < (bt a0 x3_1)) = false := decide_eq_false c7
              clear c7
              have H' := Aside0.mk H
              clear H
              have p4 : 0 ≤ (x3_1 : Int) := of_decide_eq_true (by first | (with_reducible assumption) | assumption)
              have q4 : x3_1 < (a0.size : Int) := of_decide_eq_true (by first | (with_reducible assumption) | assumption)
              have hx4 := bt_at a0 x3_1
              replace p4 := eq_true p4
              replace q4 := eq_true q4
              have p6 : 0 ≤ (x3_1 : Int) := of_decide_eq_true (by first | (with_reducible assumption) | assumption)
              have q6 : x3_1 < (a0.size : Int) := of_decide_eq_true (by first | (with_reducible assumption) | assumption)
              have hx6 := bt_at a0 x3_1
              replace p6 := eq_true p6
              replace q6 := eq_true q6
              go_wp2
              go_roundg k1
              case measure => have := HK1.out; omega
              case rel => exact ⟨(wrap64 (x3_1 + 1)), (by first | rfl | (simp; done) | (simp [*]; done)), H', ⟨by have := HK1.out; omega⟩, by repeat (first | exact Drawn0.refl _ | apply Drawn0.step)⟩
        · rw [if_neg c3] at H
          exact absurd H (by simp)
      · rw [if_neg c2] at H
        have c2b0 : decide (x3_1 < (a0.size : Int)) = false := decide_eq_false c2
        clear c2
        by_cases c8 : (a0.size : Int) = 1
        · rw [if_pos c8] at H
          have c8b0 : ((a0.size : Int) == 1) = true := beq_iff_eq.mpr c8
          have c8b1 : ((a0.size : Int) != 1) = false := bne_eq_false_iff_eq.mpr c8
          clear c8
          obtain rfl := Option.some.inj H
          go_wp2
          go_ret
          exact ⟨by first | rfl | (simp; done) | (simp [*]; done), by repeat (first | exact Drawn0.refl _ | apply Drawn0.step)⟩
        · rw [if_neg c8] at H
          have c8b0 : ((a0.size : Int) == 1) = false := beq_eq_false_iff_ne.mpr c8
          have c8b1 : ((a0.size : Int) != 1) = true := bne_iff_ne.mpr c8
          by_cases c9 : (a0.size : Int) > 1
          · rw [if_pos c9] at H
            have c9b0 : decide (1 < (a0.size : Int)) = true := decide_eq_true c9
            have c9b1 : decide (1 < a0.size) = true := decide_eq_true (by omega)
            clear c9
            by_cases c10 : 0 < (a0.size : Int)
            · rw [if_pos c10] at H
              have c10b0 : decide (0 < (a0.size : Int)) = true := decide_eq_true c10
              have c10b1 : decide (0 < a0.size) = true := decide_eq_true (by omega)
              clear c10
              obtain rfl := Option.some.inj H
              have p11 : 0 ≤ (0 : Int) := (by omega)
              have q11 : 0 < a0.size := (by have : (0 : Int) < (a0.size : Int) := of_decide_eq_true (by first | (with_reducible assumption) | assumption); omega)
              have hx11 : ∀ h : 0 < a0.size, ((a0[0]'h).toNat : Int) = bt a0 0 := bt_at a0 0
              clear p11
              have qi11 : (0 < (a0.size : Int)) = True := eq_true (of_decide_eq_true (by first | (with_reducible assumption) | assumption))
              replace q11 := eq_true q11
              go_wp2
              go_ret
              exact ⟨by first | rfl | (simp; done) | (simp [*]; done), by repeat (first | exact Drawn0.refl _ | apply Drawn0.step)⟩
            · rw [if_neg c10] at H
              exact absurd H (by simp)
          · rw [if_neg c9] at H
            have c9b0 : decide (1 < (a0.size : Int)) = false := decide_eq_false c9
            have c9b1 : decide (1 < a0.size) = false := decide_eq_false (by omega)
            clear c9
            obtain rfl := Option.some.inj H
            go_wp2
            go_ret
            exact ⟨by first | rfl | (simp; done) | (simp [*]; done), by repeat (first | exact Drawn0.refl _ | apply Drawn0.step)⟩
def spec_l1Trim.l0 : Nat → List Int → Int → Option (List Int)
  | 0, _, _ => none
  | k + 1, x0, x3 => if x3 > 0 then (if 0 ≤ (wrap64 (x3 - 1)) then (if (wrap64 (x3 - 1)) < (x0.length : Int) then (if (rd x0 (wrap64 (x3 - 1))) = 0 then (spec_l1Trim.l0 k x0 (wrap64 (x3 - 1))) else ((some (([] : List Int) : List Int)).bind fun y107 => (if 0 ≤ x3 then (if x3 ≤ (x0.length : Int) then (if y107.length + (x0.take (x3 : Int).toNat).length < 17592186044416 then (some (y107 ++ (x0.take (x3 : Int).toNat))) else (none)) else (none)) else (none)))) else (none)) else (none)) else ((some (([] : List Int) : List Int)).bind fun y114 => (if 0 ≤ x3 then (if x3 ≤ (x0.length : Int) then (if y114.length + (x0.take (x3 : Int).toNat).length < 17592186044416 then (some (y114 ++ (x0.take (x3 : Int).toNat))) else (none)) else (none)) else (none)))
def spec_l1Trim.f (k : Nat) (l0 : List Int) : Option (List Int) := spec_l1Trim.l0 k l0 (l0.length : Int)
set_option maxHeartbeats 8000000 in
set_option maxRecDepth 100000 in
theorem spec_l1Trim.calls (k : Nat) (A0 : Option Addr) (c0 : Nat) (l0 : List Int) (r : List Int) (w : World) (hr0 : Kd.C (Kd.int .i64) w A0 l0.length l0) (hc0 : l0.length ≤ c0) (h : spec_l1Trim.f k l0 = some r) :
    Calls Tryd.prog 77 #[.slice A0 l0.length c0] w fun e w' => ∃ v0_ : Value, e = .returned (v0_) ∧ Kd.R (Kd.int .i64) 3 w' w.heap.size (fun _ => True) v0_ r ∧ Below w.heap.size w w' := by
  have HR0 := Aside0.mk hr0
  have HC0 := Aside0.mk hc0
  clear hr0 hc0
  have HB := Aside0.mk (Below.refl w.heap.size w)
  have H : (spec_l1Trim.l0 k l0 (l0.length : Int)) = some r := h
  clear h
  have H' := Aside0.mk H
  clear H
  go_enter Tryd.func77, Tryd.ntmps77
  go_wp2
  go_loopg [3] k (fun kq v3 w' => ∃ (x3_1 : Int), v3 = .int .i64 x3_1 ∧ Aside0 (spec_l1Trim.l0 kq l0 x3_1 = some r) ∧ Aside0 (kq ≤ k) ∧ Aside0 (Below w.heap.size w w'))
  case atStart => exact ⟨((l0.length : Int)), (by first | rfl | (simp; done) | (simp [*]; done)), H', ⟨Nat.le_refl _⟩, ⟨zb⟩⟩
  case round =>
    clear H'
    obtain ⟨x3_1, rfl, HA, HK1, HB⟩ := hrel
    cases gk with
    | zero => exact absurd HA.out (by simp [spec_l1Trim.l0])
    | succ k1 =>
      have H := HA.out
      clear HA
      simp only [spec_l1Trim.l0] at H
      by_cases c2 : x3_1 > 0
      · rw [if_pos c2] at H
        have c2b0 : decide (0 < x3_1) = true := decide_eq_true c2
        clear c2
        obtain ⟨ji3, hji3⟩ : ∃ j_ : Int, (wrap64 (x3_1 - 1)) = j_ := ⟨_, rfl⟩
        replace H : (if 0 ≤ (ji3) then (if (ji3) < (l0.length : Int) then (if (rd l0 (ji3)) = 0 then (spec_l1Trim.l0 k1 l0 ji3) else ((some (([] : List Int) : List Int)).bind fun y107 => (if 0 ≤ x3_1 then (if x3_1 ≤ (l0.length : Int) then (if y107.length + (l0.take (x3_1 : Int).toNat).length < 17592186044416 then (some (y107 ++ (l0.take (x3_1 : Int).toNat))) else (none)) else (none)) else (none)))) else (none)) else (none)) = some r := by first | (rw [hji3] at H; exact H) | (simp only [hji3] at H ⊢; exact H)
        have hji3w : (IntKind.i64.wrap (x3_1 - 1)) = ji3 := (i64_w _).trans hji3
        by_cases c4 : 0 ≤ (ji3)
        · rw [if_pos c4] at H
          have c4b0 : decide (0 ≤ (ji3)) = true := decide_eq_true c4
          clear c4
          by_cases c5 : (ji3) < (l0.length : Int)
          · rw [if_pos c5] at H
            have c5b0 : decide ((ji3) < (l0.length : Int)) = true := decide_eq_true c5
            clear c5
            by_cases c6 : (rd l0 (ji3)) = 0
            · rw [if_pos c6] at H
              have c6b0 : ((rd l0 (ji3)) == 0) = true := beq_iff_eq.mpr c6
              have c6b1 : ((rd l0 (ji3)) != 0) = false := bne_eq_false_iff_eq.mpr c6
              clear c6
              have H' := Aside0.mk H
              clear H
              have p106 : 0 ≤ ((ji3) : Int) := of_decide_eq_true (by first | (with_reducible assumption) | assumption)
              have q106 : (ji3) < (l0.length : Int) := of_decide_eq_true (by first | (with_reducible assumption) | assumption)
              obtain ⟨ad106, e106, hx106_0⟩ := Kd.at_int HR0.out (ji3) p106 q106
              cases e106
              replace hx106_0 := (HB.out.cell (World.block_lt_of_cell? w _ hx106_0)).trans hx106_0
              replace p106 := eq_true p106
              replace q106 := eq_true q106
              go_wp2
              go_roundg k1
              case measure => have := HK1.out; omega
              case rel => exact ⟨(ji3), (by first | rfl | (simp; done) | (simp only [← hji3] <;> (first | rfl | simp)) | (simp [*]; done)), H', ⟨by have := HK1.out; omega⟩, ⟨zb⟩⟩
            · rw [if_neg c6] at H
              have c6b0 : ((rd l0 (ji3)) == 0) = false := beq_eq_false_iff_ne.mpr c6
              have c6b1 : ((rd l0 (ji3)) != 0) = true := bne_iff_ne.mpr c6
              obtain ⟨y107, hy107⟩ : ∃ y_ : List Int, y_ = (([] : List Int)) := ⟨_, rfl⟩
              replace H : (if 0 ≤ x3_1 then (if x3_1 ≤ (l0.length : Int) then (if y107.length + (l0.take (x3_1 : Int).toNat).length < 17592186044416 then (some (y107 ++ (l0.take (x3_1 : Int).toNat))) else (none)) else (none)) else (none)) = some r := by first | (rw [hy107]; with_reducible exact H) | (have H2_ := (Option.bind_some _ _).symm.trans H; rw [hy107]; with_reducible exact H2_) | (have H2_ := (Option.bind_some _ _).symm.trans H; with_reducible exact H2_) | with_reducible exact H | (rw [hy107]; exact H) | exact H
              have Ny107 := Aside0.mk hy107
              clear hy107
              by_cases c7 : 0 ≤ x3_1
              · rw [if_pos c7] at H
                have c7b0 := eq_true c7
                have c7b1 : decide (0 ≤ x3_1) = true := decide_eq_true c7
                clear c7
                by_cases c8 : x3_1 ≤ (l0.length : Int)
                · rw [if_pos c8] at H
                  have c8b0 := eq_true c8
                  have c8b1 : decide (x3_1 ≤ (l0.length : Int)) = true := decide_eq_true c8
                  clear c8
                  by_cases c9 : y107.length + (l0.take (x3_1 : Int).toNat).length < 17592186044416
                  · rw [if_pos c9] at H
                    have LMc9 := Aside0.mk c9
                    clear c9
                    obtain ⟨y111, hy111⟩ : ∃ y_ : List Int, y_ = (y107 ++ (l0.take (x3_1 : Int).toNat)) := ⟨_, rfl⟩
                    replace H : (some y111) = some r := by first | (rw [hy111]; with_reducible exact H) | (have H2_ := (Option.bind_some _ _).symm.trans H; rw [hy111]; with_reducible exact H2_) | (have H2_ := (Option.bind_some _ _).symm.trans H; with_reducible exact H2_) | with_reducible exact H | (rw [hy111]; exact H) | exact H
                    have Ny111 := Aside0.mk hy111
                    clear hy111
                    obtain rfl := Option.some.inj H
                    have p106 : 0 ≤ ((ji3) : Int) := of_decide_eq_true (by first | (with_reducible assumption) | assumption)
                    have q106 : (ji3) < (l0.length : Int) := of_decide_eq_true (by first | (with_reducible assumption) | assumption)
                    obtain ⟨ad106, e106, hx106_0⟩ := Kd.at_int HR0.out (ji3) p106 q106
                    cases e106
                    replace hx106_0 := (HB.out.cell (World.block_lt_of_cell? w _ hx106_0)).trans hx106_0
                    replace p106 := eq_true p106
                    replace q106 := eq_true q106
                    go_wp2_with (first | ((with_reducible refine gate_dst (N := 18) rfl ?_); refine Kd.R_lit (Kd.int .i64) _ 3 ?hg (N := 18) ?hd (xs := ([] : List Int)) (inner := []) (ok := fun _ => True) (okp := fun _ => True) ?hr ?hp (fun _ hk => hk) trivial (Below.refl _ _) (Nat.le_refl _) (by simp) ?_; (case hd => rfl); (case hg => rfl); (case hr => first | (go_simp; done) | (go_simp; rfl)); (case hp => exact (Reps.none _ _)); intro v108 w10 ho11 hb hg_ hnew_; clear hg_ hnew_; (first | rw [← Ny107.out] at ho11 | (simp only [Int.reduceToNat] at ho11; rw [← Ny107.out] at ho11)); have n0_ := Aside0.mk (Kd.R_lower ho11 (below_size zb)); have n1_ := Aside0.mk (below_step zb hb); clear HB; have HO109 := n0_; have HB := n1_; clear n0_ n1_; clear hb ho11; obtain ⟨i012, hi012, _, hsz12, _⟩ := info_parts info3; obtain ⟨hcut12, hA12, hC12⟩ := print_take_of (P := Tryd.prog) (Value.int .i64) 0 22 3 .i64 Tryd.underlying22 hi012 hsz12 (some ad106) c0 l0 x3_1 (of_decide_eq_true (by first | (with_reducible assumption) | assumption)) (of_decide_eq_true (by first | (with_reducible assumption) | assumption)) HC0.out; have HR110 := Aside0.mk (Kd.C_of_reads (h1 := fun _ => rfl) (hA12 _ (Kd.reads_of_C HR0.out))); have HC110 := Aside0.mk hC12; clear hA12 hC12 hi012 hsz12) | ((with_reducible refine gate_builtin (b := .append) (xs := #[.tmp 18, .tmp 21]) rfl ?_); at_builtin; refine Kd.R_append_rows (Kd.int .i64) (w0 := w) w.heap.size rfl (.tmp 18) (.tmp 21) 22 3 (.int .i64 0) 8 rfl Tryd.underlying22 info3 rfl (by decide) (by omega) v108 y107 (l0.take (x3_1 : Int).toNat) _ _ _ (fun _ => True) (fun _ => False) rfl rfl ?aO ?aR (fun _ _ h => h) (fun _ h => h.elim) ?aF ?aB ?aS ?aL ?_; (case aR => first | (have e_ : (l0.take (x3_1 : Int).toNat).length = x3_1.toNat := (by rw [List.length_take]; have h_ : (x3_1 : Int) ≤ (l0.length : Int) := of_decide_eq_true (by first | (with_reducible assumption) | assumption); omega); (repeat (first | (with_reducible refine Kd.C_alloc ?_ _) | (with_reducible refine Kd.C_drewN ?_ _) | (with_reducible refine Kd.C_drew ?_))); have z_ := (Kd.C_below HR110.out HB.out); rw [e_] at z_; exact z_)  | (rw [← show (l0.take (x3_1 : Int).toNat).length = x3_1.toNat from (by rw [List.length_take]; have h_ : (x3_1 : Int) ≤ (l0.length : Int) := of_decide_eq_true (by first | (with_reducible assumption) | assumption); omega)]; repeat (first | exact (Kd.C_below HR110.out HB.out) | (with_reducible refine Kd.C_alloc ?_ _) | (with_reducible refine Kd.C_drewN ?_ _) | (with_reducible refine Kd.C_drew ?_))) | (repeat (first | exact (Kd.C_below HR110.out HB.out) | (with_reducible refine Kd.C_alloc ?_ _) | (with_reducible refine Kd.C_drewN ?_ _) | (with_reducible refine Kd.C_drew ?_)))); (case aB => exact zb); (case aF => exact (fun _ _ => trivial)); (case aO => exact (zR HO109.out)); (case aS => exact (below_size zb)); (case aL => have := LMc9.out; have hlx_ := (show (l0.take (x3_1 : Int).toNat).length = x3_1.toNat from (by rw [List.length_take]; have h_ : (x3_1 : Int) ≤ (l0.length : Int) := of_decide_eq_true (by first | (with_reducible assumption) | assumption); omega)); omega); intro v112 w13 ho hb hg hat; rw [← Ny111.out] at ho; have n0_ := Aside0.mk (hb); have n1_ := Aside0.mk (ho); clear HB; clear HO109; have HB := n0_; have HO113 := n1_; clear n0_ n1_; clear ho hb hg hat))
                    go_ret
                    exact ⟨_, by first | rfl | (simp [errW_none, errW_some] <;> rfl) | (simp only [← hji3]; first | rfl | (simp [errW_none, errW_some] <;> rfl)) | (simp [*, errW_none, errW_some] <;> rfl), by (with_reducible repeat (first | apply Kd.R_alloc | apply Kd.R_drewN | apply Kd.R_drew)); exact HO113.out, zb⟩
                  · rw [if_neg c9] at H
                    exact absurd H (by simp)
                · rw [if_neg c8] at H
                  exact absurd H (by simp)
              · rw [if_neg c7] at H
                exact absurd H (by simp)
          · rw [if_neg c5] at H
            exact absurd H (by simp)
        · rw [if_neg c4] at H
          exact absurd H (by simp)
      · rw [if_neg c2] at H
        have c2b0 : decide (0 < x3_1) = false := decide_eq_false c2
        clear c2
        obtain ⟨y114, hy114⟩ : ∃ y_ : List Int, y_ = (([] : List Int)) := ⟨_, rfl⟩
        replace H : (if 0 ≤ x3_1 then (if x3_1 ≤ (l0.length : Int) then (if y114.length + (l0.take (x3_1 : Int).toNat).length < 17592186044416 then (some (y114 ++ (l0.take (x3_1 : Int).toNat))) else (none)) else (none)) else (none)) = some r := by first | (rw [hy114]; with_reducible exact H) | (have H2_ := (Option.bind_some _ _).symm.trans H; rw [hy114]; with_reducible exact H2_) | (have H2_ := (Option.bind_some _ _).symm.trans H; with_reducible exact H2_) | with_reducible exact H | (rw [hy114]; exact H) | exact H
        have Ny114 := Aside0.mk hy114
        clear hy114
        by_cases c14 : 0 ≤ x3_1
        · rw [if_pos c14] at H
          have c14b0 := eq_true c14
          have c14b1 : decide (0 ≤ x3_1) = true := decide_eq_true c14
          clear c14
          by_cases c15 : x3_1 ≤ (l0.length : Int)
          · rw [if_pos c15] at H
            have c15b0 := eq_true c15
            have c15b1 : decide (x3_1 ≤ (l0.length : Int)) = true := decide_eq_true c15
            clear c15
            by_cases c16 : y114.length + (l0.take (x3_1 : Int).toNat).length < 17592186044416
            · rw [if_pos c16] at H
              have LMc16 := Aside0.mk c16
              clear c16
              obtain ⟨y118, hy118⟩ : ∃ y_ : List Int, y_ = (y114 ++ (l0.take (x3_1 : Int).toNat)) := ⟨_, rfl⟩
              replace H : (some y118) = some r := by first | (rw [hy118]; with_reducible exact H) | (have H2_ := (Option.bind_some _ _).symm.trans H; rw [hy118]; with_reducible exact H2_) | (have H2_ := (Option.bind_some _ _).symm.trans H; with_reducible exact H2_) | with_reducible exact H | (rw [hy118]; exact H) | exact H
              have Ny118 := Aside0.mk hy118
              clear hy118
              obtain rfl := Option.some.inj H
              go_wp2_with (first | ((with_reducible refine gate_dst (N := 18) rfl ?_); refine Kd.R_lit (Kd.int .i64) _ 3 ?hg (N := 18) ?hd (xs := ([] : List Int)) (inner := []) (ok := fun _ => True) (okp := fun _ => True) ?hr ?hp (fun _ hk => hk) trivial (Below.refl _ _) (Nat.le_refl _) (by simp) ?_; (case hd => rfl); (case hg => rfl); (case hr => first | (go_simp; done) | (go_simp; rfl)); (case hp => exact (Reps.none _ _)); intro v115 w17 ho18 hb hg_ hnew_; clear hg_ hnew_; (first | rw [← Ny114.out] at ho18 | (simp only [Int.reduceToNat] at ho18; rw [← Ny114.out] at ho18)); have n0_ := Aside0.mk (Kd.R_lower ho18 (below_size zb)); have n1_ := Aside0.mk (below_step zb hb); clear HB; have HO116 := n0_; have HB := n1_; clear n0_ n1_; clear hb ho18; obtain ⟨i019, hi019, _, hsz19, _⟩ := info_parts info3; obtain ⟨hcut19, hA19, hC19⟩ := print_take_of (P := Tryd.prog) (Value.int .i64) 0 22 3 .i64 Tryd.underlying22 hi019 hsz19 A0 c0 l0 x3_1 (of_decide_eq_true (by first | (with_reducible assumption) | assumption)) (of_decide_eq_true (by first | (with_reducible assumption) | assumption)) HC0.out; have HR117 := Aside0.mk (Kd.C_of_reads (h1 := fun _ => rfl) (hA19 _ (Kd.reads_of_C HR0.out))); have HC117 := Aside0.mk hC19; clear hA19 hC19 hi019 hsz19) | ((with_reducible refine gate_builtin (b := .append) (xs := #[.tmp 18, .tmp 21]) rfl ?_); at_builtin; refine Kd.R_append_rows (Kd.int .i64) (w0 := w) w.heap.size rfl (.tmp 18) (.tmp 21) 22 3 (.int .i64 0) 8 rfl Tryd.underlying22 info3 rfl (by decide) (by omega) v115 y114 (l0.take (x3_1 : Int).toNat) _ _ _ (fun _ => True) (fun _ => False) rfl rfl ?aO ?aR (fun _ _ h => h) (fun _ h => h.elim) ?aF ?aB ?aS ?aL ?_; (case aR => first | (have e_ : (l0.take (x3_1 : Int).toNat).length = x3_1.toNat := (by rw [List.length_take]; have h_ : (x3_1 : Int) ≤ (l0.length : Int) := of_decide_eq_true (by first | (with_reducible assumption) | assumption); omega); (repeat (first | (with_reducible refine Kd.C_alloc ?_ _) | (with_reducible refine Kd.C_drewN ?_ _) | (with_reducible refine Kd.C_drew ?_))); have z_ := (Kd.C_below HR117.out HB.out); rw [e_] at z_; exact z_)  | (rw [← show (l0.take (x3_1 : Int).toNat).length = x3_1.toNat from (by rw [List.length_take]; have h_ : (x3_1 : Int) ≤ (l0.length : Int) := of_decide_eq_true (by first | (with_reducible assumption) | assumption); omega)]; repeat (first | exact (Kd.C_below HR117.out HB.out) | (with_reducible refine Kd.C_alloc ?_ _) | (with_reducible refine Kd.C_drewN ?_ _) | (with_reducible refine Kd.C_drew ?_))) | (repeat (first | exact (Kd.C_below HR117.out HB.out) | (with_reducible refine Kd.C_alloc ?_ _) | (with_reducible refine Kd.C_drewN ?_ _) | (with_reducible refine Kd.C_drew ?_)))); (case aB => exact zb); (case aF => exact (fun _ _ => trivial)); (case aO => exact (zR HO116.out)); (case aS => exact (below_size zb)); (case aL => have := LMc16.out; have hlx_ := (show (l0.take (x3_1 : Int).toNat).length = x3_1.toNat from (by rw [List.length_take]; have h_ : (x3_1 : Int) ≤ (l0.length : Int) := of_decide_eq_true (by first | (with_reducible assumption) | assumption); omega)); omega); intro v119 w20 ho hb hg hat; rw [← Ny118.out] at ho; have n0_ := Aside0.mk (hb); have n1_ := Aside0.mk (ho); clear HB; clear HO116; have HB := n0_; have HO120 := n1_; clear n0_ n1_; clear ho hb hg hat))
              go_ret
              exact ⟨_, by first | rfl | (simp [errW_none, errW_some] <;> rfl) | (simp [*, errW_none, errW_some] <;> rfl), by (with_reducible repeat (first | apply Kd.R_alloc | apply Kd.R_drewN | apply Kd.R_drew)); exact HO120.out, zb⟩
            · rw [if_neg c16] at H
              exact absurd H (by simp)
          · rw [if_neg c15] at H
            exact absurd H (by simp)
        · rw [if_neg c14] at H
          exact absurd H (by simp)
def spec_l1Big.f (k : Nat) (a0 : Bool) (l1 : List Int) : Option (Bool × List Int × Bool) := (spec_l1Trim.f k l1).bind fun t122 => (if (t122.length : Int) > 16 then (some (false, ([] : List Int), false)) else (if a0 = true then (some (decide (0 < t122.length), t122, true)) else (some (false, t122, true))))
set_option maxHeartbeats 8000000 in
set_option maxRecDepth 100000 in
theorem spec_l1Big.calls (k : Nat) (a0 : Bool) (A1 : Option Addr) (c1 : Nat) (l1 : List Int) (r1 : Bool) (r2 : List Int) (r3 : Bool) (w : World) (hr1 : Kd.C (Kd.int .i64) w A1 l1.length l1) (hc1 : l1.length ≤ c1) (h : spec_l1Big.f k a0 l1 = some (r1, r2, r3)) :
    Calls Tryd.prog 44 #[.bool a0, .slice A1 l1.length c1] w fun e w' => ∃ v1_ : Value, e = .returned (.tuple #[.agg #[.bool r1, v1_], .bool r3]) ∧ Kd.R (Kd.int .i64) 3 w' w.heap.size (fun _ => True) v1_ r2 ∧ Below w.heap.size w w' := by
  have hu27 := Tryd.underlying27
  have HR1 := Aside0.mk hr1
  have HC1 := Aside0.mk hc1
  clear hr1 hc1
  have HB := Aside0.mk (Below.refl w.heap.size w)
  have H : ((spec_l1Trim.f k l1).bind fun t122 => (if (t122.length : Int) > 16 then (some (false, ([] : List Int), false)) else (if a0 = true then (some (decide (0 < t122.length), t122, true)) else (some (false, t122, true))))) = some (r1, r2, r3) := h
  clear h
  replace H := Option.bind_eq_some_iff.mp H
  obtain ⟨t122, A30, H⟩ := H
  replace H : (if (t122.length : Int) > 16 then (some (false, ([] : List Int), false)) else (if a0 = true then (some (decide (0 < t122.length), t122, true)) else (some (false, t122, true)))) = some (r1, r2, r3) := H
  have A3 := Aside0.mk A30
  clear A30
  by_cases c4 : (t122.length : Int) > 16
  · rw [if_pos c4] at H
    have c4b0 : decide (16 < (t122.length : Int)) = true := decide_eq_true c4
    have c4b1 : decide (16 < t122.length) = true := decide_eq_true (by omega)
    clear c4
    simp only [Option.some.injEq, Prod.mk.injEq] at H
    obtain ⟨rfl, rfl, rfl⟩ := H
    go_enter Tryd.func44, Tryd.ntmps44
    go_wp2_with (first | ((with_reducible refine gate_dst (N := 4) rfl ?_); (try (refine gate_guard (by rfl) ?_; dsimp only)); refine box_event ?hg (N := 4) ?hd (cs := #[.bool false, .slice none 0 0]) (t := 27) ?hr ?_; (case hd => rfl); (case hg => rfl); (case hr => first | (go_simp; done) | (go_simp; rfl)); intro gb121 hg w5 hbox hb; have n0_ := Aside0.mk (below_step zb hb); have n1_ := Aside0.mk (hbox); have n2_ := Aside0.mk ((by rw [hg]; exact (below_size zb) : w.heap.size ≤ gb121)); have n3_ := Aside0.mk ((by rw [hg]; exact (below_size zb) : w.heap.size ≤ gb121)); clear HB; have HB := n0_; have BK121 := n1_; have GW121 := n2_; have GE121 := n3_; clear n0_ n1_ n2_ n3_; clear hb hbox hg) | ((with_reducible refine gate_callee (f := 77) rfl ?_); refine goesL_ (some 8) rfl rfl Tryd.func77 (by kernel_rfl) rfl #[.slice A1 l1.length c1] rfl za ?_; (with_reducible refine (spec_l1Trim.calls k _ _ l1 t122 _ ?side1 ?side2 A3.out).mono ?_); (case side1 => repeat (first | exact (Kd.C_below HR1.out HB.out) | (with_reducible refine Kd.C_alloc ?_ _) | (with_reducible refine Kd.C_drewN ?_ _) | (with_reducible refine Kd.C_drew ?_))); (case side2 => exact HC1.out); rintro e w6 ⟨v123, rfl, ho0, hb⟩; refine ⟨_, rfl, ?_⟩; have n0_ := Aside0.mk (Kd.R_lower ho0 (below_size zb)); have n1_ := Aside0.mk (blk_below (g := gb121) (o := .cells #[.bool false, .slice none 0 0] 27 (0, 0)) (zk BK121.out) hb); have n2_ := Aside0.mk (below_step zb hb); clear BK121; clear HB; have HO124 := n0_; have BK121 := n1_; have HB := n2_; clear n0_ n1_ n2_; (try clear hb); (try clear hb2); (try clear hk); (try clear hi); (try clear ho0); obtain ⟨Ao7, co7, eo7⟩ := Kd.R_slice HO124.out; subst eo7; have hcz8_0 : w6.cell? ⟨gb121, 0, none⟩ = some (.bool false) := (blk_cell BK121.out 0).trans rfl; have hcz8_1 : w6.cell? ⟨gb121, 1, none⟩ = some (.slice none 0 0) := (blk_cell BK121.out 1).trans rfl; have hfz8_0 := blk_frozen BK121.out 0; have hfz8_1 := blk_frozen BK121.out 1))
    refine bodyPost_ret (results_ct rfl _ _ gb121 27 #[.bool false, .slice none 0 0] (0, 0) _ rfl (by (with_reducible repeat (first | refine blk_drewN ?_ _ | refine blk_drew ?_ | refine blk_alloc ?_ _)); refine blk_put (cs := #[.bool false, .slice none 0 0]) ?_ 1 _ rfl; (with_reducible repeat (first | refine blk_drewN ?_ _ | refine blk_drew ?_ | refine blk_alloc ?_ _)); refine blk_put (cs := #[.bool false, .slice none 0 0]) ?_ 0 _ rfl; (with_reducible repeat (first | refine blk_drewN ?_ _ | refine blk_drew ?_ | refine blk_alloc ?_ _)); exact BK121.out) Tryd.underlying27 rfl (by kernel_rfl)) rfl ?_
    exact ⟨_, by first | rfl | (simp [errW_none, errW_some] <;> rfl) | (simp [*, errW_none, errW_some] <;> rfl), by first | exact Kd.R_nil _ _ _ _ _ | exact Kd.N_nil _ _ _ _ _ | exact Kd.V_nil _ _ _ _ _ | exact Kd.Q_nil _ _ _ _ _ | exact Kd.S_nil _ _ _ _ _, zb⟩
  · rw [if_neg c4] at H
    have c4b0 : decide (16 < (t122.length : Int)) = false := decide_eq_false c4
    have c4b1 : decide (16 < t122.length) = false := decide_eq_false (by omega)
    clear c4
    by_cases c9 : a0 = true
    · subst c9
      have H1 : (some (decide (0 < t122.length), t122, true)) = some (r1, r2, r3) := by rw [if_pos rfl] at H; exact H
      clear H
      have H := H1
      clear H1
      simp only [Option.some.injEq, Prod.mk.injEq] at H
      obtain ⟨rfl, rfl, rfl⟩ := H
      go_enter Tryd.func44, Tryd.ntmps44
      go_wp2_with (first | ((with_reducible refine gate_dst (N := 4) rfl ?_); (try (refine gate_guard (by rfl) ?_; dsimp only)); refine box_event ?hg (N := 4) ?hd (cs := #[.bool false, .slice none 0 0]) (t := 27) ?hr ?_; (case hd => rfl); (case hg => rfl); (case hr => first | (go_simp; done) | (go_simp; rfl)); intro gb121 hg w10 hbox hb; have n0_ := Aside0.mk (below_step zb hb); have n1_ := Aside0.mk (hbox); have n2_ := Aside0.mk ((by rw [hg]; exact (below_size zb) : w.heap.size ≤ gb121)); have n3_ := Aside0.mk ((by rw [hg]; exact (below_size zb) : w.heap.size ≤ gb121)); clear HB; have HB := n0_; have BK121 := n1_; have GW121 := n2_; have GE121 := n3_; clear n0_ n1_ n2_ n3_; clear hb hbox hg) | ((with_reducible refine gate_callee (f := 77) rfl ?_); refine goesL_ (some 8) rfl rfl Tryd.func77 (by kernel_rfl) rfl #[.slice A1 l1.length c1] rfl za ?_; (with_reducible refine (spec_l1Trim.calls k _ _ l1 t122 _ ?side1 ?side2 A3.out).mono ?_); (case side1 => repeat (first | exact (Kd.C_below HR1.out HB.out) | (with_reducible refine Kd.C_alloc ?_ _) | (with_reducible refine Kd.C_drewN ?_ _) | (with_reducible refine Kd.C_drew ?_))); (case side2 => exact HC1.out); rintro e w11 ⟨v123, rfl, ho0, hb⟩; refine ⟨_, rfl, ?_⟩; have n0_ := Aside0.mk (Kd.R_lower ho0 (below_size zb)); have n1_ := Aside0.mk (blk_below (g := gb121) (o := .cells #[.bool false, .slice none 0 0] 27 (0, 0)) (zk BK121.out) hb); have n2_ := Aside0.mk (below_step zb hb); clear BK121; clear HB; have HO124 := n0_; have BK121 := n1_; have HB := n2_; clear n0_ n1_ n2_; (try clear hb); (try clear hb2); (try clear hk); (try clear hi); (try clear ho0); obtain ⟨Ao12, co12, eo12⟩ := Kd.R_slice HO124.out; subst eo12; have hcz13_0 : w11.cell? ⟨gb121, 0, none⟩ = some (.bool false) := (blk_cell BK121.out 0).trans rfl; have hcz13_1 : w11.cell? ⟨gb121, 1, none⟩ = some (.slice none 0 0) := (blk_cell BK121.out 1).trans rfl; have hfz13_0 := blk_frozen BK121.out 0; have hfz13_1 := blk_frozen BK121.out 1))
      refine bodyPost_ret (results_ct rfl _ _ gb121 27 #[.bool (decide (0 < t122.length)), .slice Ao12 t122.length co12] (0, 0) _ rfl (by (with_reducible repeat (first | refine blk_drewN ?_ _ | refine blk_drew ?_ | refine blk_alloc ?_ _)); refine blk_put (cs := #[.bool (decide (0 < t122.length)), .slice none 0 0]) ?_ 1 _ rfl; (with_reducible repeat (first | refine blk_drewN ?_ _ | refine blk_drew ?_ | refine blk_alloc ?_ _)); refine blk_put (cs := #[.bool false, .slice none 0 0]) ?_ 0 _ rfl; (with_reducible repeat (first | refine blk_drewN ?_ _ | refine blk_drew ?_ | refine blk_alloc ?_ _)); exact BK121.out) Tryd.underlying27 rfl (by kernel_rfl)) rfl ?_
      exact ⟨_, by first | rfl | (simp [errW_none, errW_some] <;> rfl) | (simp [*, errW_none, errW_some] <;> rfl), by (with_reducible repeat (first | apply Kd.R_alloc | apply Kd.R_drewN | apply Kd.R_drew)); exact Kd.R_mono (Kd.R_far (p := ⟨gb121, 1, none⟩) (Kd.R_far (p := ⟨gb121, 0, none⟩) (Kd.R_types HO124.out BK121.out (by decide)) (fun _ hk => hk.2) (.bool (decide (0 < t122.length)))) (fun _ hk => hk.2) (.slice Ao12 t122.length co12)) (fun _ hk => trivial), zb⟩
    · replace c9 := Bool.eq_false_iff.mpr c9
      subst c9
      have H1 : (some (false, t122, true)) = some (r1, r2, r3) := by rw [if_neg (show ¬ (false = true) by decide)] at H; exact H
      clear H
      have H := H1
      clear H1
      simp only [Option.some.injEq, Prod.mk.injEq] at H
      obtain ⟨rfl, rfl, rfl⟩ := H
      go_enter Tryd.func44, Tryd.ntmps44
      go_wp2_with (first | ((with_reducible refine gate_dst (N := 4) rfl ?_); (try (refine gate_guard (by rfl) ?_; dsimp only)); refine box_event ?hg (N := 4) ?hd (cs := #[.bool false, .slice none 0 0]) (t := 27) ?hr ?_; (case hd => rfl); (case hg => rfl); (case hr => first | (go_simp; done) | (go_simp; rfl)); intro gb121 hg w14 hbox hb; have n0_ := Aside0.mk (below_step zb hb); have n1_ := Aside0.mk (hbox); have n2_ := Aside0.mk ((by rw [hg]; exact (below_size zb) : w.heap.size ≤ gb121)); have n3_ := Aside0.mk ((by rw [hg]; exact (below_size zb) : w.heap.size ≤ gb121)); clear HB; have HB := n0_; have BK121 := n1_; have GW121 := n2_; have GE121 := n3_; clear n0_ n1_ n2_ n3_; clear hb hbox hg) | ((with_reducible refine gate_callee (f := 77) rfl ?_); refine goesL_ (some 8) rfl rfl Tryd.func77 (by kernel_rfl) rfl #[.slice A1 l1.length c1] rfl za ?_; (with_reducible refine (spec_l1Trim.calls k _ _ l1 t122 _ ?side1 ?side2 A3.out).mono ?_); (case side1 => repeat (first | exact (Kd.C_below HR1.out HB.out) | (with_reducible refine Kd.C_alloc ?_ _) | (with_reducible refine Kd.C_drewN ?_ _) | (with_reducible refine Kd.C_drew ?_))); (case side2 => exact HC1.out); rintro e w15 ⟨v123, rfl, ho0, hb⟩; refine ⟨_, rfl, ?_⟩; have n0_ := Aside0.mk (Kd.R_lower ho0 (below_size zb)); have n1_ := Aside0.mk (blk_below (g := gb121) (o := .cells #[.bool false, .slice none 0 0] 27 (0, 0)) (zk BK121.out) hb); have n2_ := Aside0.mk (below_step zb hb); clear BK121; clear HB; have HO124 := n0_; have BK121 := n1_; have HB := n2_; clear n0_ n1_ n2_; (try clear hb); (try clear hb2); (try clear hk); (try clear hi); (try clear ho0); obtain ⟨Ao16, co16, eo16⟩ := Kd.R_slice HO124.out; subst eo16; have hcz17_0 : w15.cell? ⟨gb121, 0, none⟩ = some (.bool false) := (blk_cell BK121.out 0).trans rfl; have hcz17_1 : w15.cell? ⟨gb121, 1, none⟩ = some (.slice none 0 0) := (blk_cell BK121.out 1).trans rfl; have hfz17_0 := blk_frozen BK121.out 0; have hfz17_1 := blk_frozen BK121.out 1))
      refine bodyPost_ret (results_ct rfl _ _ gb121 27 #[.bool false, .slice Ao16 t122.length co16] (0, 0) _ rfl (by (with_reducible repeat (first | refine blk_drewN ?_ _ | refine blk_drew ?_ | refine blk_alloc ?_ _)); refine blk_put (cs := #[.bool false, .slice none 0 0]) ?_ 1 _ rfl; (with_reducible repeat (first | refine blk_drewN ?_ _ | refine blk_drew ?_ | refine blk_alloc ?_ _)); refine blk_put (cs := #[.bool false, .slice none 0 0]) ?_ 0 _ rfl; (with_reducible repeat (first | refine blk_drewN ?_ _ | refine blk_drew ?_ | refine blk_alloc ?_ _)); exact BK121.out) Tryd.underlying27 rfl (by kernel_rfl)) rfl ?_
      exact ⟨_, by first | rfl | (simp [errW_none, errW_some] <;> rfl) | (simp [*, errW_none, errW_some] <;> rfl), by (with_reducible repeat (first | apply Kd.R_alloc | apply Kd.R_drewN | apply Kd.R_drew)); exact Kd.R_mono (Kd.R_far (p := ⟨gb121, 1, none⟩) (Kd.R_far (p := ⟨gb121, 0, none⟩) (Kd.R_types HO124.out BK121.out (by decide)) (fun _ hk => hk.2) (.bool false)) (fun _ hk => hk.2) (.slice Ao16 t122.length co16)) (fun _ hk => trivial), zb⟩
mutual
def spec_l1FromFigures.l0 : Nat → ByteArray → List Int → Option (List Int)
  | 0, _, _ => none
  | k + 1, x0, x3 => if (x0.size : Int) > 0 then (if (wrap64 ((x0.size : Int) - 4)) < 0 then (spec_l1FromFigures.j1 k x0 x3 0) else (spec_l1FromFigures.j1 k x0 x3 (wrap64 ((x0.size : Int) - 4)))) else ((spec_l1Trim.f k x3).bind fun t128 => (some t128))
def spec_l1FromFigures.j1 : Nat → ByteArray → List Int → Int → Option (List Int)
  | 0, _, _, _ => none
  | k + 1, x0, x3, x4 => spec_l1FromFigures.l1 k x0 x3 x4 0 x4
def spec_l1FromFigures.l1 : Nat → ByteArray → List Int → Int → Int → Int → Option (List Int)
  | 0, _, _, _, _, _ => none
  | k + 1, x0, x3, x4, x5, x6 => if x6 < (x0.size : Int) then (if 0 ≤ x6 then (spec_l1FromFigures.l1 k x0 x3 x4 (wrap64 ((wrap64 (x5 * 10)) + (((bt x0 x6) - 48) % 256))) (wrap64 (x6 + 1))) else (none)) else (if x3.length < 17592186044416 then (if 0 ≤ x4 then (if x4 ≤ (x0.size : Int) then (spec_l1FromFigures.l0 k (x0.extract 0 (x4 : Int).toNat) (x3 ++ [x5])) else (none)) else (none)) else (none))
end
def spec_l1FromFigures.f (k : Nat) (a0 : ByteArray) : Option (List Int) := spec_l1FromFigures.l0 k a0 (([] : List Int))
set_option maxHeartbeats 8000000 in
set_option maxRecDepth 100000 in
theorem spec_l1FromFigures.calls (k : Nat) (a0 : ByteArray) (r : List Int) (w : World) (h : spec_l1FromFigures.f k a0 = some r) :
    Calls Tryd.prog 45 #[.string a0] w fun e w' => ∃ v0_ : Value, e = .returned (v0_) ∧ Kd.R (Kd.int .i64) 3 w' w.heap.size (fun _ => True) v0_ r ∧ Below w.heap.size w w' := by
  have HB := Aside0.mk (Below.refl w.heap.size w)
  have H : (spec_l1FromFigures.l0 k a0 (([] : List Int))) = some r := h
  clear h
  obtain ⟨y125, hy125⟩ : ∃ y_ : List Int, y_ = (([] : List Int)) := ⟨_, rfl⟩
  replace H : (spec_l1FromFigures.l0 k a0 y125) = some r := by first | (rw [hy125]; with_reducible exact H) | (have H2_ := (Option.bind_some _ _).symm.trans H; rw [hy125]; with_reducible exact H2_) | (have H2_ := (Option.bind_some _ _).symm.trans H; with_reducible exact H2_) | with_reducible exact H | (rw [hy125]; exact H) | exact H
  have Ny125 := Aside0.mk hy125
  clear hy125
  have H' := Aside0.mk H
  clear H
  go_enter Tryd.func45, Tryd.ntmps45
  go_wp2_with (first | ((with_reducible refine gate_dst (N := 7) rfl ?_); refine Kd.R_lit (Kd.int .i64) _ 3 ?hg (N := 7) ?hd (xs := ([] : List Int)) (inner := []) (ok := fun _ => True) (okp := fun _ => True) ?hr ?hp (fun _ hk => hk) trivial (Below.refl _ _) (Nat.le_refl _) (by simp) ?_; (case hd => rfl); (case hg => rfl); (case hr => first | (go_simp; done) | (go_simp; rfl)); (case hp => exact (Reps.none _ _)); intro v126 w2 ho3 hb hg_ hnew_; clear hg_ hnew_; (first | rw [← Ny125.out] at ho3 | (simp only [Int.reduceToNat] at ho3; rw [← Ny125.out] at ho3)); have n0_ := Aside0.mk (Kd.R_lower ho3 (below_size zb)); have n1_ := Aside0.mk (below_step zb hb); clear HB; have HO127 := n0_; have HB := n1_; clear n0_ n1_; clear hb ho3))
  go_loopg [0, 3] k (fun kq v0 v3 w' => ∃ (x0_1 : ByteArray) (x3_1 : List Int), v0 = .string x0_1 ∧ Aside0 (spec_l1FromFigures.l0 kq x0_1 x3_1 = some r) ∧ Aside0 (kq ≤ k) ∧ Aside0 (Kd.R (Kd.int .i64) 3 w' w.heap.size (fun _ => True) v3 x3_1) ∧ Aside0 (Below w.heap.size w w'))
  case atStart => exact ⟨(a0), (y125), (by first | rfl | (simp; done) | (simp [*]; done)), H', ⟨Nat.le_refl _⟩, ⟨by (with_reducible repeat (first | apply Kd.R_alloc | apply Kd.R_drewN | apply Kd.R_drew)); exact HO127.out⟩, ⟨zb⟩⟩
  case round =>
    clear H'
    try clear p2
    obtain ⟨x0_1, x3_1, rfl, HA, HK1, HO_3, HB⟩ := hrel
    cases gk with
    | zero => exact absurd HA.out (by simp [spec_l1FromFigures.l0])
    | succ k1 =>
      have H := HA.out
      clear HA
      simp only [spec_l1FromFigures.l0] at H
      by_cases c4 : (x0_1.size : Int) > 0
      · rw [if_pos c4] at H
        have c4b0 : decide (0 < (x0_1.size : Int)) = true := decide_eq_true c4
        have c4b1 : decide (0 < x0_1.size) = true := decide_eq_true (by omega)
        clear c4
        have HC5 := Aside0.mk H
        clear H
        go_upto_if 15 with (fail)
        go_cut [4] (fun v4 wc => ∃ (kq : Nat) (x4_4 : Int), v4 = .int .i64 x4_4 ∧ Aside0 (spec_l1FromFigures.j1 kq x0_1 x3_1 x4_4 = some r) ∧ Aside0 (kq ≤ k1) ∧ Aside0 (Kd.R (Kd.int .i64) 3 wc w.heap.size (fun _ => True) u3 x3_1) ∧ Aside0 (Below w.heap.size w wc))
        case first =>
          have H := HC5.out
          clear HC5
          by_cases c6 : (wrap64 ((x0_1.size : Int) - 4)) < 0
          · rw [if_pos c6] at H
            have c6b0 : decide ((wrap64 ((x0_1.size : Int) - 4)) < 0) = true := decide_eq_true c6
            clear c6
            (first | rw [c6b0] | (simp only [i64_w, i32_w]; rw [c6b0]) | skip)
            have H' := Aside0.mk H
            clear H
            go_wp2
            go_meet
            case rel => exact ⟨_, (0), (by first | rfl | (simp; done) | (simp [*]; done)), H', ⟨by have := HK1.out; first | omega | exact Nat.le_refl _⟩, ⟨by (with_reducible repeat (first | apply Kd.R_alloc | apply Kd.R_drewN | apply Kd.R_drew)); exact HO_3.out⟩, ⟨zb⟩⟩
          · rw [if_neg c6] at H
            have c6b0 : decide ((wrap64 ((x0_1.size : Int) - 4)) < 0) = false := decide_eq_false c6
            clear c6
            (first | rw [c6b0] | (simp only [i64_w, i32_w]; rw [c6b0]) | skip)
            have H' := Aside0.mk H
            clear H
            go_wp2
            go_meet
            case rel => exact ⟨_, (wrap64 ((x0_1.size : Int) - 4)), (by first | rfl | (simp; done) | (simp [*]; done)), H', ⟨by have := HK1.out; first | omega | exact Nat.le_refl _⟩, ⟨by (with_reducible repeat (first | apply Kd.R_alloc | apply Kd.R_drewN | apply Kd.R_drew)); exact HO_3.out⟩, ⟨zb⟩⟩
        case rest =>
          clear HC5
          try clear p2
          try clear c4
          try clear c4b0
          try clear c4b1
          try clear c6
          try clear c6b0
          try clear p6
          try clear p2
          obtain ⟨kq, x4_4, rfl, HA, HJ4, HO_3, HB⟩ := hcut
          cases kq with
          | zero => exact absurd HA.out (by simp [spec_l1FromFigures.j1])
          | succ kj4 =>
            have H := HA.out
            clear HA
            simp only [spec_l1FromFigures.j1] at H
            have H' := Aside0.mk H
            clear H
            go_wp2
            go_loopg [5, 6] kj4 (fun kq v5 v6 w' => ∃ (x5_3 : Int) (x6_3 : Int), v5 = .int .i64 x5_3 ∧ v6 = .int .i64 x6_3 ∧ Aside0 (spec_l1FromFigures.l1 kq x0_1 x3_1 x4_4 x5_3 x6_3 = some r) ∧ Aside0 (kq ≤ kj4) ∧ Aside0 (Kd.R (Kd.int .i64) 3 w' w.heap.size (fun _ => True) u3 x3_1) ∧ Aside0 (Below w.heap.size w w'))
            case atStart => exact ⟨(0), (x4_4), (by first | rfl | (simp; done) | (simp [*]; done)), (by first | rfl | (simp; done) | (simp [*]; done)), H', ⟨Nat.le_refl _⟩, ⟨by (with_reducible repeat (first | apply Kd.R_alloc | apply Kd.R_drewN | apply Kd.R_drew)); exact HO_3.out⟩, ⟨zb⟩⟩
            case round =>
              clear H'
              try clear p2
              try clear c4
              try clear c4b0
              try clear c4b1
              try clear c6
              try clear c6b0
              try clear p6
              try clear p2
              try clear p6
              obtain ⟨x5_3, x6_3, rfl, rfl, HA, HK3, HO_3, HB⟩ := hrel
              cases gk with
              | zero => exact absurd HA.out (by simp [spec_l1FromFigures.l1])
              | succ k3 =>
                have H := HA.out
                clear HA
                simp only [spec_l1FromFigures.l1] at H
                by_cases c7 : x6_3 < (x0_1.size : Int)
                · rw [if_pos c7] at H
                  have c7b0 : decide (x6_3 < (x0_1.size : Int)) = true := decide_eq_true c7
                  clear c7
                  by_cases c8 : 0 ≤ x6_3
                  · rw [if_pos c8] at H
                    have c8b0 : decide (0 ≤ x6_3) = true := decide_eq_true c8
                    clear c8
                    have H' := Aside0.mk H
                    clear H
                    have p9 : 0 ≤ (x6_3 : Int) := of_decide_eq_true (by first | (with_reducible assumption) | assumption)
                    have q9 : x6_3 < (x0_1.size : Int) := of_decide_eq_true (by first | (with_reducible assumption) | assumption)
                    have hx9 := bt_at x0_1 x6_3
                    replace p9 := eq_true p9
                    replace q9 := eq_true q9
                    go_wp2
                    go_roundg k3
                    case measure => have := HK1.out; have := HJ4.out; have := HK3.out; omega
                    case rel => exact ⟨(wrap64 ((wrap64 (x5_3 * 10)) + (((bt x0_1 x6_3) - 48) % 256))), (wrap64 (x6_3 + 1)), (by first | rfl | (simp; done) | (simp [*]; done)), (by first | rfl | (simp; done) | (simp [*]; done)), H', ⟨by have := HK1.out; have := HJ4.out; have := HK3.out; omega⟩, ⟨by (with_reducible repeat (first | apply Kd.R_alloc | apply Kd.R_drewN | apply Kd.R_drew)); exact HO_3.out⟩, ⟨zb⟩⟩
                  · rw [if_neg c8] at H
                    exact absurd H (by simp)
                · rw [if_neg c7] at H
                  have c7b0 : decide (x6_3 < (x0_1.size : Int)) = false := decide_eq_false c7
                  clear c7
                  by_cases c10 : x3_1.length < 17592186044416
                  · rw [if_pos c10] at H
                    have LMc10 := Aside0.mk c10
                    clear c10
                    obtain ⟨y131, hy131⟩ : ∃ y_ : List Int, y_ = (x3_1 ++ [x5_3]) := ⟨_, rfl⟩
                    replace H : (if 0 ≤ x4_4 then (if x4_4 ≤ (x0_1.size : Int) then (spec_l1FromFigures.l0 k3 (x0_1.extract 0 (x4_4 : Int).toNat) y131) else (none)) else (none)) = some r := by first | (rw [hy131]; with_reducible exact H) | (have H2_ := (Option.bind_some _ _).symm.trans H; rw [hy131]; with_reducible exact H2_) | (have H2_ := (Option.bind_some _ _).symm.trans H; with_reducible exact H2_) | with_reducible exact H | (rw [hy131]; exact H) | exact H
                    have Ny131 := Aside0.mk hy131
                    clear hy131
                    by_cases c11 : 0 ≤ x4_4
                    · rw [if_pos c11] at H
                      have c11b0 := eq_true c11
                      have c11b1 : decide (0 ≤ x4_4) = true := decide_eq_true c11
                      clear c11
                      by_cases c12 : x4_4 ≤ (x0_1.size : Int)
                      · rw [if_pos c12] at H
                        have c12b0 := eq_true c12
                        have c12b1 : decide (x4_4 ≤ (x0_1.size : Int)) = true := decide_eq_true c12
                        clear c12
                        have H' := Aside0.mk H
                        clear H
                        go_wp2_with (first | ((with_reducible refine gate_builtin (b := .append) (xs := #[.tmp 31, .tmp 33]) rfl ?_); at_builtin; refine Kd.R_append (Kd.int .i64) (w0 := w) w.heap.size rfl (.tmp 31) (.tmp 33) 22 3 (.int .i64 0) 8 rfl Tryd.underlying22 info3 rfl (by decide) (by omega) u3 x3_1 x5_3 [.int .i64 x5_3] (fun _ => True) (fun _ => False) rfl rfl ?aP (fun _ hk => hk.elim) ?aF ?aO ?aB ?aS ?aL ?_; (case aP => exact rfl); (case aB => exact zb); (case aF => exact (fun _ _ => trivial)); (case aO => exact (zR HO_3.out)); (case aS => exact (below_size zb)); (case aL => have := LMc10.out; omega); intro v132 w13 ho hb hg hat; rw [← Ny131.out] at ho; have n0_ := Aside0.mk (hb); have n1_ := Aside0.mk (ho); clear HB; clear HO_3; have HB := n0_; have HO133 := n1_; clear n0_ n1_; clear ho hb hg hat))
                        go_roundg k3
                        case measure => have := HK1.out; have := HJ4.out; have := HK3.out; omega
                        case rel => exact ⟨(x0_1.extract 0 (x4_4 : Int).toNat), (y131), (by first | rfl | (simp; done) | (simp [*]; done)), H', ⟨by have := HK1.out; have := HJ4.out; have := HK3.out; omega⟩, ⟨by (with_reducible repeat (first | apply Kd.R_alloc | apply Kd.R_drewN | apply Kd.R_drew)); exact HO133.out⟩, ⟨zb⟩⟩
                      · rw [if_neg c12] at H
                        exact absurd H (by simp)
                    · rw [if_neg c11] at H
                      exact absurd H (by simp)
                  · rw [if_neg c10] at H
                    exact absurd H (by simp)
      · rw [if_neg c4] at H
        have c4b0 : decide (0 < (x0_1.size : Int)) = false := decide_eq_false c4
        have c4b1 : decide (0 < x0_1.size) = false := decide_eq_false (by omega)
        clear c4
        replace H := Option.bind_eq_some_iff.mp H
        obtain ⟨t128, A140, H⟩ := H
        replace H : (some t128) = some r := H
        have A14 := Aside0.mk A140
        clear A140
        obtain rfl := Option.some.inj H
        obtain ⟨Ao15, co15, eo15⟩ := Kd.R_slice HO_3.out
        subst eo15
        go_wp2_with (first | ((with_reducible refine gate_callee (f := 77) rfl ?_); refine goesL_ (some 39) rfl rfl Tryd.func77 (by kernel_rfl) rfl #[.slice Ao15 x3_1.length co15] rfl za ?_; (with_reducible refine (spec_l1Trim.calls k1 _ _ x3_1 t128 _ ?side1 ?side2 A14.out).mono ?_); (case side1 => repeat (first | exact (Kd.R_reads' HO_3.out).2.2 | (with_reducible refine Kd.C_alloc ?_ _) | (with_reducible refine Kd.C_drewN ?_ _) | (with_reducible refine Kd.C_drew ?_))); (case side2 => exact (Kd.R_reads' HO_3.out).2.1); rintro e w16 ⟨v129, rfl, ho0, hb⟩; refine ⟨_, rfl, ?_⟩; have n0_ := Aside0.mk (Kd.R_elder' (zR HO_3.out) (Kd.R_base ho0) hb); have n1_ := Aside0.mk (Kd.R_lower (Kd.R_new' ho0 (Kd.R_lt (zR HO_3.out))) (below_size zb)); have n2_ := Aside0.mk (below_step zb hb); clear HO_3; clear HB; have HO_3 := n0_; have HO130 := n1_; have HB := n2_; clear n0_ n1_ n2_; (try clear hb); (try clear hb2); (try clear hk); (try clear hi); (try clear ho0)))
        go_ret
        exact ⟨_, by first | rfl | (simp [errW_none, errW_some] <;> rfl) | (simp [*, errW_none, errW_some] <;> rfl), by (with_reducible repeat (first | apply Kd.R_alloc | apply Kd.R_drewN | apply Kd.R_drew)); exact Kd.R_mono HO130.out (fun _ hk => trivial), zb⟩
mutual
def spec_BigGet.j0 : Nat → ByteArray → Bool → Option (Bool × List Int × Bool)
  | 0, _, _ => none
  | k + 1, x0, x4 => if x4 = true then (if 1 ≤ (x0.size : Int) then (spec_BigGet.j1 k (x0.extract 1 x0.size) x4) else (none)) else (spec_BigGet.j1 k x0 x4)
def spec_BigGet.j1 : Nat → ByteArray → Bool → Option (Bool × List Int × Bool)
  | 0, _, _ => none
  | k + 1, x0, x4 => (spec_l1IsFigures.f k x0).bind fun t135 => (if t135 = true then (if (x0.size : Int) > 64 then (spec_BigGet.j2 k x0 x4 true) else (if x4 = true then (spec_BigGet.j2 k x0 x4 (x0.toList == ([48] : List UInt8))) else (spec_BigGet.j2 k x0 x4 false))) else (spec_BigGet.j2 k x0 x4 true))
def spec_BigGet.j2 : Nat → ByteArray → Bool → Bool → Option (Bool × List Int × Bool)
  | 0, _, _, _ => none
  | k + 1, x0, x4, x30 => if x30 = true then (some (false, ([] : List Int), false)) else ((spec_l1FromFigures.f k x0).bind fun t136 => ((spec_l1Big.f k x4 t136).bind fun bt139 => (some (bt139.1, bt139.2.1, bt139.2.2))))
end
def spec_BigGet.f (k : Nat) (a0 : ByteArray) : Option (Bool × List Int × Bool) := if (a0.size : Int) > 0 then (if 0 < (a0.size : Int) then (spec_BigGet.j0 k a0 ((bt a0 0) == 45)) else (none)) else (spec_BigGet.j0 k a0 false)
set_option maxHeartbeats 8000000 in
set_option maxRecDepth 100000 in
theorem spec_BigGet.calls (k : Nat) (a0 : ByteArray) (r1 : Bool) (r2 : List Int) (r3 : Bool) (w : World) (h : spec_BigGet.f k a0 = some (r1, r2, r3)) :
    Calls Tryd.prog 21 #[.string a0] w fun e w' => ∃ v1_ : Value, e = .returned (.tuple #[.agg #[.bool r1, v1_], .bool r3]) ∧ Kd.R (Kd.int .i64) 3 w' w.heap.size (fun _ => True) v1_ r2 ∧ Below w.heap.size w w' := by
  have hu27 := Tryd.underlying27
  have HB := Aside0.mk (Below.refl w.heap.size w)
  have H : (if (a0.size : Int) > 0 then (if 0 < (a0.size : Int) then (spec_BigGet.j0 k a0 ((bt a0 0) == 45)) else (none)) else (spec_BigGet.j0 k a0 false)) = some (r1, r2, r3) := h
  clear h
  have HC2 := Aside0.mk H
  clear H
  go_enter Tryd.func21, Tryd.ntmps21
  go_upto_region 1 with (first | ((with_reducible refine gate_dst (N := 2) rfl ?_); (try (refine gate_guard (by rfl) ?_; dsimp only)); refine box_event ?hg (N := 2) ?hd (cs := #[.bool false, .slice none 0 0]) (t := 27) ?hr ?_; (case hd => rfl); (case hg => rfl); (case hr => first | (go_simp; done) | (go_simp; rfl)); intro gb134 hg w3 hbox hb; have n0_ := Aside0.mk (below_step zb hb); have n1_ := Aside0.mk (hbox); have n2_ := Aside0.mk ((by rw [hg]; exact (below_size zb) : w.heap.size ≤ gb134)); have n3_ := Aside0.mk ((by rw [hg]; exact (below_size zb) : w.heap.size ≤ gb134)); clear HB; have HB := n0_; have BK134 := n1_; have GW134 := n2_; have GE134 := n3_; clear n0_ n1_ n2_ n3_; clear hb hbox hg))
  (try simp only [Act.put, List.setIfInBounds_toArray, List.set_cons_zero, List.set_cons_succ])
  go_cut [4] (fun v4 wc => ∃ (kq : Nat) (x4_1 : Bool), v4 = .bool x4_1 ∧ Aside0 (spec_BigGet.j0 kq a0 x4_1 = some (r1, r2, r3)) ∧ Aside0 (kq ≤ k) ∧ Aside0 (wc.heap[gb134]? = some (.cells #[.bool false, (.slice none 0 0)] 27 (0, 0))) ∧ Aside0 (Below w.heap.size w wc))
  case first =>
    have H := HC2.out
    clear HC2
    by_cases c4 : (a0.size : Int) > 0
    · rw [if_pos c4] at H
      have c4b0 : decide (0 < (a0.size : Int)) = true := decide_eq_true c4
      have c4b1 : decide (0 < a0.size) = true := decide_eq_true (by omega)
      clear c4
      (first | rw [c4b0] | (simp only [i64_w, i32_w]; rw [c4b0]) | skip)
      by_cases c5 : 0 < (a0.size : Int)
      · rw [if_pos c5] at H
        have c5b0 : decide (0 < (a0.size : Int)) = true := decide_eq_true c5
        have c5b1 : decide (0 < a0.size) = true := decide_eq_true (by omega)
        clear c5
        have H' := Aside0.mk H
        clear H
        have p6 : 0 ≤ (0 : Int) := (by omega)
        have q6 : 0 < a0.size := (by have : (0 : Int) < (a0.size : Int) := of_decide_eq_true (by first | (with_reducible assumption) | assumption); omega)
        have hx6 : ∀ h : 0 < a0.size, ((a0[0]'h).toNat : Int) = bt a0 0 := bt_at a0 0
        clear p6
        have qi6 : (0 < (a0.size : Int)) = True := eq_true (of_decide_eq_true (by first | (with_reducible assumption) | assumption))
        replace q6 := eq_true q6
        go_wp2
        go_meet
        case rel => exact ⟨_, (((bt a0 0) == 45)), (by first | rfl | (simp; done) | (simp [*]; done)), H', ⟨by first | omega | exact Nat.le_refl _⟩, ⟨by (with_reducible repeat (first | refine blk_drewN ?_ _ | refine blk_drew ?_ | refine blk_alloc ?_ _)); exact BK134.out⟩, ⟨zb⟩⟩
      · rw [if_neg c5] at H
        exact absurd H (by simp)
    · rw [if_neg c4] at H
      have c4b0 : decide (0 < (a0.size : Int)) = false := decide_eq_false c4
      have c4b1 : decide (0 < a0.size) = false := decide_eq_false (by omega)
      clear c4
      (first | rw [c4b0] | (simp only [i64_w, i32_w]; rw [c4b0]) | skip)
      have H' := Aside0.mk H
      clear H
      go_wp2
      go_meet
      case rel => exact ⟨_, (false), (by first | rfl | (simp; done) | (simp [*]; done)), H', ⟨by first | omega | exact Nat.le_refl _⟩, ⟨by (with_reducible repeat (first | refine blk_drewN ?_ _ | refine blk_drew ?_ | refine blk_alloc ?_ _)); exact BK134.out⟩, ⟨zb⟩⟩
  case rest =>
    clear HC2
    try clear c2
    try clear p2
    try clear c4
    try clear c4b0
    try clear c4b1
    try clear c5
    try clear c5b0
    try clear c5b1
    try clear p6
    try clear q6
    try clear hx6
    try clear qi6
    try clear p6
    try clear q6
    obtain ⟨kq, x4_1, rfl, HA, HJ1, BK134, HB⟩ := hcut
    cases kq with
    | zero => exact absurd HA.out (by simp [spec_BigGet.j0])
    | succ kj1 =>
      have H := HA.out
      clear HA
      simp only [spec_BigGet.j0] at H
      have HC7 := Aside0.mk H
      clear H
      go_upto_if 13 with (fail)
      go_cut [0] (fun v0 wc => ∃ (kq : Nat) (x0_6 : ByteArray), v0 = .string x0_6 ∧ Aside0 (spec_BigGet.j1 kq x0_6 x4_1 = some (r1, r2, r3)) ∧ Aside0 (kq ≤ kj1) ∧ Aside0 (wc.heap[gb134]? = some (.cells #[.bool false, (.slice none 0 0)] 27 (0, 0))) ∧ Aside0 (Below w.heap.size w wc))
      case first =>
        have H := HC7.out
        clear HC7
        by_cases c8 : x4_1 = true
        · subst c8
          have H1 : (if 1 ≤ (a0.size : Int) then (spec_BigGet.j1 kj1 (a0.extract 1 a0.size) true) else (none)) = some (r1, r2, r3) := by rw [if_pos rfl] at H; exact H
          clear H
          have H := H1
          clear H1
          by_cases c9 : 1 ≤ (a0.size : Int)
          · rw [if_pos c9] at H
            have c9b0 := eq_true c9
            have c9b1 : decide (1 ≤ (a0.size : Int)) = true := decide_eq_true c9
            clear c9
            have H' := Aside0.mk H
            clear H
            go_wp2
            go_meet
            case rel => exact ⟨_, (a0.extract 1 a0.size), (by first | rfl | (simp; done) | (simp [*]; done)), H', ⟨by have := HJ1.out; first | omega | exact Nat.le_refl _⟩, ⟨by (with_reducible repeat (first | refine blk_drewN ?_ _ | refine blk_drew ?_ | refine blk_alloc ?_ _)); exact BK134.out⟩, ⟨zb⟩⟩
          · rw [if_neg c9] at H
            exact absurd H (by simp)
        · replace c8 := Bool.eq_false_iff.mpr c8
          subst c8
          have H1 : (spec_BigGet.j1 kj1 a0 false) = some (r1, r2, r3) := by rw [if_neg (show ¬ (false = true) by decide)] at H; exact H
          clear H
          have H := H1
          clear H1
          have H' := Aside0.mk H
          clear H
          go_wp2
          go_meet
          case rel => exact ⟨_, (a0), (by first | rfl | (simp; done) | (simp [*]; done)), H', ⟨by have := HJ1.out; first | omega | exact Nat.le_refl _⟩, ⟨by (with_reducible repeat (first | refine blk_drewN ?_ _ | refine blk_drew ?_ | refine blk_alloc ?_ _)); exact BK134.out⟩, ⟨zb⟩⟩
      case rest =>
        clear HC7
        try clear c2
        try clear p2
        try clear c4
        try clear c4b0
        try clear c4b1
        try clear c5
        try clear c5b0
        try clear c5b1
        try clear p6
        try clear q6
        try clear hx6
        try clear qi6
        try clear c8
        try clear c9
        try clear c9b0
        try clear c9b1
        try clear p2
        try clear p6
        try clear q6
        obtain ⟨kq, x0_6, rfl, HA, HJ6, BK134, HB⟩ := hcut
        cases kq with
        | zero => exact absurd HA.out (by simp [spec_BigGet.j1])
        | succ kj6 =>
          have H := HA.out
          clear HA
          simp only [spec_BigGet.j1] at H
          have HC10 := Aside0.mk H
          clear H
          go_upto_region 4 with (fail)
          go_cut [30] (fun v30 wc => ∃ (kq : Nat) (x30_9 : Bool), v30 = .bool x30_9 ∧ Aside0 (spec_BigGet.j2 kq x0_6 x4_1 x30_9 = some (r1, r2, r3)) ∧ Aside0 (kq ≤ kj6) ∧ Aside0 (wc.heap[gb134]? = some (.cells #[.bool false, (.slice none 0 0)] 27 (0, 0))) ∧ Aside0 (Below w.heap.size w wc))
          case first =>
            have H := HC10.out
            clear HC10
            replace H := Option.bind_eq_some_iff.mp H
            obtain ⟨t135, A110, H⟩ := H
            replace H : (if t135 = true then (if (x0_6.size : Int) > 64 then (spec_BigGet.j2 kj6 x0_6 x4_1 true) else (if x4_1 = true then (spec_BigGet.j2 kj6 x0_6 x4_1 (x0_6.toList == ([48] : List UInt8))) else (spec_BigGet.j2 kj6 x0_6 x4_1 false))) else (spec_BigGet.j2 kj6 x0_6 x4_1 true)) = some (r1, r2, r3) := H
            have A11 := Aside0.mk A110
            clear A110
            by_cases c12 : t135 = true
            · subst c12
              have H1 : (if (x0_6.size : Int) > 64 then (spec_BigGet.j2 kj6 x0_6 x4_1 true) else (if x4_1 = true then (spec_BigGet.j2 kj6 x0_6 x4_1 (x0_6.toList == ([48] : List UInt8))) else (spec_BigGet.j2 kj6 x0_6 x4_1 false))) = some (r1, r2, r3) := by rw [if_pos rfl] at H; exact H
              clear H
              have H := H1
              clear H1
              by_cases c13 : (x0_6.size : Int) > 64
              · rw [if_pos c13] at H
                have c13b0 : decide (64 < (x0_6.size : Int)) = true := decide_eq_true c13
                have c13b1 : decide (64 < x0_6.size) = true := decide_eq_true (by omega)
                clear c13
                (first | rw [c13b0] | (simp only [i64_w, i32_w]; rw [c13b0]) | skip)
                have H' := Aside0.mk H
                clear H
                go_wp2_with (first | ((with_reducible refine gate_callee (f := 43) rfl ?_); refine goesL_ (some 17) rfl rfl Tryd.func43 (by kernel_rfl) rfl #[.string x0_6] rfl za ?_; (with_reducible refine (spec_l1IsFigures.calls kj6 x0_6 true _ A11.out).mono ?_); rintro e w' ⟨rfl, ⟨nd, rfl⟩⟩; refine ⟨_, rfl, ?_⟩))
                go_meet
                case rel => exact ⟨_, (true), (by first | rfl | (simp; done) | (simp [*]; done)), H', ⟨by have := HJ1.out; have := HJ6.out; first | omega | exact Nat.le_refl _⟩, ⟨by (with_reducible repeat (first | refine blk_drewN ?_ _ | refine blk_drew ?_ | refine blk_alloc ?_ _)); exact BK134.out⟩, ⟨zb⟩⟩
              · rw [if_neg c13] at H
                have c13b0 : decide (64 < (x0_6.size : Int)) = false := decide_eq_false c13
                have c13b1 : decide (64 < x0_6.size) = false := decide_eq_false (by omega)
                clear c13
                (first | rw [c13b0] | (simp only [i64_w, i32_w]; rw [c13b0]) | skip)
                by_cases c14 : x4_1 = true
                · subst c14
                  have H1 : (spec_BigGet.j2 kj6 x0_6 true (x0_6.toList == ([48] : List UInt8))) = some (r1, r2, r3) := by rw [if_pos rfl] at H; exact H
                  clear H
                  have H := H1
                  clear H1
                  have H' := Aside0.mk H
                  clear H
                  go_wp2_with (first | ((with_reducible refine gate_callee (f := 43) rfl ?_); refine goesL_ (some 17) rfl rfl Tryd.func43 (by kernel_rfl) rfl #[.string x0_6] rfl za ?_; (with_reducible refine (spec_l1IsFigures.calls kj6 x0_6 true _ A11.out).mono ?_); rintro e w' ⟨rfl, ⟨nd, rfl⟩⟩; refine ⟨_, rfl, ?_⟩))
                  go_meet
                  case rel => exact ⟨_, ((x0_6.toList == ([48] : List UInt8))), (by first | rfl | (simp; done) | (simp [*]; done)), H', ⟨by have := HJ1.out; have := HJ6.out; first | omega | exact Nat.le_refl _⟩, ⟨by (with_reducible repeat (first | refine blk_drewN ?_ _ | refine blk_drew ?_ | refine blk_alloc ?_ _)); exact BK134.out⟩, ⟨zb⟩⟩
                · replace c14 := Bool.eq_false_iff.mpr c14
                  subst c14
                  have H1 : (spec_BigGet.j2 kj6 x0_6 false false) = some (r1, r2, r3) := by rw [if_neg (show ¬ (false = true) by decide)] at H; exact H
                  clear H
                  have H := H1
                  clear H1
                  have H' := Aside0.mk H
                  clear H
                  go_wp2_with (first | ((with_reducible refine gate_callee (f := 43) rfl ?_); refine goesL_ (some 17) rfl rfl Tryd.func43 (by kernel_rfl) rfl #[.string x0_6] rfl za ?_; (with_reducible refine (spec_l1IsFigures.calls kj6 x0_6 true _ A11.out).mono ?_); rintro e w' ⟨rfl, ⟨nd, rfl⟩⟩; refine ⟨_, rfl, ?_⟩))
                  go_meet
                  case rel => exact ⟨_, (false), (by first | rfl | (simp; done) | (simp [*]; done)), H', ⟨by have := HJ1.out; have := HJ6.out; first | omega | exact Nat.le_refl _⟩, ⟨by (with_reducible repeat (first | refine blk_drewN ?_ _ | refine blk_drew ?_ | refine blk_alloc ?_ _)); exact BK134.out⟩, ⟨zb⟩⟩
            · replace c12 := Bool.eq_false_iff.mpr c12
              subst c12
              have H1 : (spec_BigGet.j2 kj6 x0_6 x4_1 true) = some (r1, r2, r3) := by rw [if_neg (show ¬ (false = true) by decide)] at H; exact H
              clear H
              have H := H1
              clear H1
              have H' := Aside0.mk H
              clear H
              go_wp2_with (first | ((with_reducible refine gate_callee (f := 43) rfl ?_); refine goesL_ (some 17) rfl rfl Tryd.func43 (by kernel_rfl) rfl #[.string x0_6] rfl za ?_; (with_reducible refine (spec_l1IsFigures.calls kj6 x0_6 false _ A11.out).mono ?_); rintro e w' ⟨rfl, ⟨nd, rfl⟩⟩; refine ⟨_, rfl, ?_⟩))
              go_meet
              case rel => exact ⟨_, (true), (by first | rfl | (simp; done) | (simp [*]; done)), H', ⟨by have := HJ1.out; have := HJ6.out; first | omega | exact Nat.le_refl _⟩, ⟨by (with_reducible repeat (first | refine blk_drewN ?_ _ | refine blk_drew ?_ | refine blk_alloc ?_ _)); exact BK134.out⟩, ⟨zb⟩⟩
          case rest =>
            clear HC10
            try clear c1
            try clear c2
            try clear p2
            try clear c4
            try clear c4b0
            try clear c4b1
            try clear c5
            try clear c5b0
            try clear c5b1
            try clear p6
            try clear q6
            try clear hx6
            try clear qi6
            try clear c8
            try clear c9
            try clear c9b0
            try clear c9b1
            try clear c12
            try clear c13
            try clear c13b0
            try clear c13b1
            try clear c14
            try clear p2
            try clear p6
            try clear q6
            obtain ⟨kq, x30_9, rfl, HA, HJ9, BK134, HB⟩ := hcut
            cases kq with
            | zero => exact absurd HA.out (by simp [spec_BigGet.j2])
            | succ kj9 =>
              have H := HA.out
              clear HA
              simp only [spec_BigGet.j2] at H
              by_cases c15 : x30_9 = true
              · subst c15
                have H1 : (some (false, ([] : List Int), false)) = some (r1, r2, r3) := by rw [if_pos rfl] at H; exact H
                clear H
                have H := H1
                clear H1
                simp only [Option.some.injEq, Prod.mk.injEq] at H
                obtain ⟨rfl, rfl, rfl⟩ := H
                have hcz16_0 : wc.cell? ⟨gb134, 0, none⟩ = some (.bool false) := (blk_cell BK134.out 0).trans rfl
                have hcz16_1 : wc.cell? ⟨gb134, 1, none⟩ = some (.slice none 0 0) := (blk_cell BK134.out 1).trans rfl
                have hfz16_0 := blk_frozen BK134.out 0
                have hfz16_1 := blk_frozen BK134.out 1
                go_wp2
                refine bodyPost_ret (results_ct rfl _ _ gb134 27 #[.bool false, .slice none 0 0] (0, 0) _ rfl (by (with_reducible repeat (first | refine blk_drewN ?_ _ | refine blk_drew ?_ | refine blk_alloc ?_ _)); refine blk_put (cs := #[.bool false, .slice none 0 0]) ?_ 1 _ rfl; (with_reducible repeat (first | refine blk_drewN ?_ _ | refine blk_drew ?_ | refine blk_alloc ?_ _)); refine blk_put (cs := #[.bool false, .slice none 0 0]) ?_ 0 _ rfl; (with_reducible repeat (first | refine blk_drewN ?_ _ | refine blk_drew ?_ | refine blk_alloc ?_ _)); exact BK134.out) Tryd.underlying27 rfl (by kernel_rfl)) rfl ?_
                exact ⟨_, by first | rfl | (simp [errW_none, errW_some] <;> rfl) | (simp [*, errW_none, errW_some] <;> rfl), by first | exact Kd.R_nil _ _ _ _ _ | exact Kd.N_nil _ _ _ _ _ | exact Kd.V_nil _ _ _ _ _ | exact Kd.Q_nil _ _ _ _ _ | exact Kd.S_nil _ _ _ _ _, zb⟩
              · replace c15 := Bool.eq_false_iff.mpr c15
                subst c15
                have H1 : ((spec_l1FromFigures.f kj9 x0_6).bind fun t136 => ((spec_l1Big.f kj9 x4_1 t136).bind fun bt139 => (some (bt139.1, bt139.2.1, bt139.2.2)))) = some (r1, r2, r3) := by rw [if_neg (show ¬ (false = true) by decide)] at H; exact H
                clear H
                have H := H1
                clear H1
                replace H := Option.bind_eq_some_iff.mp H
                obtain ⟨t136, A170, H⟩ := H
                replace H : ((spec_l1Big.f kj9 x4_1 t136).bind fun bt139 => (some (bt139.1, bt139.2.1, bt139.2.2))) = some (r1, r2, r3) := H
                have A17 := Aside0.mk A170
                clear A170
                replace H := Option.bind_eq_some_iff.mp H
                obtain ⟨⟨t139, t140, t143⟩, A180, H⟩ := H
                replace H : (some (t139, t140, t143)) = some (r1, r2, r3) := H
                have A18 := Aside0.mk A180
                clear A180
                simp only [Option.some.injEq, Prod.mk.injEq] at H
                obtain ⟨rfl, rfl, rfl⟩ := H
                go_wp2_with (first | ((with_reducible refine gate_callee (f := 45) rfl ?_); refine goesL_ (some 34) rfl rfl Tryd.func45 (by kernel_rfl) rfl #[.string x0_6] rfl za ?_; (with_reducible refine (spec_l1FromFigures.calls kj9 x0_6 t136 _ A17.out).mono ?_); rintro e w19 ⟨v137, rfl, ho0, hb⟩; refine ⟨_, rfl, ?_⟩; have n0_ := Aside0.mk (Kd.R_lower ho0 (below_size zb)); have n1_ := Aside0.mk (blk_below (g := gb134) (o := .cells #[.bool false, .slice none 0 0] 27 (0, 0)) (zk BK134.out) hb); have n2_ := Aside0.mk (below_step zb hb); clear BK134; clear HB; have HO138 := n0_; have BK134 := n1_; have HB := n2_; clear n0_ n1_ n2_; (try clear hb); (try clear hb2); (try clear hk); (try clear hi); (try clear ho0); obtain ⟨Ao20, co20, eo20⟩ := Kd.R_slice HO138.out; subst eo20) | ((with_reducible refine gate_callee (f := 44) rfl ?_); refine goesL_ (some 35) rfl rfl Tryd.func44 (by kernel_rfl) rfl #[.bool x4_1, .slice Ao20 t136.length co20] rfl za ?_; (with_reducible refine (spec_l1Big.calls kj9 x4_1 _ _ t136 t139 t140 t143 _ ?side1 ?side2 A18.out).mono ?_); (case side1 => repeat (first | exact (Kd.R_reads' HO138.out).2.2 | (with_reducible refine Kd.C_alloc ?_ _) | (with_reducible refine Kd.C_drewN ?_ _) | (with_reducible refine Kd.C_drew ?_))); (case side2 => exact (Kd.R_reads' HO138.out).2.1); rintro e w21 ⟨v141, rfl, ho0, hb⟩; refine ⟨_, rfl, ?_⟩; have n0_ := Aside0.mk (Kd.R_elder' (zR HO138.out) (Kd.R_base ho0) hb); have n1_ := Aside0.mk (Kd.R_lower (Kd.R_new' ho0 (Kd.R_lt (zR HO138.out))) (below_size zb)); have n2_ := Aside0.mk (blk_below (g := gb134) (o := .cells #[.bool false, .slice none 0 0] 27 (0, 0)) (zk BK134.out) hb); have n3_ := Aside0.mk (below_step zb hb); clear HO138; clear BK134; clear HB; have HO138 := n0_; have HO142 := n1_; have BK134 := n2_; have HB := n3_; clear n0_ n1_ n2_ n3_; (try clear hb); (try clear hb2); (try clear hk); (try clear hi); (try clear ho0); have hcz22_0 : w21.cell? ⟨gb134, 0, none⟩ = some (.bool false) := (blk_cell BK134.out 0).trans rfl; have hcz22_1 : w21.cell? ⟨gb134, 1, none⟩ = some (.slice none 0 0) := (blk_cell BK134.out 1).trans rfl; have hfz22_0 := blk_frozen BK134.out 0; have hfz22_1 := blk_frozen BK134.out 1; obtain ⟨Ao23, co23, eo23⟩ := Kd.R_slice HO142.out; subst eo23))
                refine bodyPost_ret (results_ct rfl _ _ gb134 27 #[.bool t139, .slice Ao23 t140.length co23] (0, 0) _ rfl (by (with_reducible repeat (first | refine blk_drewN ?_ _ | refine blk_drew ?_ | refine blk_alloc ?_ _)); refine blk_put (cs := #[.bool t139, .slice none 0 0]) ?_ 1 _ rfl; (with_reducible repeat (first | refine blk_drewN ?_ _ | refine blk_drew ?_ | refine blk_alloc ?_ _)); refine blk_put (cs := #[.bool false, .slice none 0 0]) ?_ 0 _ rfl; (with_reducible repeat (first | refine blk_drewN ?_ _ | refine blk_drew ?_ | refine blk_alloc ?_ _)); exact BK134.out) Tryd.underlying27 rfl (by kernel_rfl)) rfl ?_
                exact ⟨_, by first | rfl | (simp [errW_none, errW_some] <;> rfl) | (simp [*, errW_none, errW_some] <;> rfl), by (with_reducible repeat (first | apply Kd.R_alloc | apply Kd.R_drewN | apply Kd.R_drew)); exact Kd.R_mono (Kd.R_far (p := ⟨gb134, 1, none⟩) (Kd.R_far (p := ⟨gb134, 0, none⟩) (Kd.R_types HO142.out BK134.out (by decide)) (fun _ hk => hk.2) (.bool t139)) (fun _ hk => hk.2) (.slice Ao23 t140.length co23)) (fun _ hk => trivial), zb⟩
def spec_l1Open.f (l0 : List Int) : Option (List Int × Int) := if (l0.length : Int) > 2000 then (if 2000 ≤ (l0.length : Int) then (some (l0.take 2000, 0)) else (none)) else (some (l0, 0))
def spec_l1Rd_pick.j0 : Nat → Int → Bool → List Int → Int → Option (Int × Int)
  | 0, _, _, _, _ => none
  | k + 1, x1, x24, x1000, x1001 => if x24 = true then (some (0, x1001)) else (if (wrap64 (x1001 - 1)) < (x1000.length : Int) then (if 0 ≤ (wrap64 (x1001 - 1)) then (if x1 = 0 then (none) else (some (Int.tmod (wrap64 (rd x1000 (wrap64 (x1001 - 1)))) x1, x1001))) else (none)) else (if (x1000.length : Int) = 0 then (none) else (if 0 ≤ (Int.tmod (wrap64 (x1001 - 1)) (x1000.length : Int)) then (if (Int.tmod (wrap64 (x1001 - 1)) (x1000.length : Int)) < (x1000.length : Int) then (if 0 ≤ (Int.tmod (wrap64 ((wrap64 ((wrap64 (x1001 - 1)) * 7)) + 3)) (x1000.length : Int)) then (if (Int.tmod (wrap64 ((wrap64 ((wrap64 (x1001 - 1)) * 7)) + 3)) (x1000.length : Int)) < (x1000.length : Int) then (if x1 = 0 then (none) else (some (Int.tmod (Go.bits .xor .i64 (wrap64 ((wrap64 ((wrap64 ((wrap64 ((wrap64 (rd x1000 (Int.tmod (wrap64 (x1001 - 1)) (x1000.length : Int)))) * 131)) + (wrap64 ((wrap64 (rd x1000 (Int.tmod (wrap64 ((wrap64 ((wrap64 (x1001 - 1)) * 7)) + 3)) (x1000.length : Int)))) * 1117)))) + (wrap64 ((wrap64 (x1001 - 1)) * 29)))) + (wrap64 ((wrap64 (Int.tdiv (wrap64 (x1001 - 1)) (x1000.length : Int))) * 53)))) (wrap64 (Int.tdiv (wrap64 ((wrap64 ((wrap64 ((wrap64 ((wrap64 (rd x1000 (Int.tmod (wrap64 (x1001 - 1)) (x1000.length : Int)))) * 131)) + (wrap64 ((wrap64 (rd x1000 (Int.tmod (wrap64 ((wrap64 ((wrap64 (x1001 - 1)) * 7)) + 3)) (x1000.length : Int)))) * 1117)))) + (wrap64 ((wrap64 (x1001 - 1)) * 29)))) + (wrap64 ((wrap64 (Int.tdiv (wrap64 (x1001 - 1)) (x1000.length : Int))) * 53)))) 64))) x1, x1001))) else (none)) else (none)) else (none)) else (none))))
def spec_l1Rd_pick.f (k : Nat) (s0_0 : List Int) (s0_1 : Int) (a1 : Int) : Option (Int × Int) := if a1 < 1 then (spec_l1Rd_pick.j0 k a1 true s0_0 (wrap64 (s0_1 + 1))) else (spec_l1Rd_pick.j0 k a1 ((s0_0.length : Int) == 0) s0_0 (wrap64 (s0_1 + 1)))
def spec_l1Rd_of.f (k : Nat) (s0_0 : List Int) (s0_1 : Int) (l1 : List ByteArray) : Option (ByteArray × Int) := (spec_l1Rd_pick.f k s0_0 s0_1 (l1.length : Int)).bind fun bt271 => (if 0 ≤ bt271.1 then (if bt271.1 < (l1.length : Int) then (some (rdOf ByteArray.empty l1 bt271.1, bt271.2)) else (none)) else (none))
def spec_l1Many.l0 : Nat → ByteArray → Int → ByteArray → Option (ByteArray)
  | 0, _, _, _ => none
  | k + 1, x0, x1, x5 => if x1 > 0 then (if x5.size + x0.size ≤ 9223372036854775807 then (spec_l1Many.l0 k x0 (wrap64 (x1 - 1)) (x5 ++ x0)) else (none)) else (some x5)
def spec_l1Many.f (k : Nat) (a0 : ByteArray) (a1 : Int) : Option (ByteArray) := spec_l1Many.l0 k a0 a1 (⟨#[]⟩ : ByteArray)
def spec_l14Bent.f (k : Nat) (s0_0 : List Int) (s0_1 : Int) (a1 : ByteArray) : Option (ByteArray × Int) := (spec_l1Rd_pick.f k s0_0 s0_1 (wrap64 ((a1.size : Int) + 1))).bind fun bt274 => ((spec_l1Rd_pick.f k s0_0 bt274.2 6).bind fun bt276 => (if bt276.1 = 0 then (if bt274.1 < (a1.size : Int) then (if 0 ≤ bt274.1 then (if bt274.1 ≤ (a1.size : Int) then ((spec_l1Rd_of.f k s0_0 bt276.2 (([(⟨#[48]⟩ : ByteArray), (⟨#[57]⟩ : ByteArray), (⟨#[45]⟩ : ByteArray), (⟨#[46]⟩ : ByteArray), (⟨#[32]⟩ : ByteArray), (⟨#[120]⟩ : ByteArray), (⟨#[44]⟩ : ByteArray), (⟨#[58]⟩ : ByteArray), (⟨#[39]⟩ : ByteArray), (⟨#[33]⟩ : ByteArray), (⟨#[59]⟩ : ByteArray)] : List ByteArray))).bind fun bt281 => (if (a1.extract 0 (bt274.1 : Int).toNat).size + bt281.1.size ≤ 9223372036854775807 then (if 0 ≤ (wrap64 (bt274.1 + 1)) then (if (wrap64 (bt274.1 + 1)) ≤ (a1.size : Int) then (if ((a1.extract 0 (bt274.1 : Int).toNat) ++ bt281.1).size + (a1.extract ((wrap64 (bt274.1 + 1)) : Int).toNat a1.size).size ≤ 9223372036854775807 then (some (((a1.extract 0 (bt274.1 : Int).toNat) ++ bt281.1) ++ (a1.extract ((wrap64 (bt274.1 + 1)) : Int).toNat a1.size), bt281.2)) else (none)) else (none)) else (none)) else (none))) else (none)) else (none)) else (some (a1, bt276.2))) else (if bt276.1 = 1 then (if 0 ≤ bt274.1 then (if bt274.1 ≤ (a1.size : Int) then (some (a1.extract 0 (bt274.1 : Int).toNat, bt276.2)) else (none)) else (none)) else (if bt276.1 = 2 then ((spec_l1Rd_of.f k s0_0 bt276.2 (([(⟨#[120]⟩ : ByteArray), (⟨#[48]⟩ : ByteArray), (⟨#[32]⟩ : ByteArray), (⟨#[39]⟩ : ByteArray), (⟨#[59]⟩ : ByteArray), (⟨#[10]⟩ : ByteArray)] : List ByteArray))).bind fun bt286 => (if a1.size + bt286.1.size ≤ 9223372036854775807 then (some (a1 ++ bt286.1, bt286.2)) else (none))) else (if bt276.1 = 3 then (if 0 ≤ bt274.1 then (if bt274.1 ≤ (a1.size : Int) then ((spec_l1Rd_of.f k s0_0 bt276.2 (([(⟨#[48]⟩ : ByteArray), (⟨#[45]⟩ : ByteArray), (⟨#[46]⟩ : ByteArray), (⟨#[32]⟩ : ByteArray), (⟨#[40]⟩ : ByteArray), (⟨#[49]⟩ : ByteArray)] : List ByteArray))).bind fun bt291 => (if (a1.extract 0 (bt274.1 : Int).toNat).size + bt291.1.size ≤ 9223372036854775807 then (if ((a1.extract 0 (bt274.1 : Int).toNat) ++ bt291.1).size + (a1.extract (bt274.1 : Int).toNat a1.size).size ≤ 9223372036854775807 then (some (((a1.extract 0 (bt274.1 : Int).toNat) ++ bt291.1) ++ (a1.extract (bt274.1 : Int).toNat a1.size), bt291.2)) else (none)) else (none))) else (none)) else (none)) else (some (a1, bt276.2)))))))
def spec_l1Rd_one.f (k : Nat) (s0_0 : List Int) (s0_1 : Int) (l1 : List Int) : Option (Int × Int) := (spec_l1Rd_pick.f k s0_0 s0_1 (l1.length : Int)).bind fun bt293 => (if 0 ≤ bt293.1 then (if bt293.1 < (l1.length : Int) then (some (rd l1 bt293.1, bt293.2)) else (none)) else (none))
def spec_l14Figs.l0 : Nat → Int → ByteArray → List Int → Int → Option (ByteArray × Int)
  | 0, _, _, _, _ => none
  | k + 1, x1, x5, x1000, x1001 => if (x5.size : Int) < x1 then ((spec_l1Rd_pick.f k x1000 x1001 10).bind fun bt301 => ((spec_l1Rd_one.f k x1000 bt301.2 (([0, 0, 9, 9, 5, 1, bt301.1] : List Int))).bind fun bt306 => ((some (([(wrap64 (48 + bt306.1)) % 256] : List Int) : List Int)).bind fun y308 => (if x5.size + (strOfNums y308).size ≤ 9223372036854775807 then (spec_l14Figs.l0 k x1 (x5 ++ (strOfNums y308)) x1000 bt306.2) else (none))))) else (some (x5, x1001))
def spec_l14Figs.f (k : Nat) (s0_0 : List Int) (s0_1 : Int) (a1 : Int) : Option (ByteArray × Int) := if a1 < 1 then (some ((⟨#[48]⟩ : ByteArray), s0_1)) else ((spec_l1Rd_pick.f k s0_0 s0_1 9).bind fun bt296 => (spec_l14Figs.l0 k a1 (strOfNums (([(wrap64 (49 + bt296.1)) % 256] : List Int))) s0_0 bt296.2))
end Go.Proofs.YtdbgpoileffbeaaDoor.Pr
end
section
namespace Go.Proofs.YtdbgpoileffbeaaDoor.Pr
open Go.RowKit Go.Proofs.YtdbgpoileffbeaaDoorW.PrintWords Go.Proofs.YtdbgpoileffbeaaDoorW.PrintLast Go.Proofs.YtdbgpoileffbeaaDoor.Ext Go.Proofs.YtdbgpoileffbeaaDoorW.PrintMore
attribute [local go_sem] max2_int min2_int max_two min_two max_three min_three max_four min_four
set_option linter.unusedVariables false
set_option linter.unusedSimpArgs false
def impl_isDigits.l0 : Nat → ByteArray → Int → Int → Option (Bool)
  | 0, _, _, _ => none
  | k + 1, x0, x5, x6 => if x6 < x5 then (if 0 ≤ x6 then (if x6 < (x0.size : Int) then (if (bt x0 x6) < 48 then (some false) else (if (bt x0 x6) > 57 then (some false) else (impl_isDigits.l0 k x0 x5 (wrap64 (x6 + 1))))) else (none)) else (none)) else (some (x0.toList != ([] : List UInt8)))
def impl_isDigits.f (k : Nat) (a0 : ByteArray) : Option (Bool) := impl_isDigits.l0 k a0 (a0.size : Int) 0
set_option maxHeartbeats 8000000 in
set_option maxRecDepth 100000 in
theorem impl_isDigits.calls (k : Nat) (a0 : ByteArray) (r : Bool) (w : World) (h : impl_isDigits.f k a0 = some r) :
    Calls Tryd.prog 47 #[.string a0] w fun e w' => e = .returned (.bool r) ∧ Drawn0 w w' := by
  have H : (impl_isDigits.l0 k a0 (a0.size : Int) 0) = some r := h
  clear h
  have H' := Aside0.mk H
  clear H
  go_enter Tryd.func47, Tryd.ntmps47
  go_wp2
  go_loopg [6] k (fun kq v6 w' => ∃ (x6_1 : Int), v6 = .int .i64 x6_1 ∧ Aside0 (impl_isDigits.l0 kq a0 (a0.size : Int) x6_1 = some r) ∧ Aside0 (kq ≤ k) ∧ Drawn0 w w')
  case atStart => exact ⟨(0), (by first | rfl | (simp; done) | (simp [*]; done)), H', ⟨Nat.le_refl _⟩, by repeat (first | exact Drawn0.refl _ | apply Drawn0.step)⟩
  case round =>
    clear H'
    obtain ⟨x6_1, rfl, HA, HK1, ⟨m1, rfl⟩⟩ := hrel
    cases gk with
    | zero => exact absurd HA.out (by simp [impl_isDigits.l0])
    | succ k1 =>
      have H := HA.out
      clear HA
      simp only [impl_isDigits.l0] at H
      by_cases c2 : x6_1 < (a0.size : Int)
      · rw [if_pos c2] at H
        have c2b0 : decide (x6_1 < (a0.size : Int)) = true := decide_eq_true c2
        clear c2
        by_cases c3 : 0 ≤ x6_1
        · rw [if_pos c3] at H
          have c3b0 : decide (0 ≤ x6_1) = true := decide_eq_true c3
          clear c3
          by_cases c4 : x6_1 < (a0.size : Int)
          · rw [if_pos c4] at H
            have c4b0 : decide (x6_1 < (a0.size : Int)) = true := decide_eq_true c4
            clear c4
            by_cases c6 : (bt a0 x6_1) < 48
            · rw [if_pos c6] at H
              have c6b0 : decide ((bt a0 x6_1) < 48) = true := decide_eq_true c6
              clear c6
              obtain rfl := Option.some.inj H
              have p5 : 0 ≤ (x6_1 : Int) := of_decide_eq_true (by first | (with_reducible assumption) | assumption)
              have q5 : x6_1 < (a0.size : Int) := of_decide_eq_true (by first | (with_reducible assumption) | assumption)
              have hx5 := bt_at a0 x6_1
              replace p5 := eq_true p5
              replace q5 := eq_true q5
              go_wp2
              go_ret
              exact ⟨by first | rfl | (simp; done) | (simp [*]; done), by repeat (first | exact Drawn0.refl _ | apply Drawn0.step)⟩
            · rw [if_neg c6] at H
              have c6b0 : decide ((bt a0 x6_1) < 48) = false := decide_eq_false c6
              clear c6
              by_cases c8 : (bt a0 x6_1) > 57
              · rw [if_pos c8] at H
                have c8b0 : decide (57 < (bt a0 x6_1)) = true := decide_eq_true c8
                clear c8
                obtain rfl := Option.some.inj H
                have p5 : 0 ≤ (x6_1 : Int) := of_decide_eq_true (by first | (with_reducible assumption) | assumption)
                have q5 : x6_1 < (a0.size : Int) := of_decide_eq_true (by first | (with_reducible assumption) | assumption)
                have hx5 := bt_at a0 x6_1
                replace p5 := eq_true p5
                replace q5 := eq_true q5
                have p7 : 0 ≤ (x6_1 : Int) := of_decide_eq_true (by first | (with_reducible assumption) | assumption)
                have q7 : x6_1 < (a0.size : Int) := of_decide_eq_true (by first | (with_reducible assumption) | assumption)
                have hx7 := bt_at a0 x6_1
                replace p7 := eq_true p7
                replace q7 := eq_true q7
                go_wp2
                go_ret
                exact ⟨by first | rfl | (simp; done) | (simp [*]; done), by repeat (first | exact Drawn0.refl _ | apply Drawn0.step)⟩
              · rw [if_neg c8] at H
                have c8b0 : decide (57 < (bt a0 x6_1)) = false := decide_eq_false c8
                clear c8
                have H' := Aside0.mk H
                clear H
                have p5 : 0 ≤ (x6_1 : Int) := of_decide_eq_true (by first | (with_reducible assumption) | assumption)
                have q5 : x6_1 < (a0.size : Int) := of_decide_eq_true (by first | (with_reducible assumption) | assumption)
                have hx5 := bt_at a0 x6_1
                replace p5 := eq_true p5
                replace q5 := eq_true q5
                have p7 : 0 ≤ (x6_1 : Int) := of_decide_eq_true (by first | (with_reducible assumption) | assumption)
                have q7 : x6_1 < (a0.size : Int) := of_decide_eq_true (by first | (with_reducible assumption) | assumption)
                have hx7 := bt_at a0 x6_1
                replace p7 := eq_true p7
                replace q7 := eq_true q7
                go_wp2
                go_roundg k1
                case measure => have := HK1.out; omega
                case rel => exact ⟨(wrap64 (x6_1 + 1)), (by first | rfl | (simp; done) | (simp [*]; done)), H', ⟨by have := HK1.out; omega⟩, by repeat (first | exact Drawn0.refl _ | apply Drawn0.step)⟩
          · rw [if_neg c4] at H
            exact absurd H (by simp)
        · rw [if_neg c3] at H
          exact absurd H (by simp)
      · rw [if_neg c2] at H
        have c2b0 : decide (x6_1 < (a0.size : Int)) = false := decide_eq_false c2
        clear c2
        obtain rfl := Option.some.inj H
        go_wp2
        go_ret
        exact ⟨by first | rfl | (simp; done) | (simp [*]; done) | (simp [*]; cases a0.toList <;> rfl), by repeat (first | exact Drawn0.refl _ | apply Drawn0.step)⟩
def impl_limbs_trim.l0 : Nat → List Int → Option (List Int)
  | 0, _ => none
  | k + 1, x0 => if (x0.length : Int) > 0 then (if 0 ≤ (wrap64 ((x0.length : Int) - 1)) then (if (wrap64 ((x0.length : Int) - 1)) < (x0.length : Int) then (if (rd x0 (wrap64 ((x0.length : Int) - 1))) = 0 then (if (wrap64 ((x0.length : Int) - 1)) ≤ (x0.length : Int) then (impl_limbs_trim.l0 k (x0.take ((wrap64 ((x0.length : Int) - 1)) : Int).toNat)) else (none)) else (some x0)) else (none)) else (none)) else (some x0)
def impl_limbs_trim.f (k : Nat) (l0 : List Int) : Option (List Int) := impl_limbs_trim.l0 k l0
set_option maxHeartbeats 8000000 in
set_option maxRecDepth 100000 in
theorem impl_limbs_trim.calls (k : Nat) (P0_ : Nat → Prop) (A0 : Option Addr) (c0 : Nat) (l0 : List Int) (r : List Int) (w : World) (hs0 : Kd.V (Kd.int .i64) 3 w w.heap.size (fun k_ => P0_ k_) (.slice A0 l0.length c0) l0) (h : impl_limbs_trim.f k l0 = some r) :
    Calls Tryd.prog 79 #[.slice A0 l0.length c0] w fun e w' => ∃ v0_ : Value, e = .returned (v0_) ∧ Kd.V (Kd.int .i64) 3 w' w.heap.size (fun k_ => (P0_ k_ ∨ w.heap.size ≤ k_)) v0_ r ∧ Below w.heap.size w w' := by
  have HO0 := Aside0.mk (show Kd.V (Kd.int .i64) 3 w w.heap.size (fun k_ => (P0_ k_ ∨ w.heap.size ≤ k_)) (.slice A0 l0.length c0) l0 from Kd.V_mono hs0 (fun k_ hk => .inl hk))
  have HB := Aside0.mk (Below.refl w.heap.size w)
  have H : (impl_limbs_trim.l0 k l0) = some r := h
  clear h
  have H' := Aside0.mk H
  clear H
  go_enter Tryd.func79, Tryd.ntmps79
  go_wp2
  go_loopg [0] k (fun kq v0 w' => ∃ (x0_1 : List Int), Aside0 (impl_limbs_trim.l0 kq x0_1 = some r) ∧ Aside0 (kq ≤ k) ∧ Aside0 (Kd.V (Kd.int .i64) 3 w' w.heap.size (fun k_ => (P0_ k_ ∨ w.heap.size ≤ k_)) v0 x0_1) ∧ Aside0 (Below w.heap.size w w'))
  case atStart => exact ⟨(l0), H', ⟨Nat.le_refl _⟩, ⟨by (with_reducible repeat (first | apply Kd.V_alloc | apply Kd.V_drewN | apply Kd.V_drew)); exact HO0.out⟩, ⟨zb⟩⟩
  case round =>
    clear H'
    obtain ⟨x0_1, HA, HK1, HO_0, HB⟩ := hrel
    cases gk with
    | zero => exact absurd HA.out (by simp [impl_limbs_trim.l0])
    | succ k1 =>
      have H := HA.out
      clear HA
      simp only [impl_limbs_trim.l0] at H
      by_cases c2 : (x0_1.length : Int) > 0
      · rw [if_pos c2] at H
        have c2b0 : decide (0 < (x0_1.length : Int)) = true := decide_eq_true c2
        have c2b1 : decide (0 < x0_1.length) = true := decide_eq_true (by omega)
        clear c2
        obtain ⟨ji3, hji3⟩ : ∃ j_ : Int, (wrap64 ((x0_1.length : Int) - 1)) = j_ := ⟨_, rfl⟩
        replace H : (if 0 ≤ (ji3) then (if (ji3) < (x0_1.length : Int) then (if (rd x0_1 (ji3)) = 0 then (if (ji3) ≤ (x0_1.length : Int) then (impl_limbs_trim.l0 k1 (x0_1.take ((ji3) : Int).toNat)) else (none)) else (some x0_1)) else (none)) else (none)) = some r := by first | (rw [hji3] at H; exact H) | (simp only [hji3] at H ⊢; exact H)
        have hji3w : (IntKind.i64.wrap ((x0_1.length : Int) - 1)) = ji3 := (i64_w _).trans hji3
        by_cases c4 : 0 ≤ (ji3)
        · rw [if_pos c4] at H
          have c4b0 : decide (0 ≤ (ji3)) = true := decide_eq_true c4
          clear c4
          by_cases c5 : (ji3) < (x0_1.length : Int)
          · rw [if_pos c5] at H
            have c5b0 : decide ((ji3) < (x0_1.length : Int)) = true := decide_eq_true c5
            clear c5
            by_cases c6 : (rd x0_1 (ji3)) = 0
            · rw [if_pos c6] at H
              have c6b0 : ((rd x0_1 (ji3)) == 0) = true := beq_iff_eq.mpr c6
              have c6b1 : ((rd x0_1 (ji3)) != 0) = false := bne_eq_false_iff_eq.mpr c6
              clear c6
              have c7b0 := eq_true (of_decide_eq_true (by first | (with_reducible assumption) | assumption) : 0 ≤ (ji3))
              by_cases c8 : (ji3) ≤ (x0_1.length : Int)
              · rw [if_pos c8] at H
                have c8b0 := eq_true c8
                have c8b1 : decide ((ji3) ≤ (x0_1.length : Int)) = true := decide_eq_true c8
                clear c8
                obtain ⟨y178, hy178⟩ : ∃ y_ : List Int, y_ = (x0_1.take ((ji3) : Int).toNat) := ⟨_, rfl⟩
                replace H : (impl_limbs_trim.l0 k1 y178) = some r := by first | (rw [hy178]; with_reducible exact H) | (have H2_ := (Option.bind_some _ _).symm.trans H; rw [hy178]; with_reducible exact H2_) | (have H2_ := (Option.bind_some _ _).symm.trans H; with_reducible exact H2_) | with_reducible exact H | (rw [hy178]; exact H) | exact H
                have Ny178 := Aside0.mk hy178
                clear hy178
                have H' := Aside0.mk H
                clear H
                obtain ⟨Ao9, co9, eo9⟩ := Kd.V_slice HO_0.out
                subst eo9
                have p177 : 0 ≤ ((ji3) : Int) := of_decide_eq_true (by first | (with_reducible assumption) | assumption)
                have q177 : (ji3) < (x0_1.length : Int) := of_decide_eq_true (by first | (with_reducible assumption) | assumption)
                obtain ⟨ad177, e177, hx177_0⟩ := Kd.at_int (Kd.V_reads' HO_0.out).2.2 (ji3) p177 q177
                cases e177
                replace p177 := eq_true p177
                replace q177 := eq_true q177
                have q10 : ((ji3) : Int) ≤ ((x0_1.length : Int) : Int) := of_decide_eq_true (by first | (with_reducible assumption) | assumption)
                obtain ⟨i010, hi010, _, hsz10, _⟩ := info_parts info3
                have hroom10 : x0_1.length ≤ co9 := (Kd.V_reads' HO_0.out).2.1
                have hC10 : Kd.F (Kd.int .i64) _ _ (some ad177) x0_1.length x0_1 := (Kd.V_at (base := w.heap.size) HO_0.out).2.2
                have hcut10 := cut_to (P := Tryd.prog) 55 3 .i64 Tryd.underlying55 hi010 (some ad177) x0_1.length co9 (ji3) (of_decide_eq_true (by first | (with_reducible assumption) | assumption)) q10 hroom10
                have hr10 := Kd.F_take (m := ((ji3) : Int).toNat) hC10 (by omega)
                have hy10 : y178.length = ((ji3) : Int).toNat := (by rw [Ny178.out, List.length_take]; omega)
                rw [← Ny178.out] at hr10
                rw [← hy10] at hcut10
                have HO182 := Aside0.mk (show Kd.V (Kd.int .i64) 3 _ w.heap.size _ (.slice (some ad177) y178.length co9) y178 from Kd.V_mk (by omega) hr10)
                have HC182 := Aside0.mk (show y178.length ≤ co9 from by omega)
                clear hr10 hC10 hroom10 hi010 hsz10
                have KY10 := Aside0.mk hy10
                clear hy10
                replace q10 := eq_true q10
                go_wp2
                go_roundg k1
                case measure => have := HK1.out; omega
                case rel => exact ⟨(y178), H', ⟨by have := HK1.out; omega⟩, ⟨by (with_reducible repeat (first | apply Kd.V_alloc | apply Kd.V_drewN | apply Kd.V_drew)); exact HO182.out⟩, ⟨zb⟩⟩
              · rw [if_neg c8] at H
                exact absurd H (by simp)
            · rw [if_neg c6] at H
              have c6b0 : ((rd x0_1 (ji3)) == 0) = false := beq_eq_false_iff_ne.mpr c6
              have c6b1 : ((rd x0_1 (ji3)) != 0) = true := bne_iff_ne.mpr c6
              obtain rfl := Option.some.inj H
              obtain ⟨Ao11, co11, eo11⟩ := Kd.V_slice HO_0.out
              subst eo11
              have p177 : 0 ≤ ((ji3) : Int) := of_decide_eq_true (by first | (with_reducible assumption) | assumption)
              have q177 : (ji3) < (x0_1.length : Int) := of_decide_eq_true (by first | (with_reducible assumption) | assumption)
              obtain ⟨ad177, e177, hx177_0⟩ := Kd.at_int (Kd.V_reads' HO_0.out).2.2 (ji3) p177 q177
              cases e177
              replace p177 := eq_true p177
              replace q177 := eq_true q177
              go_wp2
              go_ret
              exact ⟨_, by first | rfl | (simp [errW_none, errW_some] <;> rfl) | (simp only [← hji3]; first | rfl | (simp [errW_none, errW_some] <;> rfl)) | (simp [*, errW_none, errW_some] <;> rfl), by (with_reducible repeat (first | apply Kd.V_alloc | apply Kd.V_drewN | apply Kd.V_drew)); exact HO_0.out, zb⟩
          · rw [if_neg c5] at H
            exact absurd H (by simp)
        · rw [if_neg c4] at H
          exact absurd H (by simp)
      · rw [if_neg c2] at H
        have c2b0 : decide (0 < (x0_1.length : Int)) = false := decide_eq_false c2
        have c2b1 : decide (0 < x0_1.length) = false := decide_eq_false (by omega)
        clear c2
        obtain rfl := Option.some.inj H
        obtain ⟨Ao12, co12, eo12⟩ := Kd.V_slice HO_0.out
        subst eo12
        go_wp2
        go_ret
        exact ⟨_, by first | rfl | (simp [errW_none, errW_some] <;> rfl) | (simp [*, errW_none, errW_some] <;> rfl), by (with_reducible repeat (first | apply Kd.V_alloc | apply Kd.V_drewN | apply Kd.V_drew)); exact HO_0.out, zb⟩
def impl_big.f (k : Nat) (a0 : Bool) (l1 : List Int) : Option (Bool × List Int × Bool) := (impl_limbs_trim.f k l1).bind fun t184 => (if (t184.length : Int) > 16 then (some (false, ([] : List Int), false)) else (if a0 = true then ((impl_clone_int.f t184).bind fun t187 => (some (decide (0 < t184.length), t187, true))) else ((impl_clone_int.f t184).bind fun t190 => (some (false, t190, true)))))
def impl_readLimbs.l0 : Nat → ByteArray → List Int → Int → Option (List Int)
  | 0, _, _, _ => none
  | k + 1, x0, x3, x4 => if x4 > 0 then (if 0 ≤ (mx 0 (wrap64 (x4 - 4))) then (if (mx 0 (wrap64 (x4 - 4))) ≤ x4 then (if x4 ≤ (x0.size : Int) then ((lib_Atoi.f (x0.extract ((mx 0 (wrap64 (x4 - 4))) : Int).toNat (x4 : Int).toNat)).bind fun bt208 => (if x3.length < 17592186044416 then (impl_readLimbs.l0 k x0 (x3 ++ [bt208.1]) (wrap64 (x4 - 4))) else (none))) else (none)) else (none)) else (none)) else ((impl_limbs_trim.f k x3).bind fun t213 => (some t213))
def impl_readLimbs.f (k : Nat) (a0 : ByteArray) : Option (List Int) := impl_readLimbs.l0 k a0 ([] : List Int) (a0.size : Int)
set_option maxHeartbeats 8000000 in
set_option maxRecDepth 100000 in
theorem impl_readLimbs.calls (k : Nat) (a0 : ByteArray) (r : List Int) (w : World) (hT : EnvA w) (h : impl_readLimbs.f k a0 = some r) :
    Calls Tryd.prog 49 #[.string a0] w fun e w' => ∃ v0_ : Value, e = .returned (v0_) ∧ Kd.V (Kd.int .i64) 3 w' w.heap.size (fun k_ => (w.heap.size ≤ k_)) v0_ r ∧ Below w.heap.size w w' := by
  have HB := Aside0.mk (Below.refl w.heap.size w)
  have HT := Aside0.mk hT
  clear hT
  have H : (impl_readLimbs.l0 k a0 ([] : List Int) (a0.size : Int)) = some r := h
  clear h
  have H' := Aside0.mk H
  clear H
  go_enter Tryd.func49, Tryd.ntmps49
  go_wp2
  go_loopg [3, 4] k (fun kq v3 v4 w' => ∃ (x3_1 : List Int) (x4_1 : Int), v4 = .int .i64 x4_1 ∧ Aside0 (impl_readLimbs.l0 kq a0 x3_1 x4_1 = some r) ∧ Aside0 (kq ≤ k) ∧ Aside0 (Kd.R (Kd.int .i64) 3 w' w.heap.size (fun k_ => (w.heap.size ≤ k_)) v3 x3_1) ∧ Aside0 (Below w.heap.size w w'))
  case atStart => exact ⟨(([] : List Int)), ((a0.size : Int)), (by first | rfl | (simp; done) | (simp [*]; done)), H', ⟨Nat.le_refl _⟩, ⟨by first | exact Kd.R_nil _ _ _ _ _ | exact Kd.N_nil _ _ _ _ _ | exact Kd.V_nil _ _ _ _ _ | exact Kd.Q_nil _ _ _ _ _ | exact Kd.S_nil _ _ _ _ _⟩, ⟨zb⟩⟩
  case round =>
    clear H'
    obtain ⟨x3_1, x4_1, rfl, HA, HK1, HO_3, HB⟩ := hrel
    cases gk with
    | zero => exact absurd HA.out (by simp [impl_readLimbs.l0])
    | succ k1 =>
      have H := HA.out
      clear HA
      simp only [impl_readLimbs.l0] at H
      by_cases c2 : x4_1 > 0
      · rw [if_pos c2] at H
        have c2b0 : decide (0 < x4_1) = true := decide_eq_true c2
        clear c2
        obtain ⟨ji3, hji3⟩ : ∃ j_ : Int, (mx 0 (wrap64 (x4_1 - 4))) = j_ := ⟨_, rfl⟩
        replace H : (if 0 ≤ (ji3) then (if (ji3) ≤ x4_1 then (if x4_1 ≤ (a0.size : Int) then ((lib_Atoi.f (a0.extract ((ji3) : Int).toNat (x4_1 : Int).toNat)).bind fun bt208 => (if x3_1.length < 17592186044416 then (impl_readLimbs.l0 k1 a0 (x3_1 ++ [bt208.1]) (wrap64 (x4_1 - 4))) else (none))) else (none)) else (none)) else (none)) = some r := by first | (rw [hji3] at H; exact H) | (simp only [hji3] at H ⊢; exact H)
        have hji3_ : (if 0 < (wrap64 (x4_1 - 4)) then (wrap64 (x4_1 - 4)) else 0) = ji3 := hji3
        by_cases c4 : 0 ≤ (ji3)
        · rw [if_pos c4] at H
          have c4b0 := eq_true c4
          have c4b1 : decide (0 ≤ (ji3)) = true := decide_eq_true c4
          clear c4
          by_cases c5 : (ji3) ≤ x4_1
          · rw [if_pos c5] at H
            have c5b0 := eq_true c5
            have c5b1 : decide ((ji3) ≤ x4_1) = true := decide_eq_true c5
            clear c5
            by_cases c6 : x4_1 ≤ (a0.size : Int)
            · rw [if_pos c6] at H
              have c6b0 := eq_true c6
              have c6b1 : decide (x4_1 ≤ (a0.size : Int)) = true := decide_eq_true c6
              clear c6
              replace H := Option.bind_eq_some_iff.mp H
              obtain ⟨⟨t208, t209⟩, A70, H⟩ := H
              replace H : (if x3_1.length < 17592186044416 then (impl_readLimbs.l0 k1 a0 (x3_1 ++ [t208]) (wrap64 (x4_1 - 4))) else (none)) = some r := H
              have A7 := Aside0.mk A70
              clear A70
              by_cases c8 : x3_1.length < 17592186044416
              · rw [if_pos c8] at H
                have LMc8 := Aside0.mk c8
                clear c8
                obtain ⟨y210, hy210⟩ : ∃ y_ : List Int, y_ = (x3_1 ++ [t208]) := ⟨_, rfl⟩
                replace H : (impl_readLimbs.l0 k1 a0 y210 (wrap64 (x4_1 - 4))) = some r := by first | (rw [hy210]; with_reducible exact H) | (have H2_ := (Option.bind_some _ _).symm.trans H; rw [hy210]; with_reducible exact H2_) | (have H2_ := (Option.bind_some _ _).symm.trans H; with_reducible exact H2_) | with_reducible exact H | (rw [hy210]; exact H) | exact H
                have Ny210 := Aside0.mk hy210
                clear hy210
                have H' := Aside0.mk H
                clear H
                go_wp2_with (first | ((with_reducible refine gate_callee (f := 81) rfl ?_); refine goesL_ (some 20) rfl rfl Tryd.func81 (by kernel_rfl) rfl #[.string (a0.extract ((ji3) : Int).toNat (x4_1 : Int).toNat)] rfl (by (try simp only [List.map_toArray, List.map_cons, List.map_nil]); first | done | (simp only [hji3]; rfl) | rfl | (simp only [List.length_drop, List.length_take]; rfl)) ?_; (with_reducible refine (lib_Atoi.calls (a0.extract ((ji3) : Int).toNat (x4_1 : Int).toNat) t208 t209 _ ?side1 A7.out).mono ?_); (case side1 => exact HT.out.below zb); rintro e w9 ⟨ev9_, rfl, hb⟩; refine ⟨_, rfl, ?_⟩; have n0_ := Aside0.mk (Kd.R_below (zR HO_3.out) hb); have n1_ := Aside0.mk (below_step zb hb); clear HO_3; clear HB; have HO_3 := n0_; have HB := n1_; clear n0_ n1_; (try clear hb); (try clear hb2); (try clear hk); (try clear hi)) | ((with_reducible refine gate_builtin (b := .append) (xs := #[.tmp 23, .tmp 25]) rfl ?_); at_builtin; refine Kd.R_append (Kd.int .i64) (w0 := w) w.heap.size rfl (.tmp 23) (.tmp 25) 55 3 (.int .i64 0) 8 rfl Tryd.underlying55 info3 rfl (by decide) (by omega) u3 x3_1 t208 [.int .i64 t208] (fun k_ => (w.heap.size ≤ k_)) (fun _ => False) rfl rfl ?aP (fun _ hk => hk.elim) ?aF ?aO ?aB ?aS ?aL ?_; (case aP => exact rfl); (case aB => exact zb); (case aF => exact (fun k_ hk => (Nat.le_trans (below_size zb) hk))); (case aO => exact (zR HO_3.out)); (case aS => exact (below_size zb)); (case aL => have := LMc8.out; omega); intro v211 w10 ho hb hg hat; rw [← Ny210.out] at ho; have n0_ := Aside0.mk (hb); have n1_ := Aside0.mk (ho); clear HB; clear HO_3; have HB := n0_; have HO212 := n1_; clear n0_ n1_; clear ho hb hg hat))
                go_roundg k1
                case measure => have := HK1.out; omega
                case rel => exact ⟨(y210), (wrap64 (x4_1 - 4)), (by first | rfl | (simp; done) | (simp [*]; done)), H', ⟨by have := HK1.out; omega⟩, ⟨by (with_reducible repeat (first | apply Kd.R_alloc | apply Kd.R_drewN | apply Kd.R_drew)); exact HO212.out⟩, ⟨zb⟩⟩
              · rw [if_neg c8] at H
                exact absurd H (by simp)
            · rw [if_neg c6] at H
              exact absurd H (by simp)
          · rw [if_neg c5] at H
            exact absurd H (by simp)
        · rw [if_neg c4] at H
          exact absurd H (by simp)
      · rw [if_neg c2] at H
        have c2b0 : decide (0 < x4_1) = false := decide_eq_false c2
        clear c2
        replace H := Option.bind_eq_some_iff.mp H
        obtain ⟨t213, A110, H⟩ := H
        replace H : (some t213) = some r := H
        have A11 := Aside0.mk A110
        clear A110
        obtain rfl := Option.some.inj H
        obtain ⟨Ao12, co12, eo12⟩ := Kd.R_slice HO_3.out
        subst eo12
        go_wp2_with (first | ((with_reducible refine gate_callee (f := 79) rfl ?_); refine goesL_ (some 28) rfl rfl Tryd.func79 (by kernel_rfl) rfl #[.slice Ao12 x3_1.length co12] rfl za ?_; (with_reducible refine (impl_limbs_trim.calls k1 (fun k_ => some k_ = (.slice Ao12 x3_1.length co12 : Value).ownBlock) _ _ x3_1 t213 _ ?side1 A11.out).mono ?_); (case side1 => exact Kd.R_V (Kd.R_tight rfl (HO_3.out))); rintro e w13 ⟨v214, rfl, ho0, hb⟩; refine ⟨_, rfl, ?_⟩; have n0_ := Aside0.mk (Kd.R_below (zR HO_3.out) hb); have n1_ := Aside0.mk (Kd.V_lower (Kd.V_mono (ok' := fun k_ => (w.heap.size ≤ k_)) ho0 (fun k_ hk_ => Or.elim hk_ (fun hs_ => ((HO_3.out).1 k_ hs_.symm)) (fun hn_ => (Nat.le_trans (below_size zb) hn_)))) (below_size zb)); have n2_ := Aside0.mk (below_step zb hb); clear HO_3; clear HB; have HO_3 := n0_; have HO215 := n1_; have HB := n2_; clear n0_ n1_ n2_; (try clear hb); (try clear hb2); (try clear hk); (try clear hi); (try clear ho0)))
        go_ret
        exact ⟨_, by first | rfl | (simp [errW_none, errW_some] <;> rfl) | (simp [*, errW_none, errW_some] <;> rfl), by (with_reducible repeat (first | apply Kd.V_alloc | apply Kd.V_drewN | apply Kd.V_drew)); exact HO215.out, zb⟩
def impl_BigGet.j0 : Nat → ByteArray → ByteArray → Bool → Bool → Option (Bool × List Int × Bool)
  | 0, _, _, _, _ => none
  | k + 1, x0, x4, x5, x20 => if x20 = true then (some (false, ([] : List Int), false)) else ((impl_readLimbs.f k x4).bind fun t220 => ((impl_big.f k x5 t220).bind fun bt223 => (if bt223.2.2 = true then ((impl_BigPut.f bt223.1 bt223.2.1).bind fun t229 => (if t229.toList = x0.toList then (some (bt223.1, bt223.2.1, true)) else (some (false, ([] : List Int), false)))) else (some (false, ([] : List Int), false)))))
def impl_BigGet.f (k : Nat) (a0 : ByteArray) : Option (Bool × List Int × Bool) := (lib_CutPrefix.f a0 (⟨#[45]⟩ : ByteArray)).bind fun bt217 => ((impl_isDigits.f k bt217.1).bind fun t219 => (if t219 = true then (impl_BigGet.j0 k a0 bt217.1 bt217.2 (decide ((bt217.1.size : Int) > 64))) else (impl_BigGet.j0 k a0 bt217.1 bt217.2 true)))
mutual
def impl_limbs_mul.l0 : Nat → List Int → List Int → List Int → Int → Int → Option (List Int)
  | 0, _, _, _, _, _ => none
  | k + 1, x1, x5, x19, x20, x21 => if x21 < x20 then (if 0 ≤ x21 then (if x21 < (x19.length : Int) then (impl_limbs_mul.l1 k x1 x5 x21 (rd x19 x21) 0 x19 x20 x21 x1 (x1.length : Int) 0) else (none)) else (none)) else ((impl_limbs_trim.f k x5).bind fun t401 => (some t401))
def impl_limbs_mul.l1 : Nat → List Int → List Int → Int → Int → Int → List Int → Int → Int → List Int → Int → Int → Option (List Int)
  | 0, _, _, _, _, _, _, _, _, _, _, _ => none
  | k + 1, x1, x5, x6, x7, x8, x19, x20, x21, x26, x27, x28 => if x28 < x27 then (if 0 ≤ x28 then (if x28 < (x26.length : Int) then (if 0 ≤ (wrap64 (x6 + x28)) then (if (wrap64 (x6 + x28)) < (x5.length : Int) then (impl_limbs_mul.l1 k x1 (x5.set ((wrap64 (x6 + x28)) : Int).toNat (Int.tmod (wrap64 ((wrap64 ((rd x5 (wrap64 (x6 + x28))) + (wrap64 (x7 * (rd x26 x28))))) + x8)) 10000)) x6 x7 (wrap64 (Int.tdiv (wrap64 ((wrap64 ((rd x5 (wrap64 (x6 + x28))) + (wrap64 (x7 * (rd x26 x28))))) + x8)) 10000)) x19 x20 x21 x26 x27 (wrap64 (x28 + 1))) else (none)) else (none)) else (none)) else (none)) else (if 0 ≤ (wrap64 (x6 + (x1.length : Int))) then (if (wrap64 (x6 + (x1.length : Int))) < (x5.length : Int) then (impl_limbs_mul.l0 k x1 (x5.set ((wrap64 (x6 + (x1.length : Int))) : Int).toNat (wrap64 ((rd x5 (wrap64 (x6 + (x1.length : Int)))) + x8))) x19 x20 (wrap64 (x21 + 1))) else (none)) else (none))
end
def impl_limbs_mul.f (k : Nat) (l0 : List Int) (l1 : List Int) : Option (List Int) := if 0 ≤ (wrap64 ((wrap64 ((l0.length : Int) + (l1.length : Int))) + 1)) then (if (wrap64 ((wrap64 ((l0.length : Int) + (l1.length : Int))) + 1) : Int).toNat ≤ 35184372088832 then (impl_limbs_mul.l0 k l1 (List.replicate (wrap64 ((wrap64 ((l0.length : Int) + (l1.length : Int))) + 1) : Int).toNat 0) l0 (l0.length : Int) 0) else (none)) else (none)
def impl_ten.l0 : Nat → List Int → Int → Int → Option (List Int)
  | 0, _, _, _ => none
  | k + 1, x3, x5, x6 => if x6 < x5 then ((impl_limbs_mul.f k x3 (([10] : List Int))).bind fun t416 => (impl_ten.l0 k t416 x5 (wrap64 (x6 + 1)))) else (some x3)
def impl_ten.f (k : Nat) (a0 : Int) : Option (List Int) := impl_ten.l0 k (([1] : List Int)) a0 0
def impl_BigTen.f (k : Nat) (a0 : Int) : Option (Bool × List Int × Bool) := (impl_in.f a0 0 63).bind fun t420 => (if t420 = true then ((impl_ten.f k a0).bind fun t421 => ((impl_big.f k false t421).bind fun bt424 => (some (bt424.1, bt424.2.1, bt424.2.2)))) else (some (false, ([] : List Int), false)))
def impl_bigs.f (a0_0 : Bool) (l0_1 : List Int) (a1_0 : Bool) (l1_1 : List Int) : Option (Bool) := (impl_BigOk.f a0_0 l0_1).bind fun t450 => (if t450 = true then ((impl_BigOk.f a1_0 l1_1).bind fun t451 => (some t451)) else (some false))
def impl_Big_signed.f (a0_0 : Bool) (l0_1 : List Int) : Option (Bool × List Int) := some (a0_0, l0_1)
def impl_signed_mul.f (k : Nat) (a0_0 : Bool) (l0_1 : List Int) (a1_0 : Bool) (l1_1 : List Int) : Option (Bool × List Int) := (impl_limbs_mul.f k l0_1 l1_1).bind fun t457 => (some ((a0_0 != a1_0), t457))
end Go.Proofs.YtdbgpoileffbeaaDoor.Pr
end
section
namespace Go.Proofs.YtdbgpoileffbeaaDoor.Pr
open Go.RowKit Go.Proofs.YtdbgpoileffbeaaDoorW.PrintWords Go.Proofs.YtdbgpoileffbeaaDoorW.PrintLast Go.Proofs.YtdbgpoileffbeaaDoor.Ext Go.Proofs.YtdbgpoileffbeaaDoorW.PrintMore
attribute [local go_sem] max2_int min2_int max_two min_two max_three min_three max_four min_four
set_option linter.unusedVariables false
set_option linter.unusedSimpArgs false
mutual
def spec_l14Big.j0 : Nat → Int → List Int → Int → Option (Bool × List Int × Int)
  | 0, _, _, _ => none
  | k + 1, x5, x1000, x1001 => (spec_l14Figs.f k x1000 x1001 x5).bind fun bt321 => ((spec_l1Rd_pick.f k x1000 bt321.2 6).bind fun bt323 => (if bt323.1 = 0 then ((spec_l1Many.f k (⟨#[48]⟩ : ByteArray) (wrap64 (x5 - 1))).bind fun t325 => (if 1 + t325.size ≤ 9223372036854775807 then (spec_l14Big.j1 k x5 ((⟨#[49]⟩ : ByteArray) ++ t325) x1000 bt323.2) else (none))) else (spec_l14Big.j1 k x5 bt321.1 x1000 bt323.2)))
def spec_l14Big.j1 : Nat → Int → ByteArray → List Int → Int → Option (Bool × List Int × Int)
  | 0, _, _, _, _ => none
  | k + 1, x5, x6, x1000, x1001 => (spec_l1Rd_pick.f k x1000 x1001 6).bind fun bt326 => (if bt326.1 = 0 then ((spec_l1Many.f k (⟨#[57]⟩ : ByteArray) x5).bind fun t328 => ((spec_l1Rd_pick.f k x1000 bt326.2 3).bind fun bt329 => ((spec_l1FromFigures.f k t328).bind fun t331 => ((spec_l1Big.f k (bt329.1 == 0) t331).bind fun bt334 => (some (bt334.1, bt334.2.1, bt329.2)))))) else ((spec_l1Rd_pick.f k x1000 bt326.2 3).bind fun bt340 => ((spec_l1FromFigures.f k x6).bind fun t342 => ((spec_l1Big.f k (bt340.1 == 0) t342).bind fun bt345 => (some (bt345.1, bt345.2.1, bt340.2))))))
end
def spec_l14Big.f (k : Nat) (s0_0 : List Int) (s0_1 : Int) (a1 : Int) : Option (Bool × List Int × Int) := (spec_l1Rd_pick.f k s0_0 s0_1 64).bind fun bt312 => ((spec_l1Rd_one.f k s0_0 bt312.2 (([0, 1, 1, 2, 3, 4, 5, 8, 9, 12, 17, 29, 30, 31, 33, 63, 64, wrap64 (1 + bt312.1)] : List Int))).bind fun bt317 => (if bt317.1 > a1 then ((spec_l1Rd_pick.f k s0_0 bt317.2 a1).bind fun bt319 => (spec_l14Big.j0 k (wrap64 (1 + bt319.1)) s0_0 bt319.2)) else (spec_l14Big.j0 k bt317.1 s0_0 bt317.2)))
def spec_DrawBigGet.f (k : Nat) (l0 : List Int) : Option (ByteArray) := (spec_l1Open.f l0).bind fun bt351 => ((spec_l1Rd_pick.f k bt351.1 bt351.2 12).bind fun bt354 => (if bt354.1 = 0 then ((spec_l1Many.f k (⟨#[57]⟩ : ByteArray) 64).bind fun t356 => ((spec_l1Many.f k (⟨#[57]⟩ : ByteArray) 65).bind fun t357 => ((spec_l1Rd_of.f k bt351.1 bt354.2 (([(⟨#[]⟩ : ByteArray), (⟨#[45]⟩ : ByteArray), (⟨#[45, 48]⟩ : ByteArray), (⟨#[48, 48]⟩ : ByteArray), (⟨#[48, 49]⟩ : ByteArray), t356, t357] : List ByteArray))).bind fun bt361 => (some bt361.1)))) else ((spec_l14Big.f k bt351.1 bt354.2 64).bind fun bt363 => ((spec_l1Put.f k bt363.1 bt363.2.1).bind fun t368 => ((spec_l14Bent.f k bt351.1 bt363.2.2 t368).bind fun bt369 => (some bt369.1))))))
def spec_DrawBigTen.f (k : Nat) (l0 : List Int) : Option (Int) := (spec_l1Open.f l0).bind fun bt393 => ((spec_l1Rd_pick.f k bt393.1 bt393.2 70).bind fun bt396 => (some (wrap64 (bt396.1 - 3))))
mutual
def spec_l1TenAbs.l0 : Nat → Int → List Int → Option (List Int)
  | 0, _, _ => none
  | k + 1, x0, x3 => if x0 ≥ 4 then (if x3.length < 17592186044416 then (spec_l1TenAbs.l0 k (wrap64 (x0 - 4)) (x3 ++ [0])) else (none)) else (spec_l1TenAbs.l1 k x0 x3 1)
def spec_l1TenAbs.l1 : Nat → Int → List Int → Int → Option (List Int)
  | 0, _, _, _ => none
  | k + 1, x0, x3, x4 => if x0 > 0 then (spec_l1TenAbs.l1 k (wrap64 (x0 - 1)) x3 (wrap64 (x4 * 10))) else (if x3.length < 17592186044416 then (some (x3 ++ [x4])) else (none))
end
def spec_l1TenAbs.f (k : Nat) (a0 : Int) : Option (List Int) := spec_l1TenAbs.l0 k a0 (([] : List Int))
def spec_BigTen.f (k : Nat) (a0 : Int) : Option (Bool × List Int × Bool) := (spec_l1In.f a0 0 63).bind fun t439 => (if t439 = true then ((spec_l1TenAbs.f k a0).bind fun t440 => ((spec_l1Big.f k false t440).bind fun bt443 => (some (bt443.1, bt443.2.1, bt443.2.2)))) else (some (false, ([] : List Int), false)))
end Go.Proofs.YtdbgpoileffbeaaDoor.Pr
end
section
namespace Go.Proofs.YtdbgpoileffbeaaDoor.Pr
open Go.RowKit Go.Proofs.YtdbgpoileffbeaaDoorW.PrintWords Go.Proofs.YtdbgpoileffbeaaDoorW.PrintLast Go.Proofs.YtdbgpoileffbeaaDoor.Ext Go.Proofs.YtdbgpoileffbeaaDoorW.PrintMore
attribute [local go_sem] max2_int min2_int max_two min_two max_three min_three max_four min_four
set_option linter.unusedVariables false
set_option linter.unusedSimpArgs false
def impl_BigMul.f (k : Nat) (a0_0 : Bool) (l0_1 : List Int) (a1_0 : Bool) (l1_1 : List Int) : Option (Bool × List Int × Bool) := (impl_bigs.f a0_0 l0_1 a1_0 l1_1).bind fun t463 => (if t463 = true then ((impl_Big_signed.f a0_0 l0_1).bind fun bt464 => ((impl_Big_signed.f a1_0 l1_1).bind fun bt468 => ((impl_signed_mul.f k bt464.1 bt464.2 bt468.1 bt468.2).bind fun bt472 => ((impl_big.f k bt472.1 bt472.2).bind fun bt477 => (some (bt477.1, bt477.2.1, bt477.2.2)))))) else (some (false, ([] : List Int), false)))
end Go.Proofs.YtdbgpoileffbeaaDoor.Pr
end
section
namespace Go.Proofs.YtdbgpoileffbeaaDoor.Val
open Go.RowKit Go.Proofs.YtdbgpoileffbeaaDoor.Pr Go.Proofs.YtdbgpoileffbeaaDoor.Ext Go.Proofs.YtdbgpoileffbeaaDoor.Jt Go.Proofs.YtdbgpoileffbeaaDoorW.PrintWords Go.Proofs.YtdbgpoileffbeaaDoorW.PrintLast Go.Proofs.YtdbgpoileffbeaaDoorW.PrintMore
set_option linter.unusedVariables false
set_option linter.unusedSimpArgs false
def trimN (l : List Int) : Nat → Nat
  | 0 => 0
  | n + 1 => if l.getD n 0 = 0 then trimN l n else n + 1
def trimL (l : List Int) : List Int := l.take (trimN l l.length)
theorem trimN_le (l : List Int) (n : Nat) : trimN l n ≤ n := by
  induction n with
  | zero => exact Nat.le_refl _
  | succ n ih => unfold trimN; split <;> omega
theorem trimN_hi (l : List Int) (n : Nat) : ∀ j, trimN l n ≤ j → j < n → l.getD j 0 = 0 := by
  induction n with
  | zero => intro j _ h; omega
  | succ n ih =>
    intro j h1 h2
    unfold trimN at h1
    split at h1
    · rename_i h
      by_cases hj : j = n
      · rw [hj]; exact h
      · exact ih j h1 (by omega)
    · omega
theorem trimN_nz (l : List Int) (n : Nat) : 0 < trimN l n → l.getD (trimN l n - 1) 0 ≠ 0 := by
  induction n with
  | zero => intro h; simp [trimN] at h
  | succ n ih =>
    unfold trimN
    split
    · exact ih
    · rename_i h; intro _; rw [Nat.add_sub_cancel]; exact h
theorem trimL_of (l : List Int) : TrimOf l (trimL l) := ⟨trimN l l.length, trimN_le _ _, rfl, trimN_hi _ _, trimN_nz _ _⟩
theorem trimL_len (l : List Int) : (trimL l).length ≤ l.length := (trimL_of l).len
theorem trimL_rep {l : List Int} (hd : Dig l) : trimL l = rep (val l) := (trimL_of l).rep hd rfl
theorem sTrim_l0 (l : List Int) (hl : l.length < 1000000) : ∀ (n k : Nat), n ≤ l.length → n + 1 ≤ k → spec_l1Trim.l0 k l (n : Int) = some (l.take (trimN l n)) := by
  intro n
  induction n with
  | zero =>
    intro k hn hk
    obtain ⟨k, rfl⟩ : ∃ j, k = j + 1 := ⟨k - 1, by omega⟩
    rw [spec_l1Trim.l0, if_neg (by omega)]
    simp only [Option.bind_some]
    rw [if_pos (by omega), if_pos (by omega), if_pos (by simp)]
    simp [trimN]
  | succ n ih =>
    intro k hn hk
    obtain ⟨k, rfl⟩ : ∃ j, k = j + 1 := ⟨k - 1, by omega⟩
    rw [spec_l1Trim.l0, if_pos (by omega), w64 (by omega) (by omega), show (((n + 1 : Nat) : Int) - 1) = (n : Int) from by omega, if_pos (by omega), if_pos (by omega), rdn, Int.toNat_natCast]
    unfold trimN
    by_cases h : l.getD n 0 = 0
    · rw [if_pos h, if_pos h]; exact ih k (by omega) (by omega)
    · rw [if_neg h, if_neg h]
      simp only [Option.bind_some]
      rw [if_pos (by omega), if_pos (by omega), Int.toNat_natCast, if_pos (by rw [List.length_take]; simp; omega)]
      simp
theorem sTrim_ge (l : List Int) (hl : l.length < 1000000) (k : Nat) (hk : l.length + 1 ≤ k) : spec_l1Trim.f k l = some (trimL l) := sTrim_l0 l hl l.length k (Nat.le_refl _) hk
theorem iTrim_l0 (l : List Int) (hl : l.length < 1000000) : ∀ (n k : Nat), n ≤ l.length → n + 1 ≤ k → impl_limbs_trim.l0 k (l.take n) = some (l.take (trimN l n)) := by
  intro n
  induction n with
  | zero =>
    intro k hn hk
    obtain ⟨k, rfl⟩ : ∃ j, k = j + 1 := ⟨k - 1, by omega⟩
    rw [impl_limbs_trim.l0, if_neg (by simp)]
    rfl
  | succ n ih =>
    intro k hn hk
    obtain ⟨k, rfl⟩ : ∃ j, k = j + 1 := ⟨k - 1, by omega⟩
    have hlen : (l.take (n + 1)).length = n + 1 := by rw [List.length_take]; omega
    rw [impl_limbs_trim.l0, hlen, if_pos (by omega), w64 (by omega) (by omega), show (((n + 1 : Nat) : Int) - 1) = (n : Int) from by omega, if_pos (by omega), if_pos (by omega), rdn, Int.toNat_natCast, getD_take l (by omega)]
    unfold trimN
    by_cases h : l.getD n 0 = 0
    · rw [if_pos h, if_pos h, if_pos (by omega), List.take_take, Nat.min_eq_left (by omega)]; exact ih k (by omega) (by omega)
    · rw [if_neg h, if_neg h]
theorem iTrim_ge (l : List Int) (hl : l.length < 1000000) (k : Nat) (hk : l.length + 1 ≤ k) : impl_limbs_trim.f k l = some (trimL l) := by
  have e := iTrim_l0 l hl l.length k (Nat.le_refl _) hk
  rw [List.take_length] at e
  exact e
def bigR (x : Int) : Bool × List Int × Bool := if -pw 16 < x ∧ x < pw 16 then (mkN x, mkL x, true) else (false, [], false)
theorem bigR_of {neg : Bool} {l : List Int} (hd : Dig l) :
    (if ((rep (val l)).length : Int) > 16 then (false, ([] : List Int), false) else if neg = true then (decide (0 < (rep (val l)).length), rep (val l), true) else (false, rep (val l), true)) = bigR (bigv neg l) := by
  have h0 := val_nonneg hd
  have hr := rep_len h0 16
  have hp := pw_pos 16
  unfold bigR
  by_cases h : ((rep (val l)).length : Int) > 16
  · have hv : ¬ val l < pw 16 := fun hc => by have := hr.2 hc; omega
    rw [if_pos h, if_neg]
    unfold bigv
    split <;> omega
  · have hv : val l < pw 16 := hr.1 (by omega)
    have hin : -pw 16 < bigv neg l ∧ bigv neg l < pw 16 := by unfold bigv; split <;> omega
    rw [if_neg h, if_pos hin]
    cases neg
    · rw [if_neg (by decide)]
      unfold bigv mkN mkL
      rw [if_neg (by decide), if_neg (by omega), decide_eq_false (by omega)]
    · rw [if_pos rfl]
      unfold bigv mkN mkL
      rw [if_pos rfl]
      have hz := rep_nil h0
      by_cases hv0 : val l = 0
      · rw [hv0, rep_zero]; simp [rep_zero]
      · rw [if_pos (by omega), Int.neg_neg, decide_eq_true (show -val l < 0 by omega)]
        have : 0 < (rep (val l)).length := by
          apply Nat.pos_of_ne_zero
          intro hc
          exact hv0 (hz.1 (List.length_eq_zero_iff.1 hc))
        rw [decide_eq_true this]
theorem l1Big_ge {l : List Int} (hd : Dig l) (hl : l.length ≤ 1000) (neg : Bool) (k : Nat) (hk : 1010 ≤ k) : spec_l1Big.f k neg l = some (bigR (bigv neg l)) := by
  unfold spec_l1Big.f
  rw [sTrim_ge l (by omega) k (by omega), ← bigR_of hd, trimL_rep hd]
  simp only [Option.bind_some]
  (repeat' split) <;> simp_all
theorem big_ge {l : List Int} (hd : Dig l) (hl : l.length ≤ 1000) (neg : Bool) (k : Nat) (hk : 1010 ≤ k) : impl_big.f k neg l = some (bigR (bigv neg l)) := by
  unfold impl_big.f impl_clone_int.f clone99.f
  rw [iTrim_ge l (by omega) k (by omega), ← bigR_of hd]
  have := trimL_len l
  simp only [Option.bind_some]
  rw [if_pos (show (trimL l).length < 17592186044416 by omega), trimL_rep hd]
  simp only [Option.bind_some]
  (repeat' split) <;> simp_all
theorem bigR_ok {neg : Bool} {l : List Int} (h : BOk neg l) : bigR (bigv neg l) = (neg, l, true) := by
  unfold bigR
  rw [if_pos (bigv_bd h), (mk_of h).1, (mk_of h).2]
theorem rep_len_le {v : Int} (h0 : 0 ≤ v) {n : Nat} (h : v < pw n) : (rep v).length ≤ n := (rep_len h0 n).2 h
theorem bS {α β : Type} (a : α) (f : α → Option β) : (some a).bind f = f a := by have h := Option.bind_some a f; rw [h]
end Go.Proofs.YtdbgpoileffbeaaDoor.Val
end
