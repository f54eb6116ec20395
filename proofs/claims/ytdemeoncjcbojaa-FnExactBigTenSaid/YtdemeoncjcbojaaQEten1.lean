/- What the claim's row needs of the contracts and words below it, and no more. -/
import Derived.Test.YtdemeoncjcbojaaQEten0
import Derived.Test.YtdemeoncjcbojaaProg
import Derived.Below
import Derived.Deep.Draws
import Derived.Deep.AppendLies
import Derived.Maps.AppendAt
import Derived.OwnWalk
import Derived.Laws.BytesArg
import Derived.Laws.MakeOwn
import Derived.Laws.OwnMore
import Derived.Deep.OwnRows
import Derived.Tactics
import Derived.Lib.ConvBytes
import Derived.Laws.Slices
import Derived.WalkKit
import Derived.KernelRfl
import Derived.RowKit3
import Derived.Deep.LoopGhost
import Derived.Deep.QuietTactic
import Derived.BigQuiet
import Derived.WideLaws
import Derived.Deep.DeepCutAuto
import Derived.Deep.CutBlock
import Derived.Deep.RegionHeld3
import Derived.Laws.Rows
import Derived.Lib.AppendStr
import Derived.ArgAppend
import Derived.Laws.IdiomCopy
import Derived.OrdersHeld
import Derived.Laws.BitsLemmas
import Derived.RowKit
import Derived.Lib.SliceRun
section
namespace Go.Proofs.Ytdemeoncjcbojaa
open Go.RowKit Go.Proofs.YtdemeoncjcbojaaW.PrintWords Go.Proofs.YtdemeoncjcbojaaW.PrintLast Go.Proofs.YtdemeoncjcbojaaW.PrintMore
/-- What the walk has drawn, made and written since lies above. -/
theorem zb {A : Prop} (p : A := by repeat (first | (with_reducible first | exact HB.out | apply below_alloc | apply pw_below_drewN | apply below_drew1 | refine below_set ?_ (Aside0.out (by assumption))) | exact HB.out)) : A := p
/-- A block stays through what is drawn, made or written elsewhere. -/
theorem zk {A B : Prop} (h : A) (p : A → B := by intro h_; (with_reducible repeat (first | exact h_ | refine blk_drewN ?_ _ | refine blk_drew ?_ | refine blk_alloc ?_ _ | refine blk_far ?_ (Aside0.out (by assumption)) _)); try exact h_) : B := p h
/-- A row stays through what is drawn and made. -/
theorem zV {A B : Prop} (h : A) (p : A → B := by intro h_; (with_reducible repeat (first | apply Kd.V_alloc | apply Kd.V_drewN | apply Kd.V_drew)); exact h_) : B := p h
/-- A row stays through what is drawn and made. -/
theorem zR {A B : Prop} (h : A) (p : A → B := by intro h_; (with_reducible repeat (first | apply Kd.R_alloc | apply Kd.R_drewN | apply Kd.R_drew)); exact h_) : B := p h
/-- A row stays through what is drawn and made. -/
theorem zC {A B : Prop} (h : A) (p : A → B := by intro h_; (with_reducible repeat (first | apply Kd.C_alloc | apply Kd.C_drewN | apply Kd.C_drew)); exact h_) : B := p h
/-- The arguments as they stand. -/
theorem za {A : Prop} (p : A := by (try simp only [List.map_toArray, List.map_cons, List.map_nil]); first | done | rfl | (simp only [List.length_drop, List.length_take]; rfl)) : A := p
/-- A row that may be written stays through what is drawn and made. -/
theorem zRW {A B : Prop} (h : A) (p : A → B := by intro h_; (with_reducible repeat (first | apply Kd.RW_alloc | apply Kd.RW_drewN | apply Kd.RW_drew)); exact h_) : B := p h
/-- Set aside. -/
theorem zm {p : Prop} (h : p) : Aside0 p := Aside0.mk h
/-- What is read stays through what is drawn and made. -/
theorem zc {A B : Prop} (h : A) (p : A → B := by intro h_; repeat (first | exact h_ | (with_reducible refine Kd.C_alloc ?_ _) | (with_reducible refine Kd.C_drewN ?_ _) | (with_reducible refine Kd.C_drew ?_))) : B := p h
/-- Cells of a frame. -/
theorem zs {α : Type} (l : List α) (i : Nat) (a : α) : l.toArray.setIfInBounds i a = (l.set i a).toArray := List.setIfInBounds_toArray ..
theorem zs0 {α : Type} (x : α) (l : List α) (a : α) : (x :: l).set 0 a = a :: l := rfl
theorem zs1 {α : Type} (x : α) (l : List α) (n : Nat) (a : α) : (x :: l).set (n + 1) a = x :: l.set n a := rfl
end Go.Proofs.Ytdemeoncjcbojaa
namespace Go.Proofs.Ytdemeoncjcbojaa.Ext
open Go.RowKit Go.Proofs.YtdemeoncjcbojaaW.PrintWords Go.Proofs.YtdemeoncjcbojaaW.PrintLast Go.Proofs.YtdemeoncjcbojaaW.PrintMore
set_option linter.unusedVariables false
set_option linter.unusedSimpArgs false
def bad (x : Int) : Bool := !(decide (0 ≤ x) && decide (x ≤ 9999))
def idx.l0 : Nat → List Int → Int → Option Int
  | 0, _, _ => none
  | k + 1, l, i => if i < (l.length : Int) then (if 0 ≤ i then (if bad (rd l i) = true then some i else idx.l0 k l (wrap64 (i + 1))) else none) else some (-1)
end Go.Proofs.Ytdemeoncjcbojaa.Ext
namespace Go.Proofs.Ytdemeoncjcbojaa.Ext
open Go.RowKit Go.Proofs.YtdemeoncjcbojaaW.PrintWords Go.Proofs.YtdemeoncjcbojaaW.PrintLast Go.Proofs.YtdemeoncjcbojaaW.PrintMore
def containsBad.f (l0 : List Int) : Option Bool := some (l0.any bad)
end Go.Proofs.Ytdemeoncjcbojaa.Ext
end
section
namespace Go.Proofs.Ytdemeoncjcbojaa.Ext
open Go.RowKit Go.Proofs.YtdemeoncjcbojaaW.PrintWords Go.Proofs.YtdemeoncjcbojaaW.PrintLast Go.Proofs.YtdemeoncjcbojaaW.PrintMore
set_option linter.unusedVariables false
set_option linter.unusedSimpArgs false
theorem info3 : (Try.prog.info? 3).map (fun i => (i.zero, i.size, i.bytes)) = some (some (.int .i64 0), 1, 8) := by kernel_rfl
def clone99.f (l0 : List Int) : Option (List Int) := if l0.length < 17592186044416 then some l0 else none
set_option maxHeartbeats 4000000 in
set_option maxRecDepth 100000 in
theorem clone99.calls (A0 : Option Addr) (c0 : Nat) (l0 : List Int) (r : List Int) (w : World) (hr0 : Kd.C (Kd.int .i64) w A0 l0.length l0) (hc0 : l0.length ≤ c0) (h : clone99.f l0 = some r) :
    Calls Try.prog 99 #[.slice A0 l0.length c0] w fun e w' => ∃ v0_ : Value, e = .returned (v0_) ∧ Kd.R (Kd.int .i64) 3 w' w.heap.size (fun _ => True) v0_ r ∧ Below w.heap.size w w' := by
  have hlim : l0.length < 17592186044416 := by unfold clone99.f at h; split at h <;> simp_all
  obtain rfl : l0 = r := by unfold clone99.f at h; rw [if_pos hlim] at h; exact Option.some.inj h
  clear h
  have hq := fun w : World => Lib.run_eql_slice_nil (P := Try.prog) w 22 3 A0 l0.length c0 0 0 Try.underlying22
  have HLIM := Aside0.mk hlim
  clear hlim
  cases A0 with
  | none =>
    have h0 : l0 = [] := by
      apply List.eq_nil_of_length_eq_zero
      apply Nat.eq_zero_of_not_pos
      intro hp
      obtain ⟨ad, e, _⟩ := hr0.2.2 hp
      cases e
    subst h0
    clear hr0 hc0
    simp only [Option.isNone_none, List.length_nil] at hq
    go_enter Try.func99, Try.ntmps99
    go_wp2
    go_ret
    exact ⟨_, rfl, Kd.R_nil _ _ _ _ _, Below.refl _ _⟩
  | some ad0 =>
    have HR0 := Aside0.mk hr0
    have HC0 := Aside0.mk hc0
    clear hr0 hc0
    simp only [Option.isNone_some] at hq
    have HB := Aside0.mk (Below.refl w.heap.size w)
    go_enter Try.func99, Try.ntmps99
    go_wp2_with (first | ((with_reducible refine gate_dst (N := 5) rfl ?_); refine Kd.R_lit (Kd.int .i64) _ 3 ?hg (N := 5) ?hd (xs := ([] : List Int)) (inner := []) (ok := fun _ => True) (okp := fun _ => True) ?hr ?hp (fun _ hk => hk) trivial (Below.refl _ _) (Nat.le_refl _) (by simp) ?_; (case hd => rfl); (case hg => rfl); (case hr => first | (go_simp; done) | (go_simp; rfl)); (case hp => exact (Reps.none _ _)); intro v1 w1 ho1 hb hg_ hnew_; clear hg_ hnew_; have n0_ := Aside0.mk (Kd.R_lower ho1 (below_size zb)); have n1_ := Aside0.mk (below_step zb hb); clear HB; have HO1 := n0_; have HB := n1_; clear n0_ n1_; clear hb ho1) | ((with_reducible refine gate_builtin (b := .append) (xs := #[.tmp 5, .tmp 6]) rfl ?_); at_builtin; refine Kd.R_append_rows (Kd.int .i64) (w0 := w) w.heap.size rfl (.tmp 5) (.tmp 6) 22 3 (.int .i64 0) 8 rfl Try.underlying22 info3 rfl (by decide) (by omega) v1 ([] : List Int) l0 _ _ _ (fun _ => True) (fun _ => False) rfl rfl ?aO ?aR (fun _ _ h => h) (fun _ h => h.elim) ?aF ?aB ?aS ?aL ?_; (case aR => (repeat (first | exact (Kd.C_below HR0.out HB.out) | (with_reducible refine Kd.C_alloc ?_ _) | (with_reducible refine Kd.C_drewN ?_ _) | (with_reducible refine Kd.C_drew ?_)))); (case aB => exact zb); (case aF => exact (fun _ _ => trivial)); (case aO => exact (zR HO1.out)); (case aS => exact (below_size zb)); (case aL => have := HLIM.out; simp only [List.length_nil]; omega); intro v2 w2 ho hb hg hat; have n0_ := Aside0.mk (hb); have n1_ := Aside0.mk (ho); clear HB; clear HO1; have HB := n0_; have HO2 := n1_; clear n0_ n1_; clear ho hb hg hat))
    go_ret
    exact ⟨_, rfl, by have := HO2.out; simp only [List.nil_append] at this; (with_reducible repeat (first | apply Kd.R_alloc | apply Kd.R_drewN | apply Kd.R_drew)); exact this, zb⟩
def clone100.f (l0 : List Int) : Option (List Int) := if l0.length < 17592186044416 then some l0 else none
set_option maxHeartbeats 1000000 in
theorem clip_calls (A : Option Addr) (n c : Nat) (hn : n ≤ c) (hm : n ≤ 9223372036854775807) (w : World) : Calls Try.prog 98 #[.slice A n c] w fun e w' => e = .returned (.slice A n n) ∧ Drawn0 w w' := by
  go_enter Try.func98, Try.ntmps98
  go_wp2
  go_ret
  exact ⟨by first | rfl | (simp; done), by repeat (first | exact Drawn0.refl _ | apply Drawn0.step)⟩
def impl_clone_int.f (l0 : List Int) : Option (List Int) := clone99.f l0
end Go.Proofs.Ytdemeoncjcbojaa.Ext
end
section
namespace Go.Proofs.Ytdemeoncjcbojaa.Pr
open Go.RowKit Go.Proofs.YtdemeoncjcbojaaW.PrintWords Go.Proofs.YtdemeoncjcbojaaW.PrintLast Go.Proofs.Ytdemeoncjcbojaa.Ext Go.Proofs.YtdemeoncjcbojaaW.PrintMore
attribute [local go_sem] max2_int min2_int max_two min_two max_three min_three max_four min_four
set_option linter.unusedVariables false
set_option linter.unusedSimpArgs false
def errW : Option Int → Value
  | none => .nilIface
  | some c => .iface 0 (.int .i64 c)
theorem errW_none : errW none = .nilIface := rfl
theorem errW_some (c : Int) : errW (some c) = .iface 0 (.int .i64 c) := rfl
theorem info3 : (Try.prog.info? 3).map (fun i => (i.zero, i.size, i.bytes)) = some (some (.int .i64 0), 1, 8) := by kernel_rfl
end Go.Proofs.Ytdemeoncjcbojaa.Pr
end
section
namespace Go.Proofs.Ytdemeoncjcbojaa.Pr
open Go.RowKit Go.Proofs.YtdemeoncjcbojaaW.PrintWords Go.Proofs.YtdemeoncjcbojaaW.PrintLast Go.Proofs.Ytdemeoncjcbojaa.Ext Go.Proofs.YtdemeoncjcbojaaW.PrintMore
attribute [local go_sem] max2_int min2_int max_two min_two max_three min_three max_four min_four
set_option linter.unusedVariables false
set_option linter.unusedSimpArgs false
def laws_szIntS.f (l0 : List Int) (a1 : Int) : Option (Int) := if (wrap64 (a1 - (l0.length : Int))) < 0 then (some (-1)) else (some (wrap64 (a1 - (l0.length : Int))))
def laws_szBig.f (a0_0 : Bool) (l0_1 : List Int) (a1 : Int) : Option (Int) := (laws_szIntS.f l0_1 a1).bind fun t102 => (if t102 < 0 then (some (-1)) else (some t102))
def laws_toIntS.l0 : Nat → List Int → List Int → Int → Option (List Int)
  | 0, _, _, _ => none
  | k + 1, x0, x3, x4 => if x4 < (x0.length : Int) then (if 0 ≤ x4 then (if x4 < (x3.length : Int) then (laws_toIntS.l0 k x0 (x3.set (x4 : Int).toNat (rd x0 x4)) (wrap64 (x4 + 1))) else (none)) else (none)) else (some x3)
def laws_toIntS.f (k : Nat) (l0 : List Int) : Option (List Int) := if 0 ≤ (l0.length : Int) then (if ((l0.length : Int) : Int).toNat ≤ 35184372088832 then (laws_toIntS.l0 k l0 (List.replicate ((l0.length : Int) : Int).toNat 0) 0) else (none)) else (none)
def laws_toBig.f (k : Nat) (a0_0 : Bool) (l0_1 : List Int) : Option (Bool × List Int) := (laws_toIntS.f k l0_1).bind fun t117 => (some (a0_0, t117))
def laws_eqIntS.l0 : Nat → List Int → List Int → Int → Option (Bool)
  | 0, _, _, _ => none
  | k + 1, x0, x1, x5 => if x5 < (x0.length : Int) then (if 0 ≤ x5 then (if x5 < (x1.length : Int) then (if (rd x0 x5) = (rd x1 x5) then (laws_eqIntS.l0 k x0 x1 (wrap64 (x5 + 1))) else (some false)) else (none)) else (none)) else (some true)
def laws_eqIntS.f (k : Nat) (l0 : List Int) (l1 : List Int) : Option (Bool) := if (l0.length : Int) = (l1.length : Int) then (laws_eqIntS.l0 k l0 l1 0) else (some false)
set_option maxHeartbeats 8000000 in
set_option maxRecDepth 100000 in
theorem laws_eqIntS.calls (k : Nat) (A0 : Option Addr) (c0 : Nat) (l0 : List Int) (A1 : Option Addr) (c1 : Nat) (l1 : List Int) (r : Bool) (w : World) (hr0 : Kd.C (Kd.int .i64) w A0 l0.length l0) (hc0 : l0.length ≤ c0) (hr1 : Kd.C (Kd.int .i64) w A1 l1.length l1) (hc1 : l1.length ≤ c1) (h : laws_eqIntS.f k l0 l1 = some r) :
    Calls Try.prog 54 #[.slice A0 l0.length c0, .slice A1 l1.length c1] w fun e w' => e = .returned (.bool r) ∧ Drawn0 w w' := by
  have HR0 := Aside0.mk hr0
  have HC0 := Aside0.mk hc0
  clear hr0 hc0
  have HR1 := Aside0.mk hr1
  have HC1 := Aside0.mk hc1
  clear hr1 hc1
  have H : (if (l0.length : Int) = (l1.length : Int) then (laws_eqIntS.l0 k l0 l1 0) else (some false)) = some r := h
  clear h
  by_cases c3 : (l0.length : Int) = (l1.length : Int)
  · rw [if_pos c3] at H
    have c3b0 : ((l0.length : Int) == (l1.length : Int)) = true := beq_iff_eq.mpr c3
    have c3b1 : ((l0.length : Int) != (l1.length : Int)) = false := bne_eq_false_iff_eq.mpr c3
    have c3b2 : (l0.length == l1.length) = true := by first | simpa using c3 | (simp at c3 ⊢; omega)
    clear c3
    have H' := Aside0.mk H
    clear H
    go_enter Try.func54, Try.ntmps54
    go_wp2
    repeat (go_quiet (fail); try go_wp2)
    go_loopg [5] k (fun kq v5 w' => ∃ (x5_1 : Int), v5 = .int .i64 x5_1 ∧ Aside0 (laws_eqIntS.l0 kq l0 l1 x5_1 = some r) ∧ Aside0 (kq ≤ k) ∧ Drawn0 w w')
    case atStart => exact ⟨(0), (by first | rfl | (simp; done) | (simp [*]; done)), H', ⟨Nat.le_refl _⟩, by repeat (first | exact Drawn0.refl _ | apply Drawn0.step)⟩
    case round =>
      clear H'
      try clear c1
      try clear p2
      try clear c3
      try clear c3b0
      try clear c3b1
      try clear c3b2
      obtain ⟨x5_1, rfl, HA, HK1, ⟨m1, rfl⟩⟩ := hrel
      cases gk with
      | zero => exact absurd HA.out (by simp [laws_eqIntS.l0])
      | succ k1 =>
        have H := HA.out
        clear HA
        simp only [laws_eqIntS.l0] at H
        by_cases c4 : x5_1 < (l0.length : Int)
        · rw [if_pos c4] at H
          have c4b0 : decide (x5_1 < (l0.length : Int)) = true := decide_eq_true c4
          clear c4
          by_cases c5 : 0 ≤ x5_1
          · rw [if_pos c5] at H
            have c5b0 : decide (0 ≤ x5_1) = true := decide_eq_true c5
            clear c5
            by_cases c6 : x5_1 < (l1.length : Int)
            · rw [if_pos c6] at H
              have c6b0 : decide (x5_1 < (l1.length : Int)) = true := decide_eq_true c6
              clear c6
              by_cases c7 : (rd l0 x5_1) = (rd l1 x5_1)
              · rw [if_pos c7] at H
                have c7b0 : ((rd l0 x5_1) == (rd l1 x5_1)) = true := beq_iff_eq.mpr c7
                have c7b1 : ((rd l0 x5_1) != (rd l1 x5_1)) = false := bne_eq_false_iff_eq.mpr c7
                clear c7
                have H' := Aside0.mk H
                clear H
                have p126 : 0 ≤ (x5_1 : Int) := of_decide_eq_true (by first | (with_reducible assumption) | assumption)
                have q126 : x5_1 < (l0.length : Int) := of_decide_eq_true (by first | (with_reducible assumption) | assumption)
                obtain ⟨ad126, e126, hx126_0⟩ := Kd.at_int HR0.out x5_1 p126 q126
                cases e126
                replace p126 := eq_true p126
                replace q126 := eq_true q126
                have p127 : 0 ≤ (x5_1 : Int) := of_decide_eq_true (by first | (with_reducible assumption) | assumption)
                have q127 : x5_1 < (l1.length : Int) := of_decide_eq_true (by first | (with_reducible assumption) | assumption)
                obtain ⟨ad127, e127, hx127_0⟩ := Kd.at_int HR1.out x5_1 p127 q127
                cases e127
                replace p127 := eq_true p127
                replace q127 := eq_true q127
                go_wp2
                repeat (go_quiet (fail); try go_wp2)
                go_roundg k1
                case measure => have := HK1.out; omega
                case rel => exact ⟨(wrap64 (x5_1 + 1)), (by first | rfl | (simp; done) | (simp [*]; done)), H', ⟨by have := HK1.out; omega⟩, by repeat (first | exact Drawn0.refl _ | apply Drawn0.step)⟩
              · rw [if_neg c7] at H
                have c7b0 : ((rd l0 x5_1) == (rd l1 x5_1)) = false := beq_eq_false_iff_ne.mpr c7
                have c7b1 : ((rd l0 x5_1) != (rd l1 x5_1)) = true := bne_iff_ne.mpr c7
                obtain rfl := Option.some.inj H
                have p126 : 0 ≤ (x5_1 : Int) := of_decide_eq_true (by first | (with_reducible assumption) | assumption)
                have q126 : x5_1 < (l0.length : Int) := of_decide_eq_true (by first | (with_reducible assumption) | assumption)
                obtain ⟨ad126, e126, hx126_0⟩ := Kd.at_int HR0.out x5_1 p126 q126
                cases e126
                replace p126 := eq_true p126
                replace q126 := eq_true q126
                have p127 : 0 ≤ (x5_1 : Int) := of_decide_eq_true (by first | (with_reducible assumption) | assumption)
                have q127 : x5_1 < (l1.length : Int) := of_decide_eq_true (by first | (with_reducible assumption) | assumption)
                obtain ⟨ad127, e127, hx127_0⟩ := Kd.at_int HR1.out x5_1 p127 q127
                cases e127
                replace p127 := eq_true p127
                replace q127 := eq_true q127
                go_wp2
                repeat (go_quiet (fail); try go_wp2)
                go_ret
                exact ⟨by first | rfl | (simp; done) | (simp [*]; done), by repeat (first | exact Drawn0.refl _ | apply Drawn0.step)⟩
            · rw [if_neg c6] at H
              exact absurd H (by simp)
          · rw [if_neg c5] at H
            exact absurd H (by simp)
        · rw [if_neg c4] at H
          have c4b0 : decide (x5_1 < (l0.length : Int)) = false := decide_eq_false c4
          clear c4
          obtain rfl := Option.some.inj H
          go_wp2
          repeat (go_quiet (fail); try go_wp2)
          go_ret
          exact ⟨by first | rfl | (simp; done) | (simp [*]; done), by repeat (first | exact Drawn0.refl _ | apply Drawn0.step)⟩
  · rw [if_neg c3] at H
    have c3b0 : ((l0.length : Int) == (l1.length : Int)) = false := beq_eq_false_iff_ne.mpr c3
    have c3b1 : ((l0.length : Int) != (l1.length : Int)) = true := bne_iff_ne.mpr c3
    have c3b2 : (l0.length == l1.length) = false := by first | simpa using c3 | (simp at c3 ⊢; omega)
    obtain rfl := Option.some.inj H
    go_enter Try.func54, Try.ntmps54
    go_wp2
    repeat (go_quiet (fail); try go_wp2)
    go_ret
    exact ⟨by first | rfl | (simp; done) | (simp [*]; done), by repeat (first | exact Drawn0.refl _ | apply Drawn0.step)⟩
def laws_eqBig.f (k : Nat) (a0_0 : Bool) (l0_1 : List Int) (a1_0 : Bool) (l1_1 : List Int) : Option (Bool) := if (a0_0 != a1_0) = true then (some false) else ((laws_eqIntS.f k l0_1 l1_1).bind fun t130 => (if t130 = true then (some true) else (some false)))
set_option maxHeartbeats 8000000 in
set_option maxRecDepth 100000 in
theorem laws_eqBig.calls (k : Nat) (a0_0 : Bool) (A0_1 : Option Addr) (c0_1 : Nat) (l0_1 : List Int) (a1_0 : Bool) (A1_1 : Option Addr) (c1_1 : Nat) (l1_1 : List Int) (r : Bool) (w : World) (hr0_1 : Kd.C (Kd.int .i64) w A0_1 l0_1.length l0_1) (hc0_1 : l0_1.length ≤ c0_1) (hr1_1 : Kd.C (Kd.int .i64) w A1_1 l1_1.length l1_1) (hc1_1 : l1_1.length ≤ c1_1) (h : laws_eqBig.f k a0_0 l0_1 a1_0 l1_1 = some r) :
    Calls Try.prog 23 #[.agg #[.bool a0_0, .slice A0_1 l0_1.length c0_1], .agg #[.bool a1_0, .slice A1_1 l1_1.length c1_1]] w fun e w' => e = .returned (.bool r) ∧ Below w.heap.size w w' := by
  have hu27 := Try.underlying27
  have HR0_1 := Aside0.mk hr0_1
  have HC0_1 := Aside0.mk hc0_1
  clear hr0_1 hc0_1
  have HR1_1 := Aside0.mk hr1_1
  have HC1_1 := Aside0.mk hc1_1
  clear hr1_1 hc1_1
  have HB := Aside0.mk (Below.refl w.heap.size w)
  have H : (if (a0_0 != a1_0) = true then (some false) else ((laws_eqIntS.f k l0_1 l1_1).bind fun t130 => (if t130 = true then (some true) else (some false)))) = some r := h
  clear h
  by_cases c3 : (a0_0 != a1_0) = true
  · rw [if_pos c3] at H
    have c3b0 : (a0_0 != a1_0) = true := c3
    (try (have c3b1 : decide (a0_0 = a1_0) = false := by simpa using c3))
    (try (have c3b2 : (a0_0 == a1_0) = false := by simpa using c3))
    (try (have c3b3 : ¬ (a0_0 = a1_0) := by simpa using c3))
    clear c3
    obtain rfl := Option.some.inj H
    go_enter Try.func23, Try.ntmps23
    go_wp2_with (first | ((with_reducible refine gate_dst (N := 2) rfl ?_); refine box_event ?hg (N := 2) ?hd (cs := #[.bool a0_0, .slice A0_1 l0_1.length c0_1]) (t := 27) ?hr ?_; (case hd => rfl); (case hg => rfl); (case hr => first | (go_simp; done) | (go_simp; rfl)); intro gb128 hg w4 hbox hb; have n0_ := Aside0.mk (below_step zb hb); have n1_ := Aside0.mk (hbox); have n2_ := Aside0.mk ((by rw [hg]; exact (below_size zb) : w.heap.size ≤ gb128)); have n3_ := Aside0.mk ((by rw [hg]; exact (below_size zb) : w.heap.size ≤ gb128)); clear HB; have HB := n0_; have BK128 := n1_; have GW128 := n2_; have GE128 := n3_; clear n0_ n1_ n2_ n3_; clear hb hbox hg) | ((with_reducible refine gate_dst (N := 3) rfl ?_); refine box_event ?hg (N := 3) ?hd (cs := #[.bool a1_0, .slice A1_1 l1_1.length c1_1]) (t := 27) ?hr ?_; (case hd => rfl); (case hg => rfl); (case hr => first | (go_simp; done) | (go_simp; rfl)); intro gb129 hg w5 hbox hb; have n0_ := Aside0.mk (blk_below (g := gb128) (o := .cells #[.bool a0_0, .slice A0_1 l0_1.length c0_1] 27 (0, 0)) (zk BK128.out) hb); have n1_ := Aside0.mk (below_step zb hb); have n2_ := Aside0.mk (hbox); have n3_ := Aside0.mk ((by rw [hg]; exact (below_size zb) : w.heap.size ≤ gb129)); have n4_ := Aside0.mk ((by rw [hg]; exact (below_size zb) : w.heap.size ≤ gb129)); have n5_ := Aside0.mk ((by rw [hg]; exact Nat.ne_of_lt (blk_lt (g := gb128) (o := .cells #[.bool a0_0, .slice A0_1 l0_1.length c0_1] 27 (0, 0)) (zk BK128.out)) : gb128 ≠ gb129)); have n6_ := Aside0.mk ((by rw [hg]; exact Nat.ne_of_gt (blk_lt (g := gb128) (o := .cells #[.bool a0_0, .slice A0_1 l0_1.length c0_1] 27 (0, 0)) (zk BK128.out)) : gb129 ≠ gb128)); clear BK128; clear HB; have BK128 := n0_; have HB := n1_; have BK129 := n2_; have GW129 := n3_; have GE129 := n4_; have NB128_129 := n5_; have NB129_128 := n6_; clear n0_ n1_ n2_ n3_ n4_ n5_ n6_; clear hb hbox hg; have hnb6 := NB128_129.out; have hnc6 := NB129_128.out; have hcz7_0 : w5.cell? ⟨gb128, 0, none⟩ = some (.bool a0_0) := (blk_cell BK128.out 0).trans rfl; have hcz7_1 : w5.cell? ⟨gb128, 1, none⟩ = some (.slice A0_1 l0_1.length c0_1) := (blk_cell BK128.out 1).trans rfl; have hfz7_0 := blk_frozen BK128.out 0; have hfz7_1 := blk_frozen BK128.out 1; have hcz8_0 : w5.cell? ⟨gb129, 0, none⟩ = some (.bool a1_0) := (blk_cell BK129.out 0).trans rfl; have hcz8_1 : w5.cell? ⟨gb129, 1, none⟩ = some (.slice A1_1 l1_1.length c1_1) := (blk_cell BK129.out 1).trans rfl; have hfz8_0 := blk_frozen BK129.out 0; have hfz8_1 := blk_frozen BK129.out 1))
    go_ret
    exact ⟨by first | rfl | (simp [errW_none, errW_some] <;> rfl) | (simp [*, errW_none, errW_some] <;> rfl), zb⟩
  · rw [if_neg c3] at H
    have c3b0 : (a0_0 != a1_0) = false := by simpa using c3
    (try (have c3b1 : decide (a0_0 = a1_0) = true := by simpa using c3))
    (try (have c3b2 : (a0_0 == a1_0) = true := by simpa using c3))
    clear c3
    replace H := Option.bind_eq_some_iff.mp H
    obtain ⟨t130, A90, H⟩ := H
    replace H : (if t130 = true then (some true) else (some false)) = some r := H
    have A9 := Aside0.mk A90
    clear A90
    by_cases c10 : t130 = true
    · subst c10
      have H1 : (some true) = some r := by rw [if_pos rfl] at H; exact H
      clear H
      have H := H1
      clear H1
      obtain rfl := Option.some.inj H
      go_enter Try.func23, Try.ntmps23
      go_wp2_with (first | ((with_reducible refine gate_dst (N := 2) rfl ?_); refine box_event ?hg (N := 2) ?hd (cs := #[.bool a0_0, .slice A0_1 l0_1.length c0_1]) (t := 27) ?hr ?_; (case hd => rfl); (case hg => rfl); (case hr => first | (go_simp; done) | (go_simp; rfl)); intro gb128 hg w11 hbox hb; have n0_ := Aside0.mk (below_step zb hb); have n1_ := Aside0.mk (hbox); have n2_ := Aside0.mk ((by rw [hg]; exact (below_size zb) : w.heap.size ≤ gb128)); have n3_ := Aside0.mk ((by rw [hg]; exact (below_size zb) : w.heap.size ≤ gb128)); clear HB; have HB := n0_; have BK128 := n1_; have GW128 := n2_; have GE128 := n3_; clear n0_ n1_ n2_ n3_; clear hb hbox hg) | ((with_reducible refine gate_dst (N := 3) rfl ?_); refine box_event ?hg (N := 3) ?hd (cs := #[.bool a1_0, .slice A1_1 l1_1.length c1_1]) (t := 27) ?hr ?_; (case hd => rfl); (case hg => rfl); (case hr => first | (go_simp; done) | (go_simp; rfl)); intro gb129 hg w12 hbox hb; have n0_ := Aside0.mk (blk_below (g := gb128) (o := .cells #[.bool a0_0, .slice A0_1 l0_1.length c0_1] 27 (0, 0)) (zk BK128.out) hb); have n1_ := Aside0.mk (below_step zb hb); have n2_ := Aside0.mk (hbox); have n3_ := Aside0.mk ((by rw [hg]; exact (below_size zb) : w.heap.size ≤ gb129)); have n4_ := Aside0.mk ((by rw [hg]; exact (below_size zb) : w.heap.size ≤ gb129)); have n5_ := Aside0.mk ((by rw [hg]; exact Nat.ne_of_lt (blk_lt (g := gb128) (o := .cells #[.bool a0_0, .slice A0_1 l0_1.length c0_1] 27 (0, 0)) (zk BK128.out)) : gb128 ≠ gb129)); have n6_ := Aside0.mk ((by rw [hg]; exact Nat.ne_of_gt (blk_lt (g := gb128) (o := .cells #[.bool a0_0, .slice A0_1 l0_1.length c0_1] 27 (0, 0)) (zk BK128.out)) : gb129 ≠ gb128)); clear BK128; clear HB; have BK128 := n0_; have HB := n1_; have BK129 := n2_; have GW129 := n3_; have GE129 := n4_; have NB128_129 := n5_; have NB129_128 := n6_; clear n0_ n1_ n2_ n3_ n4_ n5_ n6_; clear hb hbox hg; have hnb13 := NB128_129.out; have hnc13 := NB129_128.out; have hcz14_0 : w12.cell? ⟨gb128, 0, none⟩ = some (.bool a0_0) := (blk_cell BK128.out 0).trans rfl; have hcz14_1 : w12.cell? ⟨gb128, 1, none⟩ = some (.slice A0_1 l0_1.length c0_1) := (blk_cell BK128.out 1).trans rfl; have hfz14_0 := blk_frozen BK128.out 0; have hfz14_1 := blk_frozen BK128.out 1; have hcz15_0 : w12.cell? ⟨gb129, 0, none⟩ = some (.bool a1_0) := (blk_cell BK129.out 0).trans rfl; have hcz15_1 : w12.cell? ⟨gb129, 1, none⟩ = some (.slice A1_1 l1_1.length c1_1) := (blk_cell BK129.out 1).trans rfl; have hfz15_0 := blk_frozen BK129.out 0; have hfz15_1 := blk_frozen BK129.out 1) | ((with_reducible refine gate_callee (f := 54) rfl ?_); refine goesL_ (some 14) rfl rfl Try.func54 (by kernel_rfl) rfl #[.slice A0_1 l0_1.length c0_1, .slice A1_1 l1_1.length c1_1] rfl za ?_; (with_reducible refine (laws_eqIntS.calls k _ _ l0_1 _ _ l1_1 true _ ?side1 ?side2 ?side3 ?side4 A9.out).mono ?_); (case side1 => repeat (first | exact (Kd.C_below HR0_1.out HB.out) | (with_reducible refine Kd.C_alloc ?_ _) | (with_reducible refine Kd.C_drewN ?_ _) | (with_reducible refine Kd.C_drew ?_))); (case side2 => exact HC0_1.out); (case side3 => repeat (first | exact (Kd.C_below HR1_1.out HB.out) | (with_reducible refine Kd.C_alloc ?_ _) | (with_reducible refine Kd.C_drewN ?_ _) | (with_reducible refine Kd.C_drew ?_))); (case side4 => exact HC1_1.out); rintro e w' ⟨rfl, ⟨nd, rfl⟩⟩; refine ⟨_, rfl, ?_⟩))
      go_ret
      exact ⟨by first | rfl | (simp [errW_none, errW_some] <;> rfl) | (simp [*, errW_none, errW_some] <;> rfl), zb⟩
    · replace c10 := Bool.eq_false_iff.mpr c10
      subst c10
      have H1 : (some false) = some r := by rw [if_neg (show ¬ (false = true) by decide)] at H; exact H
      clear H
      have H := H1
      clear H1
      obtain rfl := Option.some.inj H
      go_enter Try.func23, Try.ntmps23
      go_wp2_with (first | ((with_reducible refine gate_dst (N := 2) rfl ?_); refine box_event ?hg (N := 2) ?hd (cs := #[.bool a0_0, .slice A0_1 l0_1.length c0_1]) (t := 27) ?hr ?_; (case hd => rfl); (case hg => rfl); (case hr => first | (go_simp; done) | (go_simp; rfl)); intro gb128 hg w16 hbox hb; have n0_ := Aside0.mk (below_step zb hb); have n1_ := Aside0.mk (hbox); have n2_ := Aside0.mk ((by rw [hg]; exact (below_size zb) : w.heap.size ≤ gb128)); have n3_ := Aside0.mk ((by rw [hg]; exact (below_size zb) : w.heap.size ≤ gb128)); clear HB; have HB := n0_; have BK128 := n1_; have GW128 := n2_; have GE128 := n3_; clear n0_ n1_ n2_ n3_; clear hb hbox hg) | ((with_reducible refine gate_dst (N := 3) rfl ?_); refine box_event ?hg (N := 3) ?hd (cs := #[.bool a1_0, .slice A1_1 l1_1.length c1_1]) (t := 27) ?hr ?_; (case hd => rfl); (case hg => rfl); (case hr => first | (go_simp; done) | (go_simp; rfl)); intro gb129 hg w17 hbox hb; have n0_ := Aside0.mk (blk_below (g := gb128) (o := .cells #[.bool a0_0, .slice A0_1 l0_1.length c0_1] 27 (0, 0)) (zk BK128.out) hb); have n1_ := Aside0.mk (below_step zb hb); have n2_ := Aside0.mk (hbox); have n3_ := Aside0.mk ((by rw [hg]; exact (below_size zb) : w.heap.size ≤ gb129)); have n4_ := Aside0.mk ((by rw [hg]; exact (below_size zb) : w.heap.size ≤ gb129)); have n5_ := Aside0.mk ((by rw [hg]; exact Nat.ne_of_lt (blk_lt (g := gb128) (o := .cells #[.bool a0_0, .slice A0_1 l0_1.length c0_1] 27 (0, 0)) (zk BK128.out)) : gb128 ≠ gb129)); have n6_ := Aside0.mk ((by rw [hg]; exact Nat.ne_of_gt (blk_lt (g := gb128) (o := .cells #[.bool a0_0, .slice A0_1 l0_1.length c0_1] 27 (0, 0)) (zk BK128.out)) : gb129 ≠ gb128)); clear BK128; clear HB; have BK128 := n0_; have HB := n1_; have BK129 := n2_; have GW129 := n3_; have GE129 := n4_; have NB128_129 := n5_; have NB129_128 := n6_; clear n0_ n1_ n2_ n3_ n4_ n5_ n6_; clear hb hbox hg; have hnb18 := NB128_129.out; have hnc18 := NB129_128.out; have hcz19_0 : w17.cell? ⟨gb128, 0, none⟩ = some (.bool a0_0) := (blk_cell BK128.out 0).trans rfl; have hcz19_1 : w17.cell? ⟨gb128, 1, none⟩ = some (.slice A0_1 l0_1.length c0_1) := (blk_cell BK128.out 1).trans rfl; have hfz19_0 := blk_frozen BK128.out 0; have hfz19_1 := blk_frozen BK128.out 1; have hcz20_0 : w17.cell? ⟨gb129, 0, none⟩ = some (.bool a1_0) := (blk_cell BK129.out 0).trans rfl; have hcz20_1 : w17.cell? ⟨gb129, 1, none⟩ = some (.slice A1_1 l1_1.length c1_1) := (blk_cell BK129.out 1).trans rfl; have hfz20_0 := blk_frozen BK129.out 0; have hfz20_1 := blk_frozen BK129.out 1) | ((with_reducible refine gate_callee (f := 54) rfl ?_); refine goesL_ (some 14) rfl rfl Try.func54 (by kernel_rfl) rfl #[.slice A0_1 l0_1.length c0_1, .slice A1_1 l1_1.length c1_1] rfl za ?_; (with_reducible refine (laws_eqIntS.calls k _ _ l0_1 _ _ l1_1 false _ ?side1 ?side2 ?side3 ?side4 A9.out).mono ?_); (case side1 => repeat (first | exact (Kd.C_below HR0_1.out HB.out) | (with_reducible refine Kd.C_alloc ?_ _) | (with_reducible refine Kd.C_drewN ?_ _) | (with_reducible refine Kd.C_drew ?_))); (case side2 => exact HC0_1.out); (case side3 => repeat (first | exact (Kd.C_below HR1_1.out HB.out) | (with_reducible refine Kd.C_alloc ?_ _) | (with_reducible refine Kd.C_drewN ?_ _) | (with_reducible refine Kd.C_drew ?_))); (case side4 => exact HC1_1.out); rintro e w' ⟨rfl, ⟨nd, rfl⟩⟩; refine ⟨_, rfl, ?_⟩))
      go_ret
      exact ⟨by first | rfl | (simp [errW_none, errW_some] <;> rfl) | (simp [*, errW_none, errW_some] <;> rfl), zb⟩
def laws_jtInts.l0 : Nat → List Int → List Int → Int → Option (Bool)
  | 0, _, _, _ => none
  | k + 1, x0, x1, x5 => if x5 < (x0.length : Int) then (if 0 ≤ x5 then (if x5 < (x1.length : Int) then (if (rd x0 x5) = (rd x1 x5) then (laws_jtInts.l0 k x0 x1 (wrap64 (x5 + 1))) else (some false)) else (none)) else (none)) else (some true)
def laws_jtInts.f (k : Nat) (l0 : List Int) (l1 : List Int) : Option (Bool) := if (l0.length : Int) = (l1.length : Int) then (laws_jtInts.l0 k l0 l1 0) else (some false)
def laws_jtBig.f (k : Nat) (a0_0 : Bool) (l0_1 : List Int) (a1_0 : Bool) (l1_1 : List Int) : Option (Bool) := if (a0_0 == a1_0) = true then ((laws_jtInts.f k l0_1 l1_1).bind fun t328 => (some t328)) else (some false)
def laws_jtZero.f (a0_0 : Bool) (l0_1 : List Int) : Option (Bool) := if a0_0 = true then (some false) else (some ((l0_1.length : Int) == 0))
end Go.Proofs.Ytdemeoncjcbojaa.Pr
end
section
namespace Go.Proofs.Ytdemeoncjcbojaa.Pr
open Go.RowKit Go.Proofs.YtdemeoncjcbojaaW.PrintWords Go.Proofs.YtdemeoncjcbojaaW.PrintLast Go.Proofs.Ytdemeoncjcbojaa.Ext Go.Proofs.YtdemeoncjcbojaaW.PrintMore
attribute [local go_sem] max2_int min2_int max_two min_two max_three min_three max_four min_four
set_option linter.unusedVariables false
set_option linter.unusedSimpArgs false
def spec_l1In.f (a0 : Int) (a1 : Int) (a2 : Int) : Option (Bool) := if a0 ≥ a1 then (some (decide (a0 ≤ a2))) else (some false)
set_option maxHeartbeats 8000000 in
set_option maxRecDepth 100000 in
theorem spec_l1In.calls (a0 : Int) (a1 : Int) (a2 : Int) (r : Bool) (w : World) (h : spec_l1In.f a0 a1 a2 = some r) :
    Calls Try.prog 59 #[.int .i64 a0, .int .i64 a1, .int .i64 a2] w fun e w' => e = .returned (.bool r) ∧ Drawn0 w w' := by
  have H : (if a0 ≥ a1 then (some (decide (a0 ≤ a2))) else (some false)) = some r := h
  clear h
  by_cases c4 : a0 ≥ a1
  · rw [if_pos c4] at H
    have c4b0 : decide (a1 ≤ a0) = true := decide_eq_true c4
    clear c4
    obtain rfl := Option.some.inj H
    go_enter Try.func59, Try.ntmps59
    go_wp2
    go_ret
    exact ⟨by first | rfl | (simp; done) | (simp [*]; done), by repeat (first | exact Drawn0.refl _ | apply Drawn0.step)⟩
  · rw [if_neg c4] at H
    have c4b0 : decide (a1 ≤ a0) = false := decide_eq_false c4
    clear c4
    obtain rfl := Option.some.inj H
    go_enter Try.func59, Try.ntmps59
    go_wp2
    go_ret
    exact ⟨by first | rfl | (simp; done) | (simp [*]; done), by repeat (first | exact Drawn0.refl _ | apply Drawn0.step)⟩
mutual
def spec_l1Ok.j0 : Nat → Bool → Bool → List Int → Option (Bool)
  | 0, _, _, _ => none
  | k + 1, x17, x104000, x104001 => if x17 = true then (some false) else (spec_l1Ok.l0 k 0 x104000 x104001)
def spec_l1Ok.l0 : Nat → Int → Bool → List Int → Option (Bool)
  | 0, _, _, _ => none
  | k + 1, x3, x104000, x104001 => if x3 < (x104001.length : Int) then (if 0 ≤ x3 then ((spec_l1In.f (rd x104001 x3) 0 9999).bind fun t105 => (if t105 = true then (spec_l1Ok.l0 k (wrap64 (x3 + 1)) x104000 x104001) else (some false))) else (none)) else (if (x104001.length : Int) = 0 then (some true) else (if 0 ≤ (wrap64 ((x104001.length : Int) - 1)) then (if (wrap64 ((x104001.length : Int) - 1)) < (x104001.length : Int) then (some ((rd x104001 (wrap64 ((x104001.length : Int) - 1))) != 0)) else (none)) else (none)))
end
def spec_l1Ok.f (k : Nat) (a0_0 : Bool) (l0_1 : List Int) : Option (Bool) := if (l0_1.length : Int) > 16 then (spec_l1Ok.j0 k true a0_0 l0_1) else (if a0_0 = true then (spec_l1Ok.j0 k ((l0_1.length : Int) == 0) a0_0 l0_1) else (spec_l1Ok.j0 k false a0_0 l0_1))
def spec_BigOk.f (k : Nat) (a0_0 : Bool) (l0_1 : List Int) : Option (Bool) := (spec_l1Ok.f k a0_0 l0_1).bind fun t108 => (some t108)
def spec_l1Trim.l0 : Nat → List Int → Int → Option (List Int)
  | 0, _, _ => none
  | k + 1, x0, x3 => if x3 > 0 then (if 0 ≤ (wrap64 (x3 - 1)) then (if (wrap64 (x3 - 1)) < (x0.length : Int) then (if (rd x0 (wrap64 (x3 - 1))) = 0 then (spec_l1Trim.l0 k x0 (wrap64 (x3 - 1))) else ((some (([] : List Int) : List Int)).bind fun y216 => (if 0 ≤ x3 then (if x3 ≤ (x0.length : Int) then (if y216.length + (x0.take (x3 : Int).toNat).length < 17592186044416 then (some (y216 ++ (x0.take (x3 : Int).toNat))) else (none)) else (none)) else (none)))) else (none)) else (none)) else ((some (([] : List Int) : List Int)).bind fun y223 => (if 0 ≤ x3 then (if x3 ≤ (x0.length : Int) then (if y223.length + (x0.take (x3 : Int).toNat).length < 17592186044416 then (some (y223 ++ (x0.take (x3 : Int).toNat))) else (none)) else (none)) else (none)))
def spec_l1Trim.f (k : Nat) (l0 : List Int) : Option (List Int) := spec_l1Trim.l0 k l0 (l0.length : Int)
set_option maxHeartbeats 8000000 in
set_option maxRecDepth 100000 in
theorem spec_l1Trim.calls (k : Nat) (A0 : Option Addr) (c0 : Nat) (l0 : List Int) (r : List Int) (w : World) (hr0 : Kd.C (Kd.int .i64) w A0 l0.length l0) (hc0 : l0.length ≤ c0) (h : spec_l1Trim.f k l0 = some r) :
    Calls Try.prog 84 #[.slice A0 l0.length c0] w fun e w' => ∃ v0_ : Value, e = .returned (v0_) ∧ Kd.R (Kd.int .i64) 3 w' w.heap.size (fun _ => True) v0_ r ∧ Below w.heap.size w w' := by
  have HR0 := Aside0.mk hr0
  have HC0 := Aside0.mk hc0
  clear hr0 hc0
  have HB := Aside0.mk (Below.refl w.heap.size w)
  have H : (spec_l1Trim.l0 k l0 (l0.length : Int)) = some r := h
  clear h
  have H' := Aside0.mk H
  clear H
  go_enter Try.func84, Try.ntmps84
  go_wp2
  go_loopg [3] k (fun kq v3 w' => ∃ (x3_1 : Int), v3 = .int .i64 x3_1 ∧ Aside0 (spec_l1Trim.l0 kq l0 x3_1 = some r) ∧ Aside0 (kq ≤ k) ∧ Aside0 (Below w.heap.size w w'))
  case atStart => exact ⟨((l0.length : Int)), (by first | rfl | (simp; done) | (simp [*]; done)), H', ⟨Nat.le_refl _⟩, ⟨zb⟩⟩
  case round =>
    clear H'
    obtain ⟨x3_1, rfl, HA, HK1, HB⟩ := hrel
    cases gk with
    | zero => exact absurd HA.out (by simp [spec_l1Trim.l0])
    | succ k1 =>
      have H := HA.out
      clear HA
      simp only [spec_l1Trim.l0] at H
      by_cases c2 : x3_1 > 0
      · rw [if_pos c2] at H
        have c2b0 : decide (0 < x3_1) = true := decide_eq_true c2
        clear c2
        obtain ⟨ji3, hji3⟩ : ∃ j_ : Int, (wrap64 (x3_1 - 1)) = j_ := ⟨_, rfl⟩
        replace H : (if 0 ≤ (ji3) then (if (ji3) < (l0.length : Int) then (if (rd l0 (ji3)) = 0 then (spec_l1Trim.l0 k1 l0 ji3) else ((some (([] : List Int) : List Int)).bind fun y216 => (if 0 ≤ x3_1 then (if x3_1 ≤ (l0.length : Int) then (if y216.length + (l0.take (x3_1 : Int).toNat).length < 17592186044416 then (some (y216 ++ (l0.take (x3_1 : Int).toNat))) else (none)) else (none)) else (none)))) else (none)) else (none)) = some r := by first | (rw [hji3] at H; exact H) | (simp only [hji3] at H ⊢; exact H)
        have hji3w : (IntKind.i64.wrap (x3_1 - 1)) = ji3 := (i64_w _).trans hji3
        by_cases c4 : 0 ≤ (ji3)
        · rw [if_pos c4] at H
          have c4b0 : decide (0 ≤ (ji3)) = true := decide_eq_true c4
          clear c4
          by_cases c5 : (ji3) < (l0.length : Int)
          · rw [if_pos c5] at H
            have c5b0 : decide ((ji3) < (l0.length : Int)) = true := decide_eq_true c5
            clear c5
            by_cases c6 : (rd l0 (ji3)) = 0
            · rw [if_pos c6] at H
              have c6b0 : ((rd l0 (ji3)) == 0) = true := beq_iff_eq.mpr c6
              have c6b1 : ((rd l0 (ji3)) != 0) = false := bne_eq_false_iff_eq.mpr c6
              clear c6
              have H' := Aside0.mk H
              clear H
              have p215 : 0 ≤ ((ji3) : Int) := of_decide_eq_true (by first | (with_reducible assumption) | assumption)
              have q215 : (ji3) < (l0.length : Int) := of_decide_eq_true (by first | (with_reducible assumption) | assumption)
              obtain ⟨ad215, e215, hx215_0⟩ := Kd.at_int HR0.out (ji3) p215 q215
              cases e215
              replace hx215_0 := (HB.out.cell (World.block_lt_of_cell? w _ hx215_0)).trans hx215_0
              replace p215 := eq_true p215
              replace q215 := eq_true q215
              go_wp2
              go_roundg k1
              case measure => have := HK1.out; omega
              case rel => exact ⟨(ji3), (by first | rfl | (simp; done) | (simp only [← hji3] <;> (first | rfl | simp)) | (simp [*]; done)), H', ⟨by have := HK1.out; omega⟩, ⟨zb⟩⟩
            · rw [if_neg c6] at H
              have c6b0 : ((rd l0 (ji3)) == 0) = false := beq_eq_false_iff_ne.mpr c6
              have c6b1 : ((rd l0 (ji3)) != 0) = true := bne_iff_ne.mpr c6
              obtain ⟨y216, hy216⟩ : ∃ y_ : List Int, y_ = (([] : List Int)) := ⟨_, rfl⟩
              replace H : (if 0 ≤ x3_1 then (if x3_1 ≤ (l0.length : Int) then (if y216.length + (l0.take (x3_1 : Int).toNat).length < 17592186044416 then (some (y216 ++ (l0.take (x3_1 : Int).toNat))) else (none)) else (none)) else (none)) = some r := by first | (rw [hy216]; with_reducible exact H) | (have H2_ := (Option.bind_some _ _).symm.trans H; rw [hy216]; with_reducible exact H2_) | (have H2_ := (Option.bind_some _ _).symm.trans H; with_reducible exact H2_) | with_reducible exact H | (rw [hy216]; exact H) | exact H
              have Ny216 := Aside0.mk hy216
              clear hy216
              by_cases c7 : 0 ≤ x3_1
              · rw [if_pos c7] at H
                have c7b0 := eq_true c7
                have c7b1 : decide (0 ≤ x3_1) = true := decide_eq_true c7
                clear c7
                by_cases c8 : x3_1 ≤ (l0.length : Int)
                · rw [if_pos c8] at H
                  have c8b0 := eq_true c8
                  have c8b1 : decide (x3_1 ≤ (l0.length : Int)) = true := decide_eq_true c8
                  clear c8
                  by_cases c9 : y216.length + (l0.take (x3_1 : Int).toNat).length < 17592186044416
                  · rw [if_pos c9] at H
                    have LMc9 := Aside0.mk c9
                    clear c9
                    obtain ⟨y220, hy220⟩ : ∃ y_ : List Int, y_ = (y216 ++ (l0.take (x3_1 : Int).toNat)) := ⟨_, rfl⟩
                    replace H : (some y220) = some r := by first | (rw [hy220]; with_reducible exact H) | (have H2_ := (Option.bind_some _ _).symm.trans H; rw [hy220]; with_reducible exact H2_) | (have H2_ := (Option.bind_some _ _).symm.trans H; with_reducible exact H2_) | with_reducible exact H | (rw [hy220]; exact H) | exact H
                    have Ny220 := Aside0.mk hy220
                    clear hy220
                    obtain rfl := Option.some.inj H
                    have p215 : 0 ≤ ((ji3) : Int) := of_decide_eq_true (by first | (with_reducible assumption) | assumption)
                    have q215 : (ji3) < (l0.length : Int) := of_decide_eq_true (by first | (with_reducible assumption) | assumption)
                    obtain ⟨ad215, e215, hx215_0⟩ := Kd.at_int HR0.out (ji3) p215 q215
                    cases e215
                    replace hx215_0 := (HB.out.cell (World.block_lt_of_cell? w _ hx215_0)).trans hx215_0
                    replace p215 := eq_true p215
                    replace q215 := eq_true q215
                    go_wp2_with (first | ((with_reducible refine gate_dst (N := 18) rfl ?_); refine Kd.R_lit (Kd.int .i64) _ 3 ?hg (N := 18) ?hd (xs := ([] : List Int)) (inner := []) (ok := fun _ => True) (okp := fun _ => True) ?hr ?hp (fun _ hk => hk) trivial (Below.refl _ _) (Nat.le_refl _) (by simp) ?_; (case hd => rfl); (case hg => rfl); (case hr => first | (go_simp; done) | (go_simp; rfl)); (case hp => exact (Reps.none _ _)); intro v217 w10 ho11 hb hg_ hnew_; clear hg_ hnew_; (first | rw [← Ny216.out] at ho11 | (simp only [Int.reduceToNat] at ho11; rw [← Ny216.out] at ho11)); have n0_ := Aside0.mk (Kd.R_lower ho11 (below_size zb)); have n1_ := Aside0.mk (below_step zb hb); clear HB; have HO218 := n0_; have HB := n1_; clear n0_ n1_; clear hb ho11; obtain ⟨i012, hi012, _, hsz12, _⟩ := info_parts info3; obtain ⟨hcut12, hA12, hC12⟩ := print_take_of (P := Try.prog) (Value.int .i64) 0 22 3 .i64 Try.underlying22 hi012 hsz12 (some ad215) c0 l0 x3_1 (of_decide_eq_true (by first | (with_reducible assumption) | assumption)) (of_decide_eq_true (by first | (with_reducible assumption) | assumption)) HC0.out; have HR219 := Aside0.mk (Kd.C_of_reads (h1 := fun _ => rfl) (hA12 _ (Kd.reads_of_C HR0.out))); have HC219 := Aside0.mk hC12; clear hA12 hC12 hi012 hsz12) | ((with_reducible refine gate_builtin (b := .append) (xs := #[.tmp 18, .tmp 21]) rfl ?_); at_builtin; refine Kd.R_append_rows (Kd.int .i64) (w0 := w) w.heap.size rfl (.tmp 18) (.tmp 21) 22 3 (.int .i64 0) 8 rfl Try.underlying22 info3 rfl (by decide) (by omega) v217 y216 (l0.take (x3_1 : Int).toNat) _ _ _ (fun _ => True) (fun _ => False) rfl rfl ?aO ?aR (fun _ _ h => h) (fun _ h => h.elim) ?aF ?aB ?aS ?aL ?_; (case aR => first | (have e_ : (l0.take (x3_1 : Int).toNat).length = x3_1.toNat := (by rw [List.length_take]; have h_ : (x3_1 : Int) ≤ (l0.length : Int) := of_decide_eq_true (by first | (with_reducible assumption) | assumption); omega); (repeat (first | (with_reducible refine Kd.C_alloc ?_ _) | (with_reducible refine Kd.C_drewN ?_ _) | (with_reducible refine Kd.C_drew ?_))); have z_ := (Kd.C_below HR219.out HB.out); rw [e_] at z_; exact z_)  | (rw [← show (l0.take (x3_1 : Int).toNat).length = x3_1.toNat from (by rw [List.length_take]; have h_ : (x3_1 : Int) ≤ (l0.length : Int) := of_decide_eq_true (by first | (with_reducible assumption) | assumption); omega)]; repeat (first | exact (Kd.C_below HR219.out HB.out) | (with_reducible refine Kd.C_alloc ?_ _) | (with_reducible refine Kd.C_drewN ?_ _) | (with_reducible refine Kd.C_drew ?_))) | (repeat (first | exact (Kd.C_below HR219.out HB.out) | (with_reducible refine Kd.C_alloc ?_ _) | (with_reducible refine Kd.C_drewN ?_ _) | (with_reducible refine Kd.C_drew ?_)))); (case aB => exact zb); (case aF => exact (fun _ _ => trivial)); (case aO => exact (zR HO218.out)); (case aS => exact (below_size zb)); (case aL => have := LMc9.out; have hlx_ := (show (l0.take (x3_1 : Int).toNat).length = x3_1.toNat from (by rw [List.length_take]; have h_ : (x3_1 : Int) ≤ (l0.length : Int) := of_decide_eq_true (by first | (with_reducible assumption) | assumption); omega)); omega); intro v221 w13 ho hb hg hat; rw [← Ny220.out] at ho; have n0_ := Aside0.mk (hb); have n1_ := Aside0.mk (ho); clear HB; clear HO218; have HB := n0_; have HO222 := n1_; clear n0_ n1_; clear ho hb hg hat))
                    go_ret
                    exact ⟨_, by first | rfl | (simp [errW_none, errW_some] <;> rfl) | (simp only [← hji3]; first | rfl | (simp [errW_none, errW_some] <;> rfl)) | (simp [*, errW_none, errW_some] <;> rfl), by (with_reducible repeat (first | apply Kd.R_alloc | apply Kd.R_drewN | apply Kd.R_drew)); exact HO222.out, zb⟩
                  · rw [if_neg c9] at H
                    exact absurd H (by simp)
                · rw [if_neg c8] at H
                  exact absurd H (by simp)
              · rw [if_neg c7] at H
                exact absurd H (by simp)
          · rw [if_neg c5] at H
            exact absurd H (by simp)
        · rw [if_neg c4] at H
          exact absurd H (by simp)
      · rw [if_neg c2] at H
        have c2b0 : decide (0 < x3_1) = false := decide_eq_false c2
        clear c2
        obtain ⟨y223, hy223⟩ : ∃ y_ : List Int, y_ = (([] : List Int)) := ⟨_, rfl⟩
        replace H : (if 0 ≤ x3_1 then (if x3_1 ≤ (l0.length : Int) then (if y223.length + (l0.take (x3_1 : Int).toNat).length < 17592186044416 then (some (y223 ++ (l0.take (x3_1 : Int).toNat))) else (none)) else (none)) else (none)) = some r := by first | (rw [hy223]; with_reducible exact H) | (have H2_ := (Option.bind_some _ _).symm.trans H; rw [hy223]; with_reducible exact H2_) | (have H2_ := (Option.bind_some _ _).symm.trans H; with_reducible exact H2_) | with_reducible exact H | (rw [hy223]; exact H) | exact H
        have Ny223 := Aside0.mk hy223
        clear hy223
        by_cases c14 : 0 ≤ x3_1
        · rw [if_pos c14] at H
          have c14b0 := eq_true c14
          have c14b1 : decide (0 ≤ x3_1) = true := decide_eq_true c14
          clear c14
          by_cases c15 : x3_1 ≤ (l0.length : Int)
          · rw [if_pos c15] at H
            have c15b0 := eq_true c15
            have c15b1 : decide (x3_1 ≤ (l0.length : Int)) = true := decide_eq_true c15
            clear c15
            by_cases c16 : y223.length + (l0.take (x3_1 : Int).toNat).length < 17592186044416
            · rw [if_pos c16] at H
              have LMc16 := Aside0.mk c16
              clear c16
              obtain ⟨y227, hy227⟩ : ∃ y_ : List Int, y_ = (y223 ++ (l0.take (x3_1 : Int).toNat)) := ⟨_, rfl⟩
              replace H : (some y227) = some r := by first | (rw [hy227]; with_reducible exact H) | (have H2_ := (Option.bind_some _ _).symm.trans H; rw [hy227]; with_reducible exact H2_) | (have H2_ := (Option.bind_some _ _).symm.trans H; with_reducible exact H2_) | with_reducible exact H | (rw [hy227]; exact H) | exact H
              have Ny227 := Aside0.mk hy227
              clear hy227
              obtain rfl := Option.some.inj H
              go_wp2_with (first | ((with_reducible refine gate_dst (N := 18) rfl ?_); refine Kd.R_lit (Kd.int .i64) _ 3 ?hg (N := 18) ?hd (xs := ([] : List Int)) (inner := []) (ok := fun _ => True) (okp := fun _ => True) ?hr ?hp (fun _ hk => hk) trivial (Below.refl _ _) (Nat.le_refl _) (by simp) ?_; (case hd => rfl); (case hg => rfl); (case hr => first | (go_simp; done) | (go_simp; rfl)); (case hp => exact (Reps.none _ _)); intro v224 w17 ho18 hb hg_ hnew_; clear hg_ hnew_; (first | rw [← Ny223.out] at ho18 | (simp only [Int.reduceToNat] at ho18; rw [← Ny223.out] at ho18)); have n0_ := Aside0.mk (Kd.R_lower ho18 (below_size zb)); have n1_ := Aside0.mk (below_step zb hb); clear HB; have HO225 := n0_; have HB := n1_; clear n0_ n1_; clear hb ho18; obtain ⟨i019, hi019, _, hsz19, _⟩ := info_parts info3; obtain ⟨hcut19, hA19, hC19⟩ := print_take_of (P := Try.prog) (Value.int .i64) 0 22 3 .i64 Try.underlying22 hi019 hsz19 A0 c0 l0 x3_1 (of_decide_eq_true (by first | (with_reducible assumption) | assumption)) (of_decide_eq_true (by first | (with_reducible assumption) | assumption)) HC0.out; have HR226 := Aside0.mk (Kd.C_of_reads (h1 := fun _ => rfl) (hA19 _ (Kd.reads_of_C HR0.out))); have HC226 := Aside0.mk hC19; clear hA19 hC19 hi019 hsz19) | ((with_reducible refine gate_builtin (b := .append) (xs := #[.tmp 18, .tmp 21]) rfl ?_); at_builtin; refine Kd.R_append_rows (Kd.int .i64) (w0 := w) w.heap.size rfl (.tmp 18) (.tmp 21) 22 3 (.int .i64 0) 8 rfl Try.underlying22 info3 rfl (by decide) (by omega) v224 y223 (l0.take (x3_1 : Int).toNat) _ _ _ (fun _ => True) (fun _ => False) rfl rfl ?aO ?aR (fun _ _ h => h) (fun _ h => h.elim) ?aF ?aB ?aS ?aL ?_; (case aR => first | (have e_ : (l0.take (x3_1 : Int).toNat).length = x3_1.toNat := (by rw [List.length_take]; have h_ : (x3_1 : Int) ≤ (l0.length : Int) := of_decide_eq_true (by first | (with_reducible assumption) | assumption); omega); (repeat (first | (with_reducible refine Kd.C_alloc ?_ _) | (with_reducible refine Kd.C_drewN ?_ _) | (with_reducible refine Kd.C_drew ?_))); have z_ := (Kd.C_below HR226.out HB.out); rw [e_] at z_; exact z_)  | (rw [← show (l0.take (x3_1 : Int).toNat).length = x3_1.toNat from (by rw [List.length_take]; have h_ : (x3_1 : Int) ≤ (l0.length : Int) := of_decide_eq_true (by first | (with_reducible assumption) | assumption); omega)]; repeat (first | exact (Kd.C_below HR226.out HB.out) | (with_reducible refine Kd.C_alloc ?_ _) | (with_reducible refine Kd.C_drewN ?_ _) | (with_reducible refine Kd.C_drew ?_))) | (repeat (first | exact (Kd.C_below HR226.out HB.out) | (with_reducible refine Kd.C_alloc ?_ _) | (with_reducible refine Kd.C_drewN ?_ _) | (with_reducible refine Kd.C_drew ?_)))); (case aB => exact zb); (case aF => exact (fun _ _ => trivial)); (case aO => exact (zR HO225.out)); (case aS => exact (below_size zb)); (case aL => have := LMc16.out; have hlx_ := (show (l0.take (x3_1 : Int).toNat).length = x3_1.toNat from (by rw [List.length_take]; have h_ : (x3_1 : Int) ≤ (l0.length : Int) := of_decide_eq_true (by first | (with_reducible assumption) | assumption); omega)); omega); intro v228 w20 ho hb hg hat; rw [← Ny227.out] at ho; have n0_ := Aside0.mk (hb); have n1_ := Aside0.mk (ho); clear HB; clear HO225; have HB := n0_; have HO229 := n1_; clear n0_ n1_; clear ho hb hg hat))
              go_ret
              exact ⟨_, by first | rfl | (simp [errW_none, errW_some] <;> rfl) | (simp [*, errW_none, errW_some] <;> rfl), by (with_reducible repeat (first | apply Kd.R_alloc | apply Kd.R_drewN | apply Kd.R_drew)); exact HO229.out, zb⟩
            · rw [if_neg c16] at H
              exact absurd H (by simp)
          · rw [if_neg c15] at H
            exact absurd H (by simp)
        · rw [if_neg c14] at H
          exact absurd H (by simp)
def spec_l1Big.f (k : Nat) (a0 : Bool) (l1 : List Int) : Option (Bool × List Int × Bool) := (spec_l1Trim.f k l1).bind fun t231 => (if (t231.length : Int) > 16 then (some (false, ([] : List Int), false)) else (if a0 = true then (some (decide (0 < t231.length), t231, true)) else (some (false, t231, true))))
set_option maxHeartbeats 8000000 in
set_option maxRecDepth 100000 in
theorem spec_l1Big.calls (k : Nat) (a0 : Bool) (A1 : Option Addr) (c1 : Nat) (l1 : List Int) (r1 : Bool) (r2 : List Int) (r3 : Bool) (w : World) (hr1 : Kd.C (Kd.int .i64) w A1 l1.length l1) (hc1 : l1.length ≤ c1) (h : spec_l1Big.f k a0 l1 = some (r1, r2, r3)) :
    Calls Try.prog 60 #[.bool a0, .slice A1 l1.length c1] w fun e w' => ∃ v1_ : Value, e = .returned (.tuple #[.agg #[.bool r1, v1_], .bool r3]) ∧ Kd.R (Kd.int .i64) 3 w' w.heap.size (fun _ => True) v1_ r2 ∧ Below w.heap.size w w' := by
  have hu27 := Try.underlying27
  have HR1 := Aside0.mk hr1
  have HC1 := Aside0.mk hc1
  clear hr1 hc1
  have HB := Aside0.mk (Below.refl w.heap.size w)
  have H : ((spec_l1Trim.f k l1).bind fun t231 => (if (t231.length : Int) > 16 then (some (false, ([] : List Int), false)) else (if a0 = true then (some (decide (0 < t231.length), t231, true)) else (some (false, t231, true))))) = some (r1, r2, r3) := h
  clear h
  replace H := Option.bind_eq_some_iff.mp H
  obtain ⟨t231, A30, H⟩ := H
  replace H : (if (t231.length : Int) > 16 then (some (false, ([] : List Int), false)) else (if a0 = true then (some (decide (0 < t231.length), t231, true)) else (some (false, t231, true)))) = some (r1, r2, r3) := H
  have A3 := Aside0.mk A30
  clear A30
  by_cases c4 : (t231.length : Int) > 16
  · rw [if_pos c4] at H
    have c4b0 : decide (16 < (t231.length : Int)) = true := decide_eq_true c4
    have c4b1 : decide (16 < t231.length) = true := decide_eq_true (by omega)
    clear c4
    simp only [Option.some.injEq, Prod.mk.injEq] at H
    obtain ⟨rfl, rfl, rfl⟩ := H
    go_enter Try.func60, Try.ntmps60
    go_wp2_with (first | ((with_reducible refine gate_dst (N := 4) rfl ?_); (try (refine gate_guard (by rfl) ?_; dsimp only)); refine box_event ?hg (N := 4) ?hd (cs := #[.bool false, .slice none 0 0]) (t := 27) ?hr ?_; (case hd => rfl); (case hg => rfl); (case hr => first | (go_simp; done) | (go_simp; rfl)); intro gb230 hg w5 hbox hb; have n0_ := Aside0.mk (below_step zb hb); have n1_ := Aside0.mk (hbox); have n2_ := Aside0.mk ((by rw [hg]; exact (below_size zb) : w.heap.size ≤ gb230)); have n3_ := Aside0.mk ((by rw [hg]; exact (below_size zb) : w.heap.size ≤ gb230)); clear HB; have HB := n0_; have BK230 := n1_; have GW230 := n2_; have GE230 := n3_; clear n0_ n1_ n2_ n3_; clear hb hbox hg) | ((with_reducible refine gate_callee (f := 84) rfl ?_); refine goesL_ (some 8) rfl rfl Try.func84 (by kernel_rfl) rfl #[.slice A1 l1.length c1] rfl za ?_; (with_reducible refine (spec_l1Trim.calls k _ _ l1 t231 _ ?side1 ?side2 A3.out).mono ?_); (case side1 => repeat (first | exact (Kd.C_below HR1.out HB.out) | (with_reducible refine Kd.C_alloc ?_ _) | (with_reducible refine Kd.C_drewN ?_ _) | (with_reducible refine Kd.C_drew ?_))); (case side2 => exact HC1.out); rintro e w6 ⟨v232, rfl, ho0, hb⟩; refine ⟨_, rfl, ?_⟩; have n0_ := Aside0.mk (Kd.R_lower ho0 (below_size zb)); have n1_ := Aside0.mk (blk_below (g := gb230) (o := .cells #[.bool false, .slice none 0 0] 27 (0, 0)) (zk BK230.out) hb); have n2_ := Aside0.mk (below_step zb hb); clear BK230; clear HB; have HO233 := n0_; have BK230 := n1_; have HB := n2_; clear n0_ n1_ n2_; (try clear hb); (try clear hb2); (try clear hk); (try clear hi); (try clear ho0); obtain ⟨Ao7, co7, eo7⟩ := Kd.R_slice HO233.out; subst eo7; have hcz8_0 : w6.cell? ⟨gb230, 0, none⟩ = some (.bool false) := (blk_cell BK230.out 0).trans rfl; have hcz8_1 : w6.cell? ⟨gb230, 1, none⟩ = some (.slice none 0 0) := (blk_cell BK230.out 1).trans rfl; have hfz8_0 := blk_frozen BK230.out 0; have hfz8_1 := blk_frozen BK230.out 1))
    refine bodyPost_ret (results_ct rfl _ _ gb230 27 #[.bool false, .slice none 0 0] (0, 0) _ rfl (by (with_reducible repeat (first | refine blk_drewN ?_ _ | refine blk_drew ?_ | refine blk_alloc ?_ _)); refine blk_put (cs := #[.bool false, .slice none 0 0]) ?_ 1 _ rfl; (with_reducible repeat (first | refine blk_drewN ?_ _ | refine blk_drew ?_ | refine blk_alloc ?_ _)); refine blk_put (cs := #[.bool false, .slice none 0 0]) ?_ 0 _ rfl; (with_reducible repeat (first | refine blk_drewN ?_ _ | refine blk_drew ?_ | refine blk_alloc ?_ _)); exact BK230.out) Try.underlying27 rfl (by kernel_rfl)) rfl ?_
    exact ⟨_, by first | rfl | (simp [errW_none, errW_some] <;> rfl) | (simp [*, errW_none, errW_some] <;> rfl), by first | exact Kd.R_nil _ _ _ _ _ | exact Kd.N_nil _ _ _ _ _ | exact Kd.V_nil _ _ _ _ _ | exact Kd.Q_nil _ _ _ _ _ | exact Kd.S_nil _ _ _ _ _, zb⟩
  · rw [if_neg c4] at H
    have c4b0 : decide (16 < (t231.length : Int)) = false := decide_eq_false c4
    have c4b1 : decide (16 < t231.length) = false := decide_eq_false (by omega)
    clear c4
    by_cases c9 : a0 = true
    · subst c9
      have H1 : (some (decide (0 < t231.length), t231, true)) = some (r1, r2, r3) := by rw [if_pos rfl] at H; exact H
      clear H
      have H := H1
      clear H1
      simp only [Option.some.injEq, Prod.mk.injEq] at H
      obtain ⟨rfl, rfl, rfl⟩ := H
      go_enter Try.func60, Try.ntmps60
      go_wp2_with (first | ((with_reducible refine gate_dst (N := 4) rfl ?_); (try (refine gate_guard (by rfl) ?_; dsimp only)); refine box_event ?hg (N := 4) ?hd (cs := #[.bool false, .slice none 0 0]) (t := 27) ?hr ?_; (case hd => rfl); (case hg => rfl); (case hr => first | (go_simp; done) | (go_simp; rfl)); intro gb230 hg w10 hbox hb; have n0_ := Aside0.mk (below_step zb hb); have n1_ := Aside0.mk (hbox); have n2_ := Aside0.mk ((by rw [hg]; exact (below_size zb) : w.heap.size ≤ gb230)); have n3_ := Aside0.mk ((by rw [hg]; exact (below_size zb) : w.heap.size ≤ gb230)); clear HB; have HB := n0_; have BK230 := n1_; have GW230 := n2_; have GE230 := n3_; clear n0_ n1_ n2_ n3_; clear hb hbox hg) | ((with_reducible refine gate_callee (f := 84) rfl ?_); refine goesL_ (some 8) rfl rfl Try.func84 (by kernel_rfl) rfl #[.slice A1 l1.length c1] rfl za ?_; (with_reducible refine (spec_l1Trim.calls k _ _ l1 t231 _ ?side1 ?side2 A3.out).mono ?_); (case side1 => repeat (first | exact (Kd.C_below HR1.out HB.out) | (with_reducible refine Kd.C_alloc ?_ _) | (with_reducible refine Kd.C_drewN ?_ _) | (with_reducible refine Kd.C_drew ?_))); (case side2 => exact HC1.out); rintro e w11 ⟨v232, rfl, ho0, hb⟩; refine ⟨_, rfl, ?_⟩; have n0_ := Aside0.mk (Kd.R_lower ho0 (below_size zb)); have n1_ := Aside0.mk (blk_below (g := gb230) (o := .cells #[.bool false, .slice none 0 0] 27 (0, 0)) (zk BK230.out) hb); have n2_ := Aside0.mk (below_step zb hb); clear BK230; clear HB; have HO233 := n0_; have BK230 := n1_; have HB := n2_; clear n0_ n1_ n2_; (try clear hb); (try clear hb2); (try clear hk); (try clear hi); (try clear ho0); obtain ⟨Ao12, co12, eo12⟩ := Kd.R_slice HO233.out; subst eo12; have hcz13_0 : w11.cell? ⟨gb230, 0, none⟩ = some (.bool false) := (blk_cell BK230.out 0).trans rfl; have hcz13_1 : w11.cell? ⟨gb230, 1, none⟩ = some (.slice none 0 0) := (blk_cell BK230.out 1).trans rfl; have hfz13_0 := blk_frozen BK230.out 0; have hfz13_1 := blk_frozen BK230.out 1))
      refine bodyPost_ret (results_ct rfl _ _ gb230 27 #[.bool (decide (0 < t231.length)), .slice Ao12 t231.length co12] (0, 0) _ rfl (by (with_reducible repeat (first | refine blk_drewN ?_ _ | refine blk_drew ?_ | refine blk_alloc ?_ _)); refine blk_put (cs := #[.bool (decide (0 < t231.length)), .slice none 0 0]) ?_ 1 _ rfl; (with_reducible repeat (first | refine blk_drewN ?_ _ | refine blk_drew ?_ | refine blk_alloc ?_ _)); refine blk_put (cs := #[.bool false, .slice none 0 0]) ?_ 0 _ rfl; (with_reducible repeat (first | refine blk_drewN ?_ _ | refine blk_drew ?_ | refine blk_alloc ?_ _)); exact BK230.out) Try.underlying27 rfl (by kernel_rfl)) rfl ?_
      exact ⟨_, by first | rfl | (simp [errW_none, errW_some] <;> rfl) | (simp [*, errW_none, errW_some] <;> rfl), by (with_reducible repeat (first | apply Kd.R_alloc | apply Kd.R_drewN | apply Kd.R_drew)); exact Kd.R_mono (Kd.R_far (p := ⟨gb230, 1, none⟩) (Kd.R_far (p := ⟨gb230, 0, none⟩) (Kd.R_types HO233.out BK230.out (by decide)) (fun _ hk => hk.2) (.bool (decide (0 < t231.length)))) (fun _ hk => hk.2) (.slice Ao12 t231.length co12)) (fun _ hk => trivial), zb⟩
    · replace c9 := Bool.eq_false_iff.mpr c9
      subst c9
      have H1 : (some (false, t231, true)) = some (r1, r2, r3) := by rw [if_neg (show ¬ (false = true) by decide)] at H; exact H
      clear H
      have H := H1
      clear H1
      simp only [Option.some.injEq, Prod.mk.injEq] at H
      obtain ⟨rfl, rfl, rfl⟩ := H
      go_enter Try.func60, Try.ntmps60
      go_wp2_with (first | ((with_reducible refine gate_dst (N := 4) rfl ?_); (try (refine gate_guard (by rfl) ?_; dsimp only)); refine box_event ?hg (N := 4) ?hd (cs := #[.bool false, .slice none 0 0]) (t := 27) ?hr ?_; (case hd => rfl); (case hg => rfl); (case hr => first | (go_simp; done) | (go_simp; rfl)); intro gb230 hg w14 hbox hb; have n0_ := Aside0.mk (below_step zb hb); have n1_ := Aside0.mk (hbox); have n2_ := Aside0.mk ((by rw [hg]; exact (below_size zb) : w.heap.size ≤ gb230)); have n3_ := Aside0.mk ((by rw [hg]; exact (below_size zb) : w.heap.size ≤ gb230)); clear HB; have HB := n0_; have BK230 := n1_; have GW230 := n2_; have GE230 := n3_; clear n0_ n1_ n2_ n3_; clear hb hbox hg) | ((with_reducible refine gate_callee (f := 84) rfl ?_); refine goesL_ (some 8) rfl rfl Try.func84 (by kernel_rfl) rfl #[.slice A1 l1.length c1] rfl za ?_; (with_reducible refine (spec_l1Trim.calls k _ _ l1 t231 _ ?side1 ?side2 A3.out).mono ?_); (case side1 => repeat (first | exact (Kd.C_below HR1.out HB.out) | (with_reducible refine Kd.C_alloc ?_ _) | (with_reducible refine Kd.C_drewN ?_ _) | (with_reducible refine Kd.C_drew ?_))); (case side2 => exact HC1.out); rintro e w15 ⟨v232, rfl, ho0, hb⟩; refine ⟨_, rfl, ?_⟩; have n0_ := Aside0.mk (Kd.R_lower ho0 (below_size zb)); have n1_ := Aside0.mk (blk_below (g := gb230) (o := .cells #[.bool false, .slice none 0 0] 27 (0, 0)) (zk BK230.out) hb); have n2_ := Aside0.mk (below_step zb hb); clear BK230; clear HB; have HO233 := n0_; have BK230 := n1_; have HB := n2_; clear n0_ n1_ n2_; (try clear hb); (try clear hb2); (try clear hk); (try clear hi); (try clear ho0); obtain ⟨Ao16, co16, eo16⟩ := Kd.R_slice HO233.out; subst eo16; have hcz17_0 : w15.cell? ⟨gb230, 0, none⟩ = some (.bool false) := (blk_cell BK230.out 0).trans rfl; have hcz17_1 : w15.cell? ⟨gb230, 1, none⟩ = some (.slice none 0 0) := (blk_cell BK230.out 1).trans rfl; have hfz17_0 := blk_frozen BK230.out 0; have hfz17_1 := blk_frozen BK230.out 1))
      refine bodyPost_ret (results_ct rfl _ _ gb230 27 #[.bool false, .slice Ao16 t231.length co16] (0, 0) _ rfl (by (with_reducible repeat (first | refine blk_drewN ?_ _ | refine blk_drew ?_ | refine blk_alloc ?_ _)); refine blk_put (cs := #[.bool false, .slice none 0 0]) ?_ 1 _ rfl; (with_reducible repeat (first | refine blk_drewN ?_ _ | refine blk_drew ?_ | refine blk_alloc ?_ _)); refine blk_put (cs := #[.bool false, .slice none 0 0]) ?_ 0 _ rfl; (with_reducible repeat (first | refine blk_drewN ?_ _ | refine blk_drew ?_ | refine blk_alloc ?_ _)); exact BK230.out) Try.underlying27 rfl (by kernel_rfl)) rfl ?_
      exact ⟨_, by first | rfl | (simp [errW_none, errW_some] <;> rfl) | (simp [*, errW_none, errW_some] <;> rfl), by (with_reducible repeat (first | apply Kd.R_alloc | apply Kd.R_drewN | apply Kd.R_drew)); exact Kd.R_mono (Kd.R_far (p := ⟨gb230, 1, none⟩) (Kd.R_far (p := ⟨gb230, 0, none⟩) (Kd.R_types HO233.out BK230.out (by decide)) (fun _ hk => hk.2) (.bool false)) (fun _ hk => hk.2) (.slice Ao16 t231.length co16)) (fun _ hk => trivial), zb⟩
def spec_l1CmpAbs.l0 : Nat → List Int → List Int → Int → Option (Int)
  | 0, _, _, _ => none
  | k + 1, x0, x1, x5 => if x5 ≥ 0 then (if 0 ≤ x5 then (if x5 < (x0.length : Int) then (if x5 < (x1.length : Int) then (if (rd x0 x5) < (rd x1 x5) then (some (-1)) else (if (rd x0 x5) > (rd x1 x5) then (some 1) else (spec_l1CmpAbs.l0 k x0 x1 (wrap64 (x5 - 1))))) else (none)) else (none)) else (none)) else (some 0)
def spec_l1CmpAbs.f (k : Nat) (l0 : List Int) (l1 : List Int) : Option (Int) := if (l0.length : Int) = (l1.length : Int) then (spec_l1CmpAbs.l0 k l0 l1 (wrap64 ((l0.length : Int) - 1))) else (if (l0.length : Int) < (l1.length : Int) then (some (-1)) else (some 1))
def spec_l1Cmp.f (k : Nat) (a0_0 : Bool) (l0_1 : List Int) (a1_0 : Bool) (l1_1 : List Int) : Option (Int) := if (a0_0 != a1_0) = true then (if a0_0 = true then (some (-1)) else (some 1)) else (if a0_0 = true then ((spec_l1CmpAbs.f k l1_1 l0_1).bind fun t487 => (some t487)) else ((spec_l1CmpAbs.f k l0_1 l1_1).bind fun t488 => (some t488)))
def spec_l1Limb.f (l0 : List Int) (a1 : Int) : Option (Int) := if a1 < (l0.length : Int) then (if 0 ≤ a1 then (some (rd l0 a1)) else (none)) else (some 0)
end Go.Proofs.Ytdemeoncjcbojaa.Pr
end
section
namespace Go.Proofs.Ytdemeoncjcbojaa.Pr
open Go.RowKit Go.Proofs.YtdemeoncjcbojaaW.PrintWords Go.Proofs.YtdemeoncjcbojaaW.PrintLast Go.Proofs.Ytdemeoncjcbojaa.Ext Go.Proofs.YtdemeoncjcbojaaW.PrintMore
attribute [local go_sem] max2_int min2_int max_two min_two max_three min_three max_four min_four
set_option linter.unusedVariables false
set_option linter.unusedSimpArgs false
def spec_BigOf.l0 : Nat → Int → List Int → Int → Option (Bool × List Int)
  | 0, _, _, _ => none
  | k + 1, x0, x3, x4 => if x4 = 0 then (some (decide (x0 < 0), x3)) else (if (Int.tmod x4 10000) < 0 then (if x3.length < 17592186044416 then (spec_BigOf.l0 k x0 (x3 ++ [wrap64 (-(Int.tmod x4 10000))]) (wrap64 (Int.tdiv x4 10000))) else (none)) else (if x3.length < 17592186044416 then (spec_BigOf.l0 k x0 (x3 ++ [Int.tmod x4 10000]) (wrap64 (Int.tdiv x4 10000))) else (none)))
def spec_BigOf.f (k : Nat) (a0 : Int) : Option (Bool × List Int) := spec_BigOf.l0 k a0 (([] : List Int)) a0
mutual
def spec_l1TenAbs.l0 : Nat → Int → List Int → Option (List Int)
  | 0, _, _ => none
  | k + 1, x0, x3 => if x0 ≥ 4 then (if x3.length < 17592186044416 then (spec_l1TenAbs.l0 k (wrap64 (x0 - 4)) (x3 ++ [0])) else (none)) else (spec_l1TenAbs.l1 k x0 x3 1)
def spec_l1TenAbs.l1 : Nat → Int → List Int → Int → Option (List Int)
  | 0, _, _, _ => none
  | k + 1, x0, x3, x4 => if x0 > 0 then (spec_l1TenAbs.l1 k (wrap64 (x0 - 1)) x3 (wrap64 (x4 * 10))) else (if x3.length < 17592186044416 then (some (x3 ++ [x4])) else (none))
end
def spec_l1TenAbs.f (k : Nat) (a0 : Int) : Option (List Int) := spec_l1TenAbs.l0 k a0 (([] : List Int))
set_option maxHeartbeats 8000000 in
set_option maxRecDepth 100000 in
theorem spec_l1TenAbs.calls (k : Nat) (a0 : Int) (r : List Int) (w : World) (h : spec_l1TenAbs.f k a0 = some r) :
    Calls Try.prog 61 #[.int .i64 a0] w fun e w' => ∃ v0_ : Value, e = .returned (v0_) ∧ Kd.R (Kd.int .i64) 3 w' w.heap.size (fun _ => True) v0_ r ∧ Below w.heap.size w w' := by
  have HB := Aside0.mk (Below.refl w.heap.size w)
  have H : (spec_l1TenAbs.l0 k a0 (([] : List Int))) = some r := h
  clear h
  obtain ⟨y234, hy234⟩ : ∃ y_ : List Int, y_ = (([] : List Int)) := ⟨_, rfl⟩
  replace H : (spec_l1TenAbs.l0 k a0 y234) = some r := by first | (rw [hy234]; with_reducible exact H) | (have H2_ := (Option.bind_some _ _).symm.trans H; rw [hy234]; with_reducible exact H2_) | (have H2_ := (Option.bind_some _ _).symm.trans H; with_reducible exact H2_) | with_reducible exact H | (rw [hy234]; exact H) | exact H
  have Ny234 := Aside0.mk hy234
  clear hy234
  have H' := Aside0.mk H
  clear H
  go_enter Try.func61, Try.ntmps61
  go_wp2_with (first | ((with_reducible refine gate_dst (N := 5) rfl ?_); refine Kd.R_lit (Kd.int .i64) _ 3 ?hg (N := 5) ?hd (xs := ([] : List Int)) (inner := []) (ok := fun _ => True) (okp := fun _ => True) ?hr ?hp (fun _ hk => hk) trivial (Below.refl _ _) (Nat.le_refl _) (by simp) ?_; (case hd => rfl); (case hg => rfl); (case hr => first | (go_simp; done) | (go_simp; rfl)); (case hp => exact (Reps.none _ _)); intro v235 w2 ho3 hb hg_ hnew_; clear hg_ hnew_; (first | rw [← Ny234.out] at ho3 | (simp only [Int.reduceToNat] at ho3; rw [← Ny234.out] at ho3)); have n0_ := Aside0.mk (Kd.R_lower ho3 (below_size zb)); have n1_ := Aside0.mk (below_step zb hb); clear HB; have HO236 := n0_; have HB := n1_; clear n0_ n1_; clear hb ho3))
  go_loopg [0, 3] k (fun kq v0 v3 w' => ∃ (x0_1 : Int) (x3_1 : List Int), v0 = .int .i64 x0_1 ∧ Aside0 (spec_l1TenAbs.l0 kq x0_1 x3_1 = some r) ∧ Aside0 (kq ≤ k) ∧ Aside0 (Kd.R (Kd.int .i64) 3 w' w.heap.size (fun _ => True) v3 x3_1) ∧ Aside0 (Below w.heap.size w w'))
  case atStart => exact ⟨(a0), (y234), (by first | rfl | (simp; done) | (simp [*]; done)), H', ⟨Nat.le_refl _⟩, ⟨by (with_reducible repeat (first | apply Kd.R_alloc | apply Kd.R_drewN | apply Kd.R_drew)); exact HO236.out⟩, ⟨zb⟩⟩
  case round =>
    clear H'
    try clear p2
    obtain ⟨x0_1, x3_1, rfl, HA, HK1, HO_3, HB⟩ := hrel
    cases gk with
    | zero => exact absurd HA.out (by simp [spec_l1TenAbs.l0])
    | succ k1 =>
      have H := HA.out
      clear HA
      simp only [spec_l1TenAbs.l0] at H
      by_cases c4 : x0_1 ≥ 4
      · rw [if_pos c4] at H
        have c4b0 : decide (4 ≤ x0_1) = true := decide_eq_true c4
        clear c4
        by_cases c5 : x3_1.length < 17592186044416
        · rw [if_pos c5] at H
          have LMc5 := Aside0.mk c5
          clear c5
          obtain ⟨y237, hy237⟩ : ∃ y_ : List Int, y_ = (x3_1 ++ [0]) := ⟨_, rfl⟩
          replace H : (spec_l1TenAbs.l0 k1 (wrap64 (x0_1 - 4)) y237) = some r := by first | (rw [hy237]; with_reducible exact H) | (have H2_ := (Option.bind_some _ _).symm.trans H; rw [hy237]; with_reducible exact H2_) | (have H2_ := (Option.bind_some _ _).symm.trans H; with_reducible exact H2_) | with_reducible exact H | (rw [hy237]; exact H) | exact H
          have Ny237 := Aside0.mk hy237
          clear hy237
          have H' := Aside0.mk H
          clear H
          go_wp2_with (first | ((with_reducible refine gate_builtin (b := .append) (xs := #[.tmp 8, .tmp 9]) rfl ?_); at_builtin; refine Kd.R_append (Kd.int .i64) (w0 := w) w.heap.size rfl (.tmp 8) (.tmp 9) 22 3 (.int .i64 0) 8 rfl Try.underlying22 info3 rfl (by decide) (by omega) u3 x3_1 0 [.int .i64 0] (fun _ => True) (fun _ => False) rfl rfl ?aP (fun _ hk => hk.elim) ?aF ?aO ?aB ?aS ?aL ?_; (case aP => exact rfl); (case aB => exact zb); (case aF => exact (fun _ _ => trivial)); (case aO => exact (zR HO_3.out)); (case aS => exact (below_size zb)); (case aL => have := LMc5.out; omega); intro v238 w6 ho hb hg hat; rw [← Ny237.out] at ho; have n0_ := Aside0.mk (hb); have n1_ := Aside0.mk (ho); clear HB; clear HO_3; have HB := n0_; have HO239 := n1_; clear n0_ n1_; clear ho hb hg hat))
          go_roundg k1
          case measure => have := HK1.out; omega
          case rel => exact ⟨(wrap64 (x0_1 - 4)), (y237), (by first | rfl | (simp; done) | (simp [*]; done)), H', ⟨by have := HK1.out; omega⟩, ⟨by (with_reducible repeat (first | apply Kd.R_alloc | apply Kd.R_drewN | apply Kd.R_drew)); exact HO239.out⟩, ⟨zb⟩⟩
        · rw [if_neg c5] at H
          exact absurd H (by simp)
      · rw [if_neg c4] at H
        have c4b0 : decide (4 ≤ x0_1) = false := decide_eq_false c4
        clear c4
        have H' := Aside0.mk H
        clear H
        go_wp2
        go_loopg [0, 4] k1 (fun kq v0 v4 w' => ∃ (x0_2 : Int) (x4_2 : Int), v0 = .int .i64 x0_2 ∧ v4 = .int .i64 x4_2 ∧ Aside0 (spec_l1TenAbs.l1 kq x0_2 x3_1 x4_2 = some r) ∧ Aside0 (kq ≤ k1) ∧ Aside0 (Kd.R (Kd.int .i64) 3 w' w.heap.size (fun _ => True) u3 x3_1) ∧ Aside0 (Below w.heap.size w w'))
        case atStart => exact ⟨(x0_1), (1), (by first | rfl | (simp; done) | (simp [*]; done)), (by first | rfl | (simp; done) | (simp [*]; done)), H', ⟨Nat.le_refl _⟩, ⟨by (with_reducible repeat (first | apply Kd.R_alloc | apply Kd.R_drewN | apply Kd.R_drew)); exact HO_3.out⟩, ⟨zb⟩⟩
        case round =>
          clear H'
          try clear p2
          try clear c4
          try clear c4b0
          try clear c5
          try clear c6
          try clear p6
          try clear p2
          obtain ⟨x0_2, x4_2, rfl, rfl, HA, HK2, HO_3, HB⟩ := hrel
          cases gk with
          | zero => exact absurd HA.out (by simp [spec_l1TenAbs.l1])
          | succ k2 =>
            have H := HA.out
            clear HA
            simp only [spec_l1TenAbs.l1] at H
            by_cases c7 : x0_2 > 0
            · rw [if_pos c7] at H
              have c7b0 : decide (0 < x0_2) = true := decide_eq_true c7
              clear c7
              have H' := Aside0.mk H
              clear H
              go_wp2
              go_roundg k2
              case measure => have := HK1.out; have := HK2.out; omega
              case rel => exact ⟨(wrap64 (x0_2 - 1)), (wrap64 (x4_2 * 10)), (by first | rfl | (simp; done) | (simp [*]; done)), (by first | rfl | (simp; done) | (simp [*]; done)), H', ⟨by have := HK1.out; have := HK2.out; omega⟩, ⟨by (with_reducible repeat (first | apply Kd.R_alloc | apply Kd.R_drewN | apply Kd.R_drew)); exact HO_3.out⟩, ⟨zb⟩⟩
            · rw [if_neg c7] at H
              have c7b0 : decide (0 < x0_2) = false := decide_eq_false c7
              clear c7
              by_cases c8 : x3_1.length < 17592186044416
              · rw [if_pos c8] at H
                have LMc8 := Aside0.mk c8
                clear c8
                obtain ⟨y240, hy240⟩ : ∃ y_ : List Int, y_ = (x3_1 ++ [x4_2]) := ⟨_, rfl⟩
                replace H : (some y240) = some r := by first | (rw [hy240]; with_reducible exact H) | (have H2_ := (Option.bind_some _ _).symm.trans H; rw [hy240]; with_reducible exact H2_) | (have H2_ := (Option.bind_some _ _).symm.trans H; with_reducible exact H2_) | with_reducible exact H | (rw [hy240]; exact H) | exact H
                have Ny240 := Aside0.mk hy240
                clear hy240
                obtain rfl := Option.some.inj H
                go_wp2_with (first | ((with_reducible refine gate_builtin (b := .append) (xs := #[.tmp 19, .tmp 21]) rfl ?_); at_builtin; refine Kd.R_append (Kd.int .i64) (w0 := w) w.heap.size rfl (.tmp 19) (.tmp 21) 22 3 (.int .i64 0) 8 rfl Try.underlying22 info3 rfl (by decide) (by omega) u3 x3_1 x4_2 [.int .i64 x4_2] (fun _ => True) (fun _ => False) rfl rfl ?aP (fun _ hk => hk.elim) ?aF ?aO ?aB ?aS ?aL ?_; (case aP => exact rfl); (case aB => exact zb); (case aF => exact (fun _ _ => trivial)); (case aO => exact (zR HO_3.out)); (case aS => exact (below_size zb)); (case aL => have := LMc8.out; omega); intro v241 w9 ho hb hg hat; rw [← Ny240.out] at ho; have n0_ := Aside0.mk (hb); have n1_ := Aside0.mk (ho); clear HB; clear HO_3; have HB := n0_; have HO242 := n1_; clear n0_ n1_; clear ho hb hg hat))
                go_ret
                exact ⟨_, by first | rfl | (simp [errW_none, errW_some] <;> rfl) | (simp [*, errW_none, errW_some] <;> rfl), by (with_reducible repeat (first | apply Kd.R_alloc | apply Kd.R_drewN | apply Kd.R_drew)); exact HO242.out, zb⟩
              · rw [if_neg c8] at H
                exact absurd H (by simp)
def spec_BigTen.f (k : Nat) (a0 : Int) : Option (Bool × List Int × Bool) := (spec_l1In.f a0 0 63).bind fun t244 => (if t244 = true then ((spec_l1TenAbs.f k a0).bind fun t245 => ((spec_l1Big.f k false t245).bind fun bt248 => (some (bt248.1, bt248.2.1, bt248.2.2)))) else (some (false, ([] : List Int), false)))
set_option maxHeartbeats 8000000 in
set_option maxRecDepth 100000 in
theorem spec_BigTen.calls (k : Nat) (a0 : Int) (r1 : Bool) (r2 : List Int) (r3 : Bool) (w : World) (h : spec_BigTen.f k a0 = some (r1, r2, r3)) :
    Calls Try.prog 28 #[.int .i64 a0] w fun e w' => ∃ v1_ : Value, e = .returned (.tuple #[.agg #[.bool r1, v1_], .bool r3]) ∧ Kd.R (Kd.int .i64) 3 w' w.heap.size (fun _ => True) v1_ r2 ∧ Below w.heap.size w w' := by
  have hu27 := Try.underlying27
  have HB := Aside0.mk (Below.refl w.heap.size w)
  have H : ((spec_l1In.f a0 0 63).bind fun t244 => (if t244 = true then ((spec_l1TenAbs.f k a0).bind fun t245 => ((spec_l1Big.f k false t245).bind fun bt248 => (some (bt248.1, bt248.2.1, bt248.2.2)))) else (some (false, ([] : List Int), false)))) = some (r1, r2, r3) := h
  clear h
  replace H := Option.bind_eq_some_iff.mp H
  obtain ⟨t244, A20, H⟩ := H
  replace H : (if t244 = true then ((spec_l1TenAbs.f k a0).bind fun t245 => ((spec_l1Big.f k false t245).bind fun bt248 => (some (bt248.1, bt248.2.1, bt248.2.2)))) else (some (false, ([] : List Int), false))) = some (r1, r2, r3) := H
  have A2 := Aside0.mk A20
  clear A20
  by_cases c3 : t244 = true
  · subst c3
    have H1 : ((spec_l1TenAbs.f k a0).bind fun t245 => ((spec_l1Big.f k false t245).bind fun bt248 => (some (bt248.1, bt248.2.1, bt248.2.2)))) = some (r1, r2, r3) := by rw [if_pos rfl] at H; exact H
    clear H
    have H := H1
    clear H1
    replace H := Option.bind_eq_some_iff.mp H
    obtain ⟨t245, A40, H⟩ := H
    replace H : ((spec_l1Big.f k false t245).bind fun bt248 => (some (bt248.1, bt248.2.1, bt248.2.2))) = some (r1, r2, r3) := H
    have A4 := Aside0.mk A40
    clear A40
    replace H := Option.bind_eq_some_iff.mp H
    obtain ⟨⟨t248, t249, t252⟩, A50, H⟩ := H
    replace H : (some (t248, t249, t252)) = some (r1, r2, r3) := H
    have A5 := Aside0.mk A50
    clear A50
    simp only [Option.some.injEq, Prod.mk.injEq] at H
    obtain ⟨rfl, rfl, rfl⟩ := H
    go_enter Try.func28, Try.ntmps28
    go_wp2_with (first | ((with_reducible refine gate_dst (N := 2) rfl ?_); refine box_event ?hg (N := 2) ?hd (cs := #[.bool false, .slice none 0 0]) (t := 27) ?hr ?_; (case hd => rfl); (case hg => rfl); (case hr => first | (go_simp; done) | (go_simp; rfl)); intro gb243 hg w6 hbox hb; have n0_ := Aside0.mk (below_step zb hb); have n1_ := Aside0.mk (hbox); have n2_ := Aside0.mk ((by rw [hg]; exact (below_size zb) : w.heap.size ≤ gb243)); have n3_ := Aside0.mk ((by rw [hg]; exact (below_size zb) : w.heap.size ≤ gb243)); clear HB; have HB := n0_; have BK243 := n1_; have GW243 := n2_; have GE243 := n3_; clear n0_ n1_ n2_ n3_; clear hb hbox hg) | ((with_reducible refine gate_callee (f := 59) rfl ?_); refine goesL_ (some 5) rfl rfl Try.func59 (by kernel_rfl) rfl #[.int .i64 a0, .int .i64 0, .int .i64 63] rfl za ?_; (with_reducible refine (spec_l1In.calls a0 0 63 true _ A2.out).mono ?_); rintro e w' ⟨rfl, ⟨nd, rfl⟩⟩; refine ⟨_, rfl, ?_⟩; (try (rw [drewN_self w6]; generalize hq_ : World.drewN w6 _ = w6; have n0_ : Aside0 (w6.heap[gb243]? = some (.cells #[.bool false, .slice none 0 0] 27 (0, 0))) := ⟨by rw [← hq_]; exact (zk BK243.out)⟩; have n1_ : Aside0 (Below w.heap.size w w6) := ⟨by rw [← hq_]; exact zb⟩; clear BK243 HB hq_; have BK243 := n0_; have HB := n1_; clear n0_ n1_))) | ((with_reducible refine gate_callee (f := 61) rfl ?_); refine goesL_ (some 9) rfl rfl Try.func61 (by kernel_rfl) rfl #[.int .i64 a0] rfl za ?_; (with_reducible refine (spec_l1TenAbs.calls k a0 t245 _ A4.out).mono ?_); rintro e w7 ⟨v246, rfl, ho0, hb⟩; refine ⟨_, rfl, ?_⟩; have n0_ := Aside0.mk (Kd.R_lower ho0 (below_size zb)); have n1_ := Aside0.mk (blk_below (g := gb243) (o := .cells #[.bool false, .slice none 0 0] 27 (0, 0)) (zk BK243.out) hb); have n2_ := Aside0.mk (below_step zb hb); clear BK243; clear HB; have HO247 := n0_; have BK243 := n1_; have HB := n2_; clear n0_ n1_ n2_; (try clear hb); (try clear hb2); (try clear hk); (try clear hi); (try clear ho0); obtain ⟨Ao8, co8, eo8⟩ := Kd.R_slice HO247.out; subst eo8) | ((with_reducible refine gate_callee (f := 60) rfl ?_); refine goesL_ (some 10) rfl rfl Try.func60 (by kernel_rfl) rfl #[.bool false, .slice Ao8 t245.length co8] rfl za ?_; (with_reducible refine (spec_l1Big.calls k false _ _ t245 t248 t249 t252 _ ?side1 ?side2 A5.out).mono ?_); (case side1 => repeat (first | exact (Kd.R_reads' HO247.out).2.2 | (with_reducible refine Kd.C_alloc ?_ _) | (with_reducible refine Kd.C_drewN ?_ _) | (with_reducible refine Kd.C_drew ?_))); (case side2 => exact (Kd.R_reads' HO247.out).2.1); rintro e w9 ⟨v250, rfl, ho0, hb⟩; refine ⟨_, rfl, ?_⟩; have n0_ := Aside0.mk (Kd.R_elder' (zR HO247.out) (Kd.R_base ho0) hb); have n1_ := Aside0.mk (Kd.R_lower (Kd.R_new' ho0 (Kd.R_lt (zR HO247.out))) (below_size zb)); have n2_ := Aside0.mk (blk_below (g := gb243) (o := .cells #[.bool false, .slice none 0 0] 27 (0, 0)) (zk BK243.out) hb); have n3_ := Aside0.mk (below_step zb hb); clear HO247; clear BK243; clear HB; have HO247 := n0_; have HO251 := n1_; have BK243 := n2_; have HB := n3_; clear n0_ n1_ n2_ n3_; (try clear hb); (try clear hb2); (try clear hk); (try clear hi); (try clear ho0); have hcz10_0 : w9.cell? ⟨gb243, 0, none⟩ = some (.bool false) := (blk_cell BK243.out 0).trans rfl; have hcz10_1 : w9.cell? ⟨gb243, 1, none⟩ = some (.slice none 0 0) := (blk_cell BK243.out 1).trans rfl; have hfz10_0 := blk_frozen BK243.out 0; have hfz10_1 := blk_frozen BK243.out 1; obtain ⟨Ao11, co11, eo11⟩ := Kd.R_slice HO251.out; subst eo11))
    refine bodyPost_ret (results_ct rfl _ _ gb243 27 #[.bool t248, .slice Ao11 t249.length co11] (0, 0) _ rfl (by (with_reducible repeat (first | refine blk_drewN ?_ _ | refine blk_drew ?_ | refine blk_alloc ?_ _)); refine blk_put (cs := #[.bool t248, .slice none 0 0]) ?_ 1 _ rfl; (with_reducible repeat (first | refine blk_drewN ?_ _ | refine blk_drew ?_ | refine blk_alloc ?_ _)); refine blk_put (cs := #[.bool false, .slice none 0 0]) ?_ 0 _ rfl; (with_reducible repeat (first | refine blk_drewN ?_ _ | refine blk_drew ?_ | refine blk_alloc ?_ _)); exact BK243.out) Try.underlying27 rfl (by kernel_rfl)) rfl ?_
    exact ⟨_, by first | rfl | (simp [errW_none, errW_some] <;> rfl) | (simp [*, errW_none, errW_some] <;> rfl), by (with_reducible repeat (first | apply Kd.R_alloc | apply Kd.R_drewN | apply Kd.R_drew)); exact Kd.R_mono (Kd.R_far (p := ⟨gb243, 1, none⟩) (Kd.R_far (p := ⟨gb243, 0, none⟩) (Kd.R_types HO251.out BK243.out (by decide)) (fun _ hk => hk.2) (.bool t248)) (fun _ hk => hk.2) (.slice Ao11 t249.length co11)) (fun _ hk => trivial), zb⟩
  · replace c3 := Bool.eq_false_iff.mpr c3
    subst c3
    have H1 : (some (false, ([] : List Int), false)) = some (r1, r2, r3) := by rw [if_neg (show ¬ (false = true) by decide)] at H; exact H
    clear H
    have H := H1
    clear H1
    simp only [Option.some.injEq, Prod.mk.injEq] at H
    obtain ⟨rfl, rfl, rfl⟩ := H
    go_enter Try.func28, Try.ntmps28
    go_wp2_with (first | ((with_reducible refine gate_dst (N := 2) rfl ?_); refine box_event ?hg (N := 2) ?hd (cs := #[.bool false, .slice none 0 0]) (t := 27) ?hr ?_; (case hd => rfl); (case hg => rfl); (case hr => first | (go_simp; done) | (go_simp; rfl)); intro gb243 hg w12 hbox hb; have n0_ := Aside0.mk (below_step zb hb); have n1_ := Aside0.mk (hbox); have n2_ := Aside0.mk ((by rw [hg]; exact (below_size zb) : w.heap.size ≤ gb243)); have n3_ := Aside0.mk ((by rw [hg]; exact (below_size zb) : w.heap.size ≤ gb243)); clear HB; have HB := n0_; have BK243 := n1_; have GW243 := n2_; have GE243 := n3_; clear n0_ n1_ n2_ n3_; clear hb hbox hg) | ((with_reducible refine gate_callee (f := 59) rfl ?_); refine goesL_ (some 5) rfl rfl Try.func59 (by kernel_rfl) rfl #[.int .i64 a0, .int .i64 0, .int .i64 63] rfl za ?_; (with_reducible refine (spec_l1In.calls a0 0 63 false _ A2.out).mono ?_); rintro e w' ⟨rfl, ⟨nd, rfl⟩⟩; refine ⟨_, rfl, ?_⟩; (try (rw [drewN_self w12]; generalize hq_ : World.drewN w12 _ = w12; have n0_ : Aside0 (w12.heap[gb243]? = some (.cells #[.bool false, .slice none 0 0] 27 (0, 0))) := ⟨by rw [← hq_]; exact (zk BK243.out)⟩; have n1_ : Aside0 (Below w.heap.size w w12) := ⟨by rw [← hq_]; exact zb⟩; clear BK243 HB hq_; have BK243 := n0_; have HB := n1_; clear n0_ n1_)); have hcz13_0 : w12.cell? ⟨gb243, 0, none⟩ = some (.bool false) := (blk_cell BK243.out 0).trans rfl; have hcz13_1 : w12.cell? ⟨gb243, 1, none⟩ = some (.slice none 0 0) := (blk_cell BK243.out 1).trans rfl; have hfz13_0 := blk_frozen BK243.out 0; have hfz13_1 := blk_frozen BK243.out 1))
    refine bodyPost_ret (results_ct rfl _ _ gb243 27 #[.bool false, .slice none 0 0] (0, 0) _ rfl (by (with_reducible repeat (first | refine blk_drewN ?_ _ | refine blk_drew ?_ | refine blk_alloc ?_ _)); refine blk_put (cs := #[.bool false, .slice none 0 0]) ?_ 1 _ rfl; (with_reducible repeat (first | refine blk_drewN ?_ _ | refine blk_drew ?_ | refine blk_alloc ?_ _)); refine blk_put (cs := #[.bool false, .slice none 0 0]) ?_ 0 _ rfl; (with_reducible repeat (first | refine blk_drewN ?_ _ | refine blk_drew ?_ | refine blk_alloc ?_ _)); exact BK243.out) Try.underlying27 rfl (by kernel_rfl)) rfl ?_
    exact ⟨_, by first | rfl | (simp [errW_none, errW_some] <;> rfl) | (simp [*, errW_none, errW_some] <;> rfl), by first | exact Kd.R_nil _ _ _ _ _ | exact Kd.N_nil _ _ _ _ _ | exact Kd.V_nil _ _ _ _ _ | exact Kd.Q_nil _ _ _ _ _ | exact Kd.S_nil _ _ _ _ _, zb⟩
end Go.Proofs.Ytdemeoncjcbojaa.Pr
end
section
namespace Go.Proofs.Ytdemeoncjcbojaa.Pr
open Go.RowKit Go.Proofs.YtdemeoncjcbojaaW.PrintWords Go.Proofs.YtdemeoncjcbojaaW.PrintLast Go.Proofs.Ytdemeoncjcbojaa.Ext Go.Proofs.YtdemeoncjcbojaaW.PrintMore
attribute [local go_sem] max2_int min2_int max_two min_two max_three min_three max_four min_four
set_option linter.unusedVariables false
set_option linter.unusedSimpArgs false
def impl_limbs_trim.l0 : Nat → List Int → Option (List Int)
  | 0, _ => none
  | k + 1, x0 => if (x0.length : Int) > 0 then (if 0 ≤ (wrap64 ((x0.length : Int) - 1)) then (if (wrap64 ((x0.length : Int) - 1)) < (x0.length : Int) then (if (rd x0 (wrap64 ((x0.length : Int) - 1))) = 0 then (if (wrap64 ((x0.length : Int) - 1)) ≤ (x0.length : Int) then (impl_limbs_trim.l0 k (x0.take ((wrap64 ((x0.length : Int) - 1)) : Int).toNat)) else (none)) else (some x0)) else (none)) else (none)) else (some x0)
def impl_limbs_trim.f (k : Nat) (l0 : List Int) : Option (List Int) := impl_limbs_trim.l0 k l0
set_option maxHeartbeats 8000000 in
set_option maxRecDepth 100000 in
theorem impl_limbs_trim.calls (k : Nat) (P0_ : Nat → Prop) (A0 : Option Addr) (c0 : Nat) (l0 : List Int) (r : List Int) (w : World) (hs0 : Kd.V (Kd.int .i64) 3 w w.heap.size (fun k_ => P0_ k_) (.slice A0 l0.length c0) l0) (h : impl_limbs_trim.f k l0 = some r) :
    Calls Try.prog 82 #[.slice A0 l0.length c0] w fun e w' => ∃ v0_ : Value, e = .returned (v0_) ∧ Kd.V (Kd.int .i64) 3 w' w.heap.size (fun k_ => (P0_ k_ ∨ w.heap.size ≤ k_)) v0_ r ∧ Below w.heap.size w w' := by
  have HO0 := Aside0.mk (show Kd.V (Kd.int .i64) 3 w w.heap.size (fun k_ => (P0_ k_ ∨ w.heap.size ≤ k_)) (.slice A0 l0.length c0) l0 from Kd.V_mono hs0 (fun k_ hk => .inl hk))
  have HB := Aside0.mk (Below.refl w.heap.size w)
  have H : (impl_limbs_trim.l0 k l0) = some r := h
  clear h
  have H' := Aside0.mk H
  clear H
  go_enter Try.func82, Try.ntmps82
  go_wp2
  go_loopg [0] k (fun kq v0 w' => ∃ (x0_1 : List Int), Aside0 (impl_limbs_trim.l0 kq x0_1 = some r) ∧ Aside0 (kq ≤ k) ∧ Aside0 (Kd.V (Kd.int .i64) 3 w' w.heap.size (fun k_ => (P0_ k_ ∨ w.heap.size ≤ k_)) v0 x0_1) ∧ Aside0 (Below w.heap.size w w'))
  case atStart => exact ⟨(l0), H', ⟨Nat.le_refl _⟩, ⟨by (with_reducible repeat (first | apply Kd.V_alloc | apply Kd.V_drewN | apply Kd.V_drew)); exact HO0.out⟩, ⟨zb⟩⟩
  case round =>
    clear H'
    obtain ⟨x0_1, HA, HK1, HO_0, HB⟩ := hrel
    cases gk with
    | zero => exact absurd HA.out (by simp [impl_limbs_trim.l0])
    | succ k1 =>
      have H := HA.out
      clear HA
      simp only [impl_limbs_trim.l0] at H
      by_cases c2 : (x0_1.length : Int) > 0
      · rw [if_pos c2] at H
        have c2b0 : decide (0 < (x0_1.length : Int)) = true := decide_eq_true c2
        have c2b1 : decide (0 < x0_1.length) = true := decide_eq_true (by omega)
        clear c2
        obtain ⟨ji3, hji3⟩ : ∃ j_ : Int, (wrap64 ((x0_1.length : Int) - 1)) = j_ := ⟨_, rfl⟩
        replace H : (if 0 ≤ (ji3) then (if (ji3) < (x0_1.length : Int) then (if (rd x0_1 (ji3)) = 0 then (if (ji3) ≤ (x0_1.length : Int) then (impl_limbs_trim.l0 k1 (x0_1.take ((ji3) : Int).toNat)) else (none)) else (some x0_1)) else (none)) else (none)) = some r := by first | (rw [hji3] at H; exact H) | (simp only [hji3] at H ⊢; exact H)
        have hji3w : (IntKind.i64.wrap ((x0_1.length : Int) - 1)) = ji3 := (i64_w _).trans hji3
        by_cases c4 : 0 ≤ (ji3)
        · rw [if_pos c4] at H
          have c4b0 : decide (0 ≤ (ji3)) = true := decide_eq_true c4
          clear c4
          by_cases c5 : (ji3) < (x0_1.length : Int)
          · rw [if_pos c5] at H
            have c5b0 : decide ((ji3) < (x0_1.length : Int)) = true := decide_eq_true c5
            clear c5
            by_cases c6 : (rd x0_1 (ji3)) = 0
            · rw [if_pos c6] at H
              have c6b0 : ((rd x0_1 (ji3)) == 0) = true := beq_iff_eq.mpr c6
              have c6b1 : ((rd x0_1 (ji3)) != 0) = false := bne_eq_false_iff_eq.mpr c6
              clear c6
              have c7b0 := eq_true (of_decide_eq_true (by first | (with_reducible assumption) | assumption) : 0 ≤ (ji3))
              by_cases c8 : (ji3) ≤ (x0_1.length : Int)
              · rw [if_pos c8] at H
                have c8b0 := eq_true c8
                have c8b1 : decide ((ji3) ≤ (x0_1.length : Int)) = true := decide_eq_true c8
                clear c8
                obtain ⟨y160, hy160⟩ : ∃ y_ : List Int, y_ = (x0_1.take ((ji3) : Int).toNat) := ⟨_, rfl⟩
                replace H : (impl_limbs_trim.l0 k1 y160) = some r := by first | (rw [hy160]; with_reducible exact H) | (have H2_ := (Option.bind_some _ _).symm.trans H; rw [hy160]; with_reducible exact H2_) | (have H2_ := (Option.bind_some _ _).symm.trans H; with_reducible exact H2_) | with_reducible exact H | (rw [hy160]; exact H) | exact H
                have Ny160 := Aside0.mk hy160
                clear hy160
                have H' := Aside0.mk H
                clear H
                obtain ⟨Ao9, co9, eo9⟩ := Kd.V_slice HO_0.out
                subst eo9
                have p159 : 0 ≤ ((ji3) : Int) := of_decide_eq_true (by first | (with_reducible assumption) | assumption)
                have q159 : (ji3) < (x0_1.length : Int) := of_decide_eq_true (by first | (with_reducible assumption) | assumption)
                obtain ⟨ad159, e159, hx159_0⟩ := Kd.at_int (Kd.V_reads' HO_0.out).2.2 (ji3) p159 q159
                cases e159
                replace p159 := eq_true p159
                replace q159 := eq_true q159
                have q10 : ((ji3) : Int) ≤ ((x0_1.length : Int) : Int) := of_decide_eq_true (by first | (with_reducible assumption) | assumption)
                obtain ⟨i010, hi010, _, hsz10, _⟩ := info_parts info3
                have hroom10 : x0_1.length ≤ co9 := (Kd.V_reads' HO_0.out).2.1
                have hC10 : Kd.F (Kd.int .i64) _ _ (some ad159) x0_1.length x0_1 := (Kd.V_at (base := w.heap.size) HO_0.out).2.2
                have hcut10 := cut_to (P := Try.prog) 54 3 .i64 Try.underlying54 hi010 (some ad159) x0_1.length co9 (ji3) (of_decide_eq_true (by first | (with_reducible assumption) | assumption)) q10 hroom10
                have hr10 := Kd.F_take (m := ((ji3) : Int).toNat) hC10 (by omega)
                have hy10 : y160.length = ((ji3) : Int).toNat := (by rw [Ny160.out, List.length_take]; omega)
                rw [← Ny160.out] at hr10
                rw [← hy10] at hcut10
                have HO164 := Aside0.mk (show Kd.V (Kd.int .i64) 3 _ w.heap.size _ (.slice (some ad159) y160.length co9) y160 from Kd.V_mk (by omega) hr10)
                have HC164 := Aside0.mk (show y160.length ≤ co9 from by omega)
                clear hr10 hC10 hroom10 hi010 hsz10
                have KY10 := Aside0.mk hy10
                clear hy10
                replace q10 := eq_true q10
                go_wp2
                go_roundg k1
                case measure => have := HK1.out; omega
                case rel => exact ⟨(y160), H', ⟨by have := HK1.out; omega⟩, ⟨by (with_reducible repeat (first | apply Kd.V_alloc | apply Kd.V_drewN | apply Kd.V_drew)); exact HO164.out⟩, ⟨zb⟩⟩
              · rw [if_neg c8] at H
                exact absurd H (by simp)
            · rw [if_neg c6] at H
              have c6b0 : ((rd x0_1 (ji3)) == 0) = false := beq_eq_false_iff_ne.mpr c6
              have c6b1 : ((rd x0_1 (ji3)) != 0) = true := bne_iff_ne.mpr c6
              obtain rfl := Option.some.inj H
              obtain ⟨Ao11, co11, eo11⟩ := Kd.V_slice HO_0.out
              subst eo11
              have p159 : 0 ≤ ((ji3) : Int) := of_decide_eq_true (by first | (with_reducible assumption) | assumption)
              have q159 : (ji3) < (x0_1.length : Int) := of_decide_eq_true (by first | (with_reducible assumption) | assumption)
              obtain ⟨ad159, e159, hx159_0⟩ := Kd.at_int (Kd.V_reads' HO_0.out).2.2 (ji3) p159 q159
              cases e159
              replace p159 := eq_true p159
              replace q159 := eq_true q159
              go_wp2
              go_ret
              exact ⟨_, by first | rfl | (simp [errW_none, errW_some] <;> rfl) | (simp only [← hji3]; first | rfl | (simp [errW_none, errW_some] <;> rfl)) | (simp [*, errW_none, errW_some] <;> rfl), by (with_reducible repeat (first | apply Kd.V_alloc | apply Kd.V_drewN | apply Kd.V_drew)); exact HO_0.out, zb⟩
          · rw [if_neg c5] at H
            exact absurd H (by simp)
        · rw [if_neg c4] at H
          exact absurd H (by simp)
      · rw [if_neg c2] at H
        have c2b0 : decide (0 < (x0_1.length : Int)) = false := decide_eq_false c2
        have c2b1 : decide (0 < x0_1.length) = false := decide_eq_false (by omega)
        clear c2
        obtain rfl := Option.some.inj H
        obtain ⟨Ao12, co12, eo12⟩ := Kd.V_slice HO_0.out
        subst eo12
        go_wp2
        go_ret
        exact ⟨_, by first | rfl | (simp [errW_none, errW_some] <;> rfl) | (simp [*, errW_none, errW_some] <;> rfl), by (with_reducible repeat (first | apply Kd.V_alloc | apply Kd.V_drewN | apply Kd.V_drew)); exact HO_0.out, zb⟩
def impl_big.f (k : Nat) (a0 : Bool) (l1 : List Int) : Option (Bool × List Int × Bool) := (impl_limbs_trim.f k l1).bind fun t166 => (if (t166.length : Int) > 16 then (some (false, ([] : List Int), false)) else (if a0 = true then ((impl_clone_int.f t166).bind fun t169 => (some (decide (0 < t166.length), t169, true))) else ((impl_clone_int.f t166).bind fun t172 => (some (false, t172, true)))))
def impl_limbsOf.l0 : Nat → Int → List Int → Option (List Int)
  | 0, _, _ => none
  | k + 1, x0, x3 => if x0 > 0 then (if x3.length < 17592186044416 then (impl_limbsOf.l0 k (IntKind.u64.wrap (Int.tdiv x0 10000)) (x3 ++ [wrap64 (Int.tmod x0 10000)])) else (none)) else (some x3)
def impl_limbsOf.f (k : Nat) (a0 : Int) : Option (List Int) := impl_limbsOf.l0 k a0 ([] : List Int)
def impl_limbs_cmp.l0 : Nat → List Int → List Int → Int → Option (Int)
  | 0, _, _, _ => none
  | k + 1, x0, x1, x5 => if x5 ≥ 0 then (if 0 ≤ x5 then (if x5 < (x0.length : Int) then (if x5 < (x1.length : Int) then (if (rd x0 x5) = (rd x1 x5) then (impl_limbs_cmp.l0 k x0 x1 (wrap64 (x5 - 1))) else (some (mx (-1) (mn 1 (wrap64 ((rd x0 x5) - (rd x1 x5))))))) else (none)) else (none)) else (none)) else (some 0)
def impl_limbs_cmp.f (k : Nat) (l0 : List Int) (l1 : List Int) : Option (Int) := if (l0.length : Int) = (l1.length : Int) then (impl_limbs_cmp.l0 k l0 l1 (wrap64 ((l0.length : Int) - 1))) else (some (mx (-1) (mn 1 (wrap64 ((l0.length : Int) - (l1.length : Int))))))
end Go.Proofs.Ytdemeoncjcbojaa.Pr
end
section
namespace Go.Proofs.Ytdemeoncjcbojaa.Pr
open Go.RowKit Go.Proofs.YtdemeoncjcbojaaW.PrintWords Go.Proofs.YtdemeoncjcbojaaW.PrintLast Go.Proofs.Ytdemeoncjcbojaa.Ext Go.Proofs.YtdemeoncjcbojaaW.PrintMore
attribute [local go_sem] max2_int min2_int max_two min_two max_three min_three max_four min_four
set_option linter.unusedVariables false
set_option linter.unusedSimpArgs false
def spec_BigCmp.f (k : Nat) (a0_0 : Bool) (l0_1 : List Int) (a1_0 : Bool) (l1_1 : List Int) : Option (Int) := (spec_l1Ok.f k a0_0 l0_1).bind fun t491 => (if t491 = true then ((spec_l1Ok.f k a1_0 l1_1).bind fun t492 => (if t492 = true then ((spec_l1Cmp.f k a0_0 l0_1 a1_0 l1_1).bind fun t493 => (some t493)) else (some 2))) else (some 2))
mutual
def spec_l1AddAbs.l0 : Nat → List Int → List Int → List Int → Int → Int → Option (List Int)
  | 0, _, _, _, _, _ => none
  | k + 1, x0, x1, x5, x6, x7 => if x7 < (x0.length : Int) then (spec_l1AddAbs.j1 k x0 x1 x5 x6 x7 true) else (if x7 < (x1.length : Int) then (spec_l1AddAbs.j1 k x0 x1 x5 x6 x7 true) else (spec_l1AddAbs.j1 k x0 x1 x5 x6 x7 (decide (x6 > 0))))
def spec_l1AddAbs.j1 : Nat → List Int → List Int → List Int → Int → Int → Bool → Option (List Int)
  | 0, _, _, _, _, _, _ => none
  | k + 1, x0, x1, x5, x6, x7, x23 => if x23 = true then ((spec_l1Limb.f x0 x7).bind fun t875 => ((spec_l1Limb.f x1 x7).bind fun t876 => (if x5.length < 17592186044416 then (spec_l1AddAbs.l0 k x0 x1 (x5 ++ [Int.tmod (wrap64 ((wrap64 (t875 + t876)) + x6)) 10000]) (wrap64 (Int.tdiv (wrap64 ((wrap64 (t875 + t876)) + x6)) 10000)) (wrap64 (x7 + 1))) else (none)))) else ((spec_l1Trim.f k x5).bind fun t880 => (some t880))
end
def spec_l1AddAbs.f (k : Nat) (l0 : List Int) (l1 : List Int) : Option (List Int) := spec_l1AddAbs.l0 k l0 l1 (([] : List Int)) 0 0
def spec_l1SubAbs.l0 : Nat → List Int → List Int → List Int → Int → Int → Option (List Int)
  | 0, _, _, _, _, _ => none
  | k + 1, x0, x1, x5, x6, x7 => if x7 < (x0.length : Int) then (if 0 ≤ x7 then ((spec_l1Limb.f x1 x7).bind fun t887 => (if (wrap64 ((wrap64 ((rd x0 x7) - t887)) - x6)) < 0 then (if x5.length < 17592186044416 then (spec_l1SubAbs.l0 k x0 x1 (x5 ++ [wrap64 ((wrap64 ((wrap64 ((rd x0 x7) - t887)) - x6)) + 10000)]) 1 (wrap64 (x7 + 1))) else (none)) else (if x5.length < 17592186044416 then (spec_l1SubAbs.l0 k x0 x1 (x5 ++ [wrap64 ((wrap64 ((rd x0 x7) - t887)) - x6)]) 0 (wrap64 (x7 + 1))) else (none)))) else (none)) else ((spec_l1Trim.f k x5).bind fun t894 => (some t894))
def spec_l1SubAbs.f (k : Nat) (l0 : List Int) (l1 : List Int) : Option (List Int) := spec_l1SubAbs.l0 k l0 l1 (([] : List Int)) 0 0
def spec_l1Add.f (k : Nat) (a0 : Bool) (l1 : List Int) (a2 : Bool) (l3 : List Int) : Option (Bool × List Int) := if (a0 == a2) = true then ((spec_l1AddAbs.f k l1 l3).bind fun t897 => (some (a0, t897))) else ((spec_l1CmpAbs.f k l1 l3).bind fun t900 => (if t900 ≥ 0 then ((spec_l1SubAbs.f k l1 l3).bind fun t901 => (some (a0, t901))) else ((spec_l1SubAbs.f k l3 l1).bind fun t904 => (some (a2, t904)))))
def spec_BigAdd.j0 : Nat → Bool → Bool → List Int → Bool → List Int → Option (Bool × List Int × Bool)
  | 0, _, _, _, _, _ => none
  | k + 1, x15, x908000, x908001, x909000, x909001 => if x15 = true then (some (false, ([] : List Int), false)) else ((spec_l1Add.f k x908000 x908001 x909000 x909001).bind fun bt912 => ((spec_l1Big.f k bt912.1 bt912.2).bind fun bt916 => (some (bt916.1, bt916.2.1, bt916.2.2))))
def spec_BigAdd.f (k : Nat) (a0_0 : Bool) (l0_1 : List Int) (a1_0 : Bool) (l1_1 : List Int) : Option (Bool × List Int × Bool) := (spec_l1Ok.f k a0_0 l0_1).bind fun t910 => (if t910 = true then ((spec_l1Ok.f k a1_0 l1_1).bind fun t911 => (spec_BigAdd.j0 k (!t911) a0_0 l0_1 a1_0 l1_1)) else (spec_BigAdd.j0 k true a0_0 l0_1 a1_0 l1_1))
def spec_BigSub.j0 : Nat → Bool → Bool → List Int → Bool → List Int → Option (Bool × List Int × Bool)
  | 0, _, _, _, _, _ => none
  | k + 1, x15, x972000, x972001, x973000, x973001 => if x15 = true then (some (false, ([] : List Int), false)) else ((spec_l1Add.f k x972000 x972001 (!x973000) x973001).bind fun bt976 => ((spec_l1Big.f k bt976.1 bt976.2).bind fun bt980 => (some (bt980.1, bt980.2.1, bt980.2.2))))
def spec_BigSub.f (k : Nat) (a0_0 : Bool) (l0_1 : List Int) (a1_0 : Bool) (l1_1 : List Int) : Option (Bool × List Int × Bool) := (spec_l1Ok.f k a0_0 l0_1).bind fun t974 => (if t974 = true then ((spec_l1Ok.f k a1_0 l1_1).bind fun t975 => (spec_BigSub.j0 k (!t975) a0_0 l0_1 a1_0 l1_1)) else (spec_BigSub.j0 k true a0_0 l0_1 a1_0 l1_1))
end Go.Proofs.Ytdemeoncjcbojaa.Pr
end
section
namespace Go.Proofs.Ytdemeoncjcbojaa.Pr
open Go.RowKit Go.Proofs.YtdemeoncjcbojaaW.PrintWords Go.Proofs.YtdemeoncjcbojaaW.PrintLast Go.Proofs.Ytdemeoncjcbojaa.Ext Go.Proofs.YtdemeoncjcbojaaW.PrintMore
attribute [local go_sem] max2_int min2_int max_two min_two max_three min_three max_four min_four
set_option linter.unusedVariables false
set_option linter.unusedSimpArgs false
mutual
def spec_l1MulAbs.l0 : Nat → List Int → List Int → List Int → Int → Option (List Int)
  | 0, _, _, _, _ => none
  | k + 1, x0, x1, x5, x6 => if x6 < (x0.length : Int) then (spec_l1MulAbs.l1 k x0 x1 x5 x6 0 0) else ((spec_l1Trim.f k x5).bind fun t555 => (some t555))
def spec_l1MulAbs.l1 : Nat → List Int → List Int → List Int → Int → Int → Int → Option (List Int)
  | 0, _, _, _, _, _, _ => none
  | k + 1, x0, x1, x5, x6, x7, x8 => if x8 < (x1.length : Int) then (if 0 ≤ (wrap64 (x6 + x8)) then (if (wrap64 (x6 + x8)) < (x5.length : Int) then (if 0 ≤ x6 then (if x6 < (x0.length : Int) then ((spec_l1Limb.f x1 x8).bind fun t560 => (spec_l1MulAbs.l1 k x0 x1 (x5.set ((wrap64 (x6 + x8)) : Int).toNat (Int.tmod (wrap64 ((wrap64 ((rd x5 (wrap64 (x6 + x8))) + (wrap64 ((rd x0 x6) * t560)))) + x7)) 10000)) x6 (wrap64 (Int.tdiv (wrap64 ((wrap64 ((rd x5 (wrap64 (x6 + x8))) + (wrap64 ((rd x0 x6) * t560)))) + x7)) 10000)) (wrap64 (x8 + 1)))) else (none)) else (none)) else (none)) else (none)) else (if x7 > 0 then (if 0 ≤ (wrap64 (x6 + x8)) then (if (wrap64 (x6 + x8)) < (x5.length : Int) then (if 0 ≤ x6 then (if x6 < (x0.length : Int) then ((spec_l1Limb.f x1 x8).bind fun t564 => (spec_l1MulAbs.l1 k x0 x1 (x5.set ((wrap64 (x6 + x8)) : Int).toNat (Int.tmod (wrap64 ((wrap64 ((rd x5 (wrap64 (x6 + x8))) + (wrap64 ((rd x0 x6) * t564)))) + x7)) 10000)) x6 (wrap64 (Int.tdiv (wrap64 ((wrap64 ((rd x5 (wrap64 (x6 + x8))) + (wrap64 ((rd x0 x6) * t564)))) + x7)) 10000)) (wrap64 (x8 + 1)))) else (none)) else (none)) else (none)) else (none)) else (spec_l1MulAbs.l0 k x0 x1 x5 (wrap64 (x6 + 1))))
end
def spec_l1MulAbs.f (k : Nat) (l0 : List Int) (l1 : List Int) : Option (List Int) := if 0 ≤ (wrap64 ((l0.length : Int) + (l1.length : Int))) then (if (wrap64 ((l0.length : Int) + (l1.length : Int)) : Int).toNat ≤ 35184372088832 then (spec_l1MulAbs.l0 k l0 l1 (List.replicate (wrap64 ((l0.length : Int) + (l1.length : Int)) : Int).toNat 0) 0) else (none)) else (none)
def spec_BigMul.j0 : Nat → Bool → Bool → List Int → Bool → List Int → Option (Bool × List Int × Bool)
  | 0, _, _, _, _, _ => none
  | k + 1, x13, x567000, x567001, x568000, x568001 => if x13 = true then (some (false, ([] : List Int), false)) else ((spec_l1MulAbs.f k x567001 x568001).bind fun t571 => ((spec_l1Big.f k (x567000 != x568000) t571).bind fun bt574 => (some (bt574.1, bt574.2.1, bt574.2.2))))
def spec_BigMul.f (k : Nat) (a0_0 : Bool) (l0_1 : List Int) (a1_0 : Bool) (l1_1 : List Int) : Option (Bool × List Int × Bool) := (spec_l1Ok.f k a0_0 l0_1).bind fun t569 => (if t569 = true then ((spec_l1Ok.f k a1_0 l1_1).bind fun t570 => (spec_BigMul.j0 k (!t570) a0_0 l0_1 a1_0 l1_1)) else (spec_BigMul.j0 k true a0_0 l0_1 a1_0 l1_1))
end Go.Proofs.Ytdemeoncjcbojaa.Pr
end
section
namespace Go.Proofs.Ytdemeoncjcbojaa.RWs
open Go.RowKit Go.Proofs.YtdemeoncjcbojaaW.PrintWords Go.Proofs.YtdemeoncjcbojaaW.PrintLast Go.Proofs.YtdemeoncjcbojaaW.PrintMore
set_option linter.unusedVariables false
theorem ob (A : Option Addr) (n c c' : Nat) : (Value.slice A n c).ownBlock = (Value.slice A n c').ownBlock := by cases A <;> rfl
namespace Kd
def RW {α : Type} (d : Kd α) (e : Nat) (w : World) (base : Nat) (ok : Nat → Prop) (v : Value) (xs : List α) : Prop :=
  (∀ k, v.ownBlock = some k → ok k) ∧ ∃ A c c', v = .slice A xs.length c ∧ xs.length ≤ c ∧ d.R e w base ok (.slice A xs.length c') xs
section
variable {α : Type} {d : Kd α} {e : Nat} {w w1 W : World} {base base' : Nat} {ok ok' ok1 : Nat → Prop} {v u : Value} {xs : List α}
theorem RW_mk {A : Option Addr} {c c' : Nat} (hl : xs.length ≤ c) (h : d.R e w base ok (.slice A xs.length c') xs) : RW d e w base ok (.slice A xs.length c) xs := ⟨fun k hk => h.1 k (by rw [ob A _ c' c]; exact hk), A, c, c', rfl, hl, h⟩
theorem RW_of (h : d.R e w base ok v xs) : RW d e w base ok v xs := by
  obtain ⟨A, c, rfl⟩ := Kd.R_slice h
  exact RW_mk (Kd.R_reads' h).2.1 h
theorem RW_nil (d : Kd α) (e : Nat) (w : World) (base : Nat) (ok : Nat → Prop) : RW d e w base ok (.slice none 0 0) [] := RW_of (Kd.R_nil d e w base ok)
theorem RW_slice (h : RW d e w base ok v xs) : ∃ A c, v = .slice A xs.length c := by
  obtain ⟨_, A, c, _, hv, _, _⟩ := h
  exact ⟨A, c, hv⟩
theorem RW_mono (h : RW d e w base ok v xs) (hok : ∀ k, ok k → ok' k) : RW d e w base ok' v xs := by
  obtain ⟨_, A, c, c', rfl, hl, hr⟩ := h
  exact RW_mk hl (Kd.R_mono hr hok)
theorem RW_alloc (h : RW d e w base ok v xs) (o : Obj) : RW d e (w.alloc o) base ok v xs := by
  obtain ⟨_, A, c, c', rfl, hl, hr⟩ := h
  exact RW_mk hl (Kd.R_alloc hr o)
theorem RW_drewN (h : RW d e w base ok v xs) (m : Nat) : RW d e (w.drewN m) base ok v xs := by
  obtain ⟨_, A, c, c', rfl, hl, hr⟩ := h
  exact RW_mk hl (Kd.R_drewN hr m)
theorem RW_drew (h : RW d e w base ok v xs) : RW d e w.drew base ok v xs := by
  obtain ⟨_, A, c, c', rfl, hl, hr⟩ := h
  exact RW_mk hl (Kd.R_drew hr)
theorem RW_below (h : RW d e w base ok v xs) (hb : Below w.heap.size w w1) : RW d e w1 base ok v xs := by
  obtain ⟨_, A, c, c', rfl, hl, hr⟩ := h
  exact RW_mk hl (Kd.R_below hr hb)
theorem RW_lower (h : RW d e w base ok v xs) (hb : base' ≤ base) : RW d e w base' ok v xs := by
  obtain ⟨_, A, c, c', rfl, hl, hr⟩ := h
  exact RW_mk hl (Kd.R_lower hr hb)
theorem RW_far (h : RW d e w base ok v xs) {p : Addr} (hok : ∀ k, ok k → k ≠ p.block) (x : Value) : RW d e (w.setCell p x) base ok v xs := by
  obtain ⟨_, A, c, c', rfl, hl, hr⟩ := h
  exact RW_mk hl (Kd.R_far hr hok x)
theorem RW_types (h : RW d e w base ok v xs) {g t : Nat} {cells : Array Value} (hb : w.heap[g]? = some (.cells cells t (0, 0))) (ht : ∀ q, q ∈ e :: d.E → q ≠ t) : RW d e w base (fun k => ok k ∧ k ≠ g) v xs := by
  obtain ⟨_, A, c, c', rfl, hl, hr⟩ := h
  exact RW_mk hl (Kd.R_types hr hb ht)
theorem RW_tight (hE : d.E = []) (h : RW d e w base ok v xs) : RW d e w base (fun k => some k = v.ownBlock) v xs := by
  obtain ⟨_, A, c, c', rfl, hl, hr⟩ := h
  refine RW_mk hl (Kd.R_mono (Kd.R_tight hE hr) fun k hk => ?_)
  rw [ob A _ c c']; exact hk
theorem RW_reok (hE : d.E = []) (h : RW d e w base ok1 v xs) (hok : ∀ k, v.ownBlock = some k → ok k) : RW d e w base ok v xs := by
  obtain ⟨_, A, c, c', rfl, hl, hr⟩ := h
  exact RW_mk hl (Kd.R_reok hE hr fun k hk => hok k (by rw [ob A _ c c']; exact hk))
theorem RW_ne (h : RW d e w base ok v xs) {g t : Nat} {cells : Array Value} (hb : w.heap[g]? = some (.cells cells t (0, 0))) (ht : e ≠ t) : some g ≠ v.ownBlock := by
  obtain ⟨_, A, c, c', rfl, hl, hr⟩ := h
  rw [ob A _ c c']; exact Kd.R_ne hr hb ht
theorem RW_base (h : RW d e w base ok v xs) : ∀ k, v.ownBlock = some k → base ≤ k := by
  obtain ⟨_, A, c, c', rfl, hl, hr⟩ := h
  intro k hk
  exact Kd.R_base hr k (by rw [ob A _ c' c]; exact hk)
theorem RW_lt (h : RW d e w base ok v xs) : ∀ k, v.ownBlock = some k → k < w.heap.size := by
  obtain ⟨_, A, c, c', rfl, hl, hr⟩ := h
  intro k hk
  exact Kd.R_lt hr k (by rw [ob A _ c' c]; exact hk)
theorem RW_reads' {A : Option Addr} {n c : Nat} (h : RW d e w base ok (.slice A n c) xs) : n = xs.length ∧ n ≤ c ∧ d.C w A xs.length xs := by
  obtain ⟨_, A1, c1, c', hv, hl, hr⟩ := h
  injection hv with h1 h2 h3
  subst h1; subst h2; subst h3
  exact ⟨rfl, hl, (Kd.R_reads' hr).2.2⟩
theorem RW_elder' (hu : RW d e W base ok u xs) (hbase : ∀ k, v.ownBlock = some k → W.heap.size ≤ k) (hb : Below W.heap.size W w1) : RW d e w1 base (fun k => ok k ∧ some k ≠ v.ownBlock) u xs := by
  obtain ⟨_, A, c, c', rfl, hl, hr⟩ := hu
  exact RW_mk hl (Kd.R_elder' hr hbase hb)
theorem RW_new' (h : RW d e w1 W.heap.size ok v xs) (hlt : ∀ k, u.ownBlock = some k → k < W.heap.size) : RW d e w1 W.heap.size (fun k => ok k ∧ some k ≠ u.ownBlock) v xs := by
  obtain ⟨_, A, c, c', rfl, hl, hr⟩ := h
  exact RW_mk hl (Kd.R_new' hr hlt)
theorem RW_keptB {W2 : World} {S : Nat → Prop} (h : RW d e W base ok v xs) (hk : Kept W W2 S) (hs : ∀ k, ok k → ¬S k) : RW d e W2 base (fun k => ok k ∧ ¬S k ∧ k < W.heap.size) v xs := by
  obtain ⟨_, A, c, c', rfl, hl, hr⟩ := h
  exact RW_mk hl (Kd.R_keptB hr hk hs)
theorem RW_form (h : RW d e w base ok v xs) (hp : 0 < xs.length) : ∃ g cap, v = .slice (some ⟨g, 0, none⟩) xs.length cap ∧ base ≤ g ∧ g < w.heap.size ∧ ∃ cells, w.heap[g]? = some (.cells cells e (0, 0)) := by
  obtain ⟨_, A, c, c', rfl, hl, hr⟩ := h
  obtain ⟨g, cap, hv, h1, h2, h3⟩ := Kd.R_form hr hp
  injection hv with e1 e2 e3
  subst e1
  exact ⟨g, c, rfl, h1, h2, h3⟩
end
section
variable {α : Type} {enc : α → Value} {h1 : ∀ x, (enc x).oneCell' = true} {e base g n cap : Nat} {ok : Nat → Prop} {W : World} {xs : List α}
theorem RW_celln (d : α) (h : RW (Kd.scalar enc h1) e W base ok (.slice (some ⟨g, 0, none⟩) n cap) xs) (i : Int) (h0 : 0 ≤ i) (hi : i < n) : W.cell? ⟨g, i.toNat, none⟩ = some (enc (rdOf d xs i)) ∧ W.frozen? ⟨g, i.toNat, none⟩ = false := by
  obtain ⟨_, A, c, c', hv, hl, hr⟩ := h
  injection hv with e1 e2 e3
  subst e1; subst e2
  exact Kd.R_celln d hr i h0 hi
theorem RW_putg (h : RW (Kd.scalar enc h1) e W base ok (.slice (some ⟨g, 0, none⟩) n cap) xs) (i : Int) (x : α) : RW (Kd.scalar enc h1) e (W.setCell ⟨g, i.toNat, none⟩ (enc x)) base ok (.slice (some ⟨g, 0, none⟩) n cap) (xs.set i.toNat x) ∧ W.grownBy (W.setCell ⟨g, i.toNat, none⟩ (enc x)) (some g) := by
  obtain ⟨_, A, c, c', hv, hl, hr⟩ := h
  injection hv with e1 e2 e3
  subst e1; subst e2; subst e3
  obtain ⟨q1, q2⟩ := Kd.R_putg hr i x
  have hlen : (xs.set i.toNat x).length = xs.length := List.length_set
  refine ⟨?_, q2⟩
  rw [← hlen] at q1 ⊢
  exact RW_mk (by rw [hlen]; exact hl) q1
end
end Kd
end Go.Proofs.Ytdemeoncjcbojaa.RWs
end
section
namespace Go.Proofs.Ytdemeoncjcbojaa.Pw
open Go.RowKit Go.Proofs.YtdemeoncjcbojaaW.PrintWords Go.Proofs.YtdemeoncjcbojaaW.PrintLast Go.Proofs.YtdemeoncjcbojaaW.PrintMore Go.Proofs.Ytdemeoncjcbojaa.RWs Go.Proofs.Ytdemeoncjcbojaa.Ext
set_option linter.unusedVariables false
theorem impl_clone_int.calls (A0 : Option Addr) (c0 : Nat) (l0 : List Int) (r : List Int) (w : World) (hr0 : Kd.C (Kd.int .i64) w A0 l0.length l0) (hc0 : l0.length ≤ c0) (h : impl_clone_int.f l0 = some r) :
    Calls Try.prog 83 #[.slice A0 l0.length c0] w fun e w' => ∃ v0_ : Value, e = .returned (v0_) ∧ Kd.RW (Kd.int .i64) 3 w' w.heap.size (fun _ => True) v0_ r ∧ Below w.heap.size w w' := by
  have HR0 := Aside0.mk hr0
  have HC0 := Aside0.mk hc0
  have H := Aside0.mk (show clone99.f l0 = some r from h)
  clear hr0 hc0 h
  go_enter Try.func83, Try.ntmps83
  go_wp2_with (fail)
  refine (clone99.calls A0 c0 l0 r _ HR0.out HC0.out H.out).mono ?_
  rintro e w' ⟨v, rfl, hR, hb⟩
  obtain ⟨A, c, rfl⟩ := Kd.R_slice hR
  have hle : r.length ≤ c := (Kd.R_reads' hR).2.1
  have hm : r.length ≤ 9223372036854775807 := (Kd.R_reads' hR).2.2.2.1
  have HW := Aside0.mk (Kd.RW_mk (c := r.length) (Nat.le_refl _) hR)
  have HB := Aside0.mk hb
  clear hR hb
  go_wp2_with (go_at_call 98; (with_reducible refine (clip_calls A r.length c hle hm _).mono ?_); rintro e w1 ⟨rfl, ⟨nd, rfl⟩⟩)
  go_ret
  exact ⟨_, rfl, by (with_reducible repeat (first | apply Kd.RW_alloc | apply Kd.RW_drewN | apply Kd.RW_drew)); exact HW.out, by repeat (first | exact HB.out | apply pw_below_drewN | apply below_drew1)⟩
end Go.Proofs.Ytdemeoncjcbojaa.Pw
end
section
namespace Go.Proofs.Ytdemeoncjcbojaa.Pw
open Go.Proofs.Ytdemeoncjcbojaa.Pr Go.Proofs.Ytdemeoncjcbojaa.RWs Go.RowKit Go.Proofs.YtdemeoncjcbojaaW.PrintWords Go.Proofs.YtdemeoncjcbojaaW.PrintLast Go.Proofs.Ytdemeoncjcbojaa.Ext Go.Proofs.YtdemeoncjcbojaaW.PrintMore
attribute [local go_sem] max2_int min2_int max_two min_two max_three min_three max_four min_four
set_option linter.unusedVariables false
set_option linter.unusedSimpArgs false
theorem spec_BigTen.calls (k : Nat) (a0 : Int) (r1 : Bool) (r2 : List Int) (r3 : Bool) (w : World) (h : spec_BigTen.f k a0 = some (r1, r2, r3)) :
    Calls Try.prog 28 #[.int .i64 a0] w fun e w' => ∃ v1_ : Value, e = .returned (.tuple #[.agg #[.bool r1, v1_], .bool r3]) ∧ Kd.RW (Kd.int .i64) 3 w' w.heap.size (fun _ => True) v1_ r2 ∧ Below w.heap.size w w' :=
  (Go.Proofs.Ytdemeoncjcbojaa.Pr.spec_BigTen.calls k a0 r1 r2 r3 w h).mono (by rintro e w' ⟨v, he, ho, hb⟩; exact ⟨v, he, Kd.RW_of ho, hb⟩)
end Go.Proofs.Ytdemeoncjcbojaa.Pw
end
section
namespace Go.Proofs.Ytdemeoncjcbojaa.Pr
open Go.RowKit Go.Proofs.YtdemeoncjcbojaaW.PrintWords Go.Proofs.YtdemeoncjcbojaaW.PrintLast Go.Proofs.Ytdemeoncjcbojaa.Ext Go.Proofs.YtdemeoncjcbojaaW.PrintMore
attribute [local go_sem] max2_int min2_int max_two min_two max_three min_three max_four min_four
set_option linter.unusedVariables false
set_option linter.unusedSimpArgs false
def laws_markIntS.l0 : Nat → List Int → Int → Int → Option (Int × List Int)
  | 0, _, _, _ => none
  | k + 1, x0, x1, x5 => if x5 < (x0.length : Int) then (if 0 ≤ x5 then (laws_markIntS.l0 k (x0.set (x5 : Int).toNat x1) (wrap64 (x1 + 1)) (wrap64 (x5 + 1))) else (none)) else (some (x1, x0))
def laws_markIntS.f (k : Nat) (l0 : List Int) (a1 : Int) : Option (Int × List Int) := laws_markIntS.l0 k l0 a1 0
def laws_markBig.f (k : Nat) (a0_0 : Bool) (l0_1 : List Int) (a1 : Int) : Option (Int × List Int) := (laws_markIntS.f k l0_1 a1).bind fun bt199 => (some (bt199.1, bt199.2))
def laws_heldIntS.l0 : Nat → List Int → Int → Int → Option (Int)
  | 0, _, _, _ => none
  | k + 1, x0, x1, x5 => if x5 < (x0.length : Int) then (if 0 ≤ x5 then (if (rd x0 x5) = x1 then (laws_heldIntS.l0 k x0 (wrap64 (x1 + 1)) (wrap64 (x5 + 1))) else (some (-1))) else (none)) else (some x1)
def laws_heldIntS.f (k : Nat) (l0 : List Int) (a1 : Int) : Option (Int) := laws_heldIntS.l0 k l0 a1 0
set_option maxHeartbeats 8000000 in
set_option maxRecDepth 100000 in
theorem laws_heldIntS.calls (k : Nat) (A0 : Option Addr) (c0 : Nat) (l0 : List Int) (a1 : Int) (r : Int) (w : World) (hr0 : Kd.C (Kd.int .i64) w A0 l0.length l0) (hc0 : l0.length ≤ c0) (h : laws_heldIntS.f k l0 a1 = some r) :
    Calls Try.prog 58 #[.slice A0 l0.length c0, .int .i64 a1] w fun e w' => e = .returned (.int .i64 r) ∧ Drawn0 w w' := by
  have HR0 := Aside0.mk hr0
  have HC0 := Aside0.mk hc0
  clear hr0 hc0
  have H : (laws_heldIntS.l0 k l0 a1 0) = some r := h
  clear h
  have H' := Aside0.mk H
  clear H
  go_enter Try.func58, Try.ntmps58
  go_wp2
  go_loopg [1, 5] k (fun kq v1 v5 w' => ∃ (x1_1 : Int) (x5_1 : Int), v1 = .int .i64 x1_1 ∧ v5 = .int .i64 x5_1 ∧ Aside0 (laws_heldIntS.l0 kq l0 x1_1 x5_1 = some r) ∧ Aside0 (kq ≤ k) ∧ Drawn0 w w')
  case atStart => exact ⟨(a1), (0), (by first | rfl | (simp; done) | (simp [*]; done)), (by first | rfl | (simp; done) | (simp [*]; done)), H', ⟨Nat.le_refl _⟩, by repeat (first | exact Drawn0.refl _ | apply Drawn0.step)⟩
  case round =>
    clear H'
    try clear p2
    obtain ⟨x1_1, x5_1, rfl, rfl, HA, HK1, ⟨m1, rfl⟩⟩ := hrel
    cases gk with
    | zero => exact absurd HA.out (by simp [laws_heldIntS.l0])
    | succ k1 =>
      have H := HA.out
      clear HA
      simp only [laws_heldIntS.l0] at H
      by_cases c3 : x5_1 < (l0.length : Int)
      · rw [if_pos c3] at H
        have c3b0 : decide (x5_1 < (l0.length : Int)) = true := decide_eq_true c3
        clear c3
        by_cases c4 : 0 ≤ x5_1
        · rw [if_pos c4] at H
          have c4b0 : decide (0 ≤ x5_1) = true := decide_eq_true c4
          clear c4
          by_cases c5 : (rd l0 x5_1) = x1_1
          · rw [if_pos c5] at H
            have c5b0 : ((rd l0 x5_1) == x1_1) = true := beq_iff_eq.mpr c5
            have c5b1 : ((rd l0 x5_1) != x1_1) = false := bne_eq_false_iff_eq.mpr c5
            clear c5
            have H' := Aside0.mk H
            clear H
            have p201 : 0 ≤ (x5_1 : Int) := of_decide_eq_true (by first | (with_reducible assumption) | assumption)
            have q201 : x5_1 < (l0.length : Int) := of_decide_eq_true (by first | (with_reducible assumption) | assumption)
            obtain ⟨ad201, e201, hx201_0⟩ := Kd.at_int HR0.out x5_1 p201 q201
            cases e201
            replace p201 := eq_true p201
            replace q201 := eq_true q201
            go_wp2
            go_roundg k1
            case measure => have := HK1.out; omega
            case rel => exact ⟨(wrap64 (x1_1 + 1)), (wrap64 (x5_1 + 1)), (by first | rfl | (simp; done) | (simp [*]; done)), (by first | rfl | (simp; done) | (simp [*]; done)), H', ⟨by have := HK1.out; omega⟩, by repeat (first | exact Drawn0.refl _ | apply Drawn0.step)⟩
          · rw [if_neg c5] at H
            have c5b0 : ((rd l0 x5_1) == x1_1) = false := beq_eq_false_iff_ne.mpr c5
            have c5b1 : ((rd l0 x5_1) != x1_1) = true := bne_iff_ne.mpr c5
            obtain rfl := Option.some.inj H
            have p201 : 0 ≤ (x5_1 : Int) := of_decide_eq_true (by first | (with_reducible assumption) | assumption)
            have q201 : x5_1 < (l0.length : Int) := of_decide_eq_true (by first | (with_reducible assumption) | assumption)
            obtain ⟨ad201, e201, hx201_0⟩ := Kd.at_int HR0.out x5_1 p201 q201
            cases e201
            replace p201 := eq_true p201
            replace q201 := eq_true q201
            go_wp2
            go_ret
            exact ⟨by first | rfl | (simp; done) | (simp [*]; done), by repeat (first | exact Drawn0.refl _ | apply Drawn0.step)⟩
        · rw [if_neg c4] at H
          exact absurd H (by simp)
      · rw [if_neg c3] at H
        have c3b0 : decide (x5_1 < (l0.length : Int)) = false := decide_eq_false c3
        clear c3
        obtain rfl := Option.some.inj H
        go_wp2
        go_ret
        exact ⟨by first | rfl | (simp; done) | (simp [*]; done), by repeat (first | exact Drawn0.refl _ | apply Drawn0.step)⟩
def laws_heldBig.f (k : Nat) (a0_0 : Bool) (l0_1 : List Int) (a1 : Int) : Option (Int) := (laws_heldIntS.f k l0_1 a1).bind fun t203 => (if t203 < 0 then (some (-1)) else (some t203))
set_option maxHeartbeats 8000000 in
set_option maxRecDepth 100000 in
theorem laws_heldBig.calls (k : Nat) (a0_0 : Bool) (A0_1 : Option Addr) (c0_1 : Nat) (l0_1 : List Int) (a1 : Int) (r : Int) (w : World) (hr0_1 : Kd.C (Kd.int .i64) w A0_1 l0_1.length l0_1) (hc0_1 : l0_1.length ≤ c0_1) (h : laws_heldBig.f k a0_0 l0_1 a1 = some r) :
    Calls Try.prog 27 #[.agg #[.bool a0_0, .slice A0_1 l0_1.length c0_1], .int .i64 a1] w fun e w' => e = .returned (.int .i64 r) ∧ Below w.heap.size w w' := by
  have hu27 := Try.underlying27
  have HR0_1 := Aside0.mk hr0_1
  have HC0_1 := Aside0.mk hc0_1
  clear hr0_1 hc0_1
  have HB := Aside0.mk (Below.refl w.heap.size w)
  have H : ((laws_heldIntS.f k l0_1 a1).bind fun t203 => (if t203 < 0 then (some (-1)) else (some t203))) = some r := h
  clear h
  replace H := Option.bind_eq_some_iff.mp H
  obtain ⟨t203, A30, H⟩ := H
  replace H : (if t203 < 0 then (some (-1)) else (some t203)) = some r := H
  have A3 := Aside0.mk A30
  clear A30
  by_cases c4 : t203 < 0
  · rw [if_pos c4] at H
    have c4b0 : decide (t203 < 0) = true := decide_eq_true c4
    clear c4
    obtain rfl := Option.some.inj H
    go_enter Try.func27, Try.ntmps27
    go_wp2_with (first | ((with_reducible refine gate_dst (N := 2) rfl ?_); refine box_event ?hg (N := 2) ?hd (cs := #[.bool a0_0, .slice A0_1 l0_1.length c0_1]) (t := 27) ?hr ?_; (case hd => rfl); (case hg => rfl); (case hr => first | (go_simp; done) | (go_simp; rfl)); intro gb202 hg w5 hbox hb; have n0_ := Aside0.mk (below_step zb hb); have n1_ := Aside0.mk (hbox); have n2_ := Aside0.mk ((by rw [hg]; exact (below_size zb) : w.heap.size ≤ gb202)); have n3_ := Aside0.mk ((by rw [hg]; exact (below_size zb) : w.heap.size ≤ gb202)); clear HB; have HB := n0_; have BK202 := n1_; have GW202 := n2_; have GE202 := n3_; clear n0_ n1_ n2_ n3_; clear hb hbox hg; have hcz6_0 : w5.cell? ⟨gb202, 0, none⟩ = some (.bool a0_0) := (blk_cell BK202.out 0).trans rfl; have hcz6_1 : w5.cell? ⟨gb202, 1, none⟩ = some (.slice A0_1 l0_1.length c0_1) := (blk_cell BK202.out 1).trans rfl; have hfz6_0 := blk_frozen BK202.out 0; have hfz6_1 := blk_frozen BK202.out 1) | ((with_reducible refine gate_callee (f := 58) rfl ?_); refine goesL_ (some 8) rfl rfl Try.func58 (by kernel_rfl) rfl #[.slice A0_1 l0_1.length c0_1, .int .i64 a1] rfl za ?_; (with_reducible refine (laws_heldIntS.calls k _ _ l0_1 a1 t203 _ ?side1 ?side2 A3.out).mono ?_); (case side1 => repeat (first | exact (Kd.C_below HR0_1.out HB.out) | (with_reducible refine Kd.C_alloc ?_ _) | (with_reducible refine Kd.C_drewN ?_ _) | (with_reducible refine Kd.C_drew ?_))); (case side2 => exact HC0_1.out); rintro e w' ⟨rfl, ⟨nd, rfl⟩⟩; refine ⟨_, rfl, ?_⟩))
    go_ret
    exact ⟨by first | rfl | (simp [errW_none, errW_some] <;> rfl) | (simp [*, errW_none, errW_some] <;> rfl), zb⟩
  · rw [if_neg c4] at H
    have c4b0 : decide (t203 < 0) = false := decide_eq_false c4
    clear c4
    obtain rfl := Option.some.inj H
    go_enter Try.func27, Try.ntmps27
    go_wp2_with (first | ((with_reducible refine gate_dst (N := 2) rfl ?_); refine box_event ?hg (N := 2) ?hd (cs := #[.bool a0_0, .slice A0_1 l0_1.length c0_1]) (t := 27) ?hr ?_; (case hd => rfl); (case hg => rfl); (case hr => first | (go_simp; done) | (go_simp; rfl)); intro gb202 hg w7 hbox hb; have n0_ := Aside0.mk (below_step zb hb); have n1_ := Aside0.mk (hbox); have n2_ := Aside0.mk ((by rw [hg]; exact (below_size zb) : w.heap.size ≤ gb202)); have n3_ := Aside0.mk ((by rw [hg]; exact (below_size zb) : w.heap.size ≤ gb202)); clear HB; have HB := n0_; have BK202 := n1_; have GW202 := n2_; have GE202 := n3_; clear n0_ n1_ n2_ n3_; clear hb hbox hg; have hcz8_0 : w7.cell? ⟨gb202, 0, none⟩ = some (.bool a0_0) := (blk_cell BK202.out 0).trans rfl; have hcz8_1 : w7.cell? ⟨gb202, 1, none⟩ = some (.slice A0_1 l0_1.length c0_1) := (blk_cell BK202.out 1).trans rfl; have hfz8_0 := blk_frozen BK202.out 0; have hfz8_1 := blk_frozen BK202.out 1) | ((with_reducible refine gate_callee (f := 58) rfl ?_); refine goesL_ (some 8) rfl rfl Try.func58 (by kernel_rfl) rfl #[.slice A0_1 l0_1.length c0_1, .int .i64 a1] rfl za ?_; (with_reducible refine (laws_heldIntS.calls k _ _ l0_1 a1 t203 _ ?side1 ?side2 A3.out).mono ?_); (case side1 => repeat (first | exact (Kd.C_below HR0_1.out HB.out) | (with_reducible refine Kd.C_alloc ?_ _) | (with_reducible refine Kd.C_drewN ?_ _) | (with_reducible refine Kd.C_drew ?_))); (case side2 => exact HC0_1.out); rintro e w' ⟨rfl, ⟨nd, rfl⟩⟩; refine ⟨_, rfl, ?_⟩))
    go_ret
    exact ⟨by first | rfl | (simp [errW_none, errW_some] <;> rfl) | (simp [*, errW_none, errW_some] <;> rfl), zb⟩
end Go.Proofs.Ytdemeoncjcbojaa.Pr
end
section
namespace Go.Proofs.Ytdemeoncjcbojaa.Pw
open Go.Proofs.Ytdemeoncjcbojaa.Pr Go.Proofs.Ytdemeoncjcbojaa.RWs Go.RowKit Go.Proofs.YtdemeoncjcbojaaW.PrintWords Go.Proofs.YtdemeoncjcbojaaW.PrintLast Go.Proofs.Ytdemeoncjcbojaa.Ext Go.Proofs.YtdemeoncjcbojaaW.PrintMore
attribute [local go_sem] max2_int min2_int max_two min_two max_three min_three max_four min_four
set_option linter.unusedVariables false
set_option linter.unusedSimpArgs false
set_option maxHeartbeats 8000000 in
set_option maxRecDepth 100000 in
theorem impl_big.calls (k : Nat) (a0 : Bool) (A1 : Option Addr) (c1 : Nat) (l1 : List Int) (r1 : Bool) (r2 : List Int) (r3 : Bool) (w : World) (hr1 : Kd.C (Kd.int .i64) w A1 l1.length l1) (hc1 : l1.length ≤ c1) (h : impl_big.f k a0 l1 = some (r1, r2, r3)) :
    Calls Try.prog 55 #[.bool a0, .slice A1 l1.length c1] w fun e w' => ∃ v1_ : Value, e = .returned (.tuple #[.agg #[.bool r1, v1_], .bool r3]) ∧ Kd.RW (Kd.int .i64) 3 w' w.heap.size (fun _ => True) v1_ r2 ∧ Below w.heap.size w w' := by
  have hu27 := Try.underlying27
  have HR1 := Aside0.mk hr1
  have HC1 := Aside0.mk hc1
  clear hr1 hc1
  have HB := Aside0.mk (Below.refl w.heap.size w)
  have H : ((impl_limbs_trim.f k l1).bind fun t166 => (if (t166.length : Int) > 16 then (some (false, ([] : List Int), false)) else (if a0 = true then ((impl_clone_int.f t166).bind fun t169 => (some (decide (0 < t166.length), t169, true))) else ((impl_clone_int.f t166).bind fun t172 => (some (false, t172, true)))))) = some (r1, r2, r3) := h
  clear h
  replace H := Option.bind_eq_some_iff.mp H
  obtain ⟨t166, A30, H⟩ := H
  replace H : (if (t166.length : Int) > 16 then (some (false, ([] : List Int), false)) else (if a0 = true then ((impl_clone_int.f t166).bind fun t169 => (some (decide (0 < t166.length), t169, true))) else ((impl_clone_int.f t166).bind fun t172 => (some (false, t172, true))))) = some (r1, r2, r3) := H
  have A3 := Aside0.mk A30
  clear A30
  by_cases c4 : (t166.length : Int) > 16
  · rw [if_pos c4] at H
    have c4b0 : decide (16 < (t166.length : Int)) = true := decide_eq_true c4
    have c4b1 : decide (16 < t166.length) = true := decide_eq_true (by omega)
    clear c4
    simp only [Option.some.injEq, Prod.mk.injEq] at H
    obtain ⟨rfl, rfl, rfl⟩ := H
    go_enter Try.func55, Try.ntmps55
    go_wp2_with (first | ((with_reducible refine gate_dst (N := 4) rfl ?_); (try (refine gate_guard (by rfl) ?_; dsimp only)); refine box_event ?hg (N := 4) ?hd (cs := #[.bool false, .slice none 0 0]) (t := 27) ?hr ?_; (case hd => rfl); (case hg => rfl); (case hr => first | (go_simp; done) | (go_simp; rfl)); intro gb165 hg w5 hbox hb; have n0_ := Aside0.mk (below_step zb hb); have n1_ := Aside0.mk (hbox); have n2_ := Aside0.mk ((by rw [hg]; exact (below_size zb) : w.heap.size ≤ gb165)); have n3_ := Aside0.mk ((by rw [hg]; exact (below_size zb) : w.heap.size ≤ gb165)); clear HB; have HB := n0_; have BK165 := n1_; have GW165 := n2_; have GE165 := n3_; clear n0_ n1_ n2_ n3_; clear hb hbox hg) | ((with_reducible refine gate_callee (f := 82) rfl ?_); refine goesL_ (some 7) rfl rfl Try.func82 (by kernel_rfl) rfl #[.slice A1 l1.length c1] rfl za ?_; (with_reducible refine (impl_limbs_trim.calls k (fun k_ => k_ < w.heap.size) _ _ l1 t166 _ ?side1 A3.out).mono ?_); (case side1 => exact Kd.V_mk HC1.out (Kd.F_below (Kd.C_F (Kd.heap_int .i64) HR1.out) zb)); rintro e w6 ⟨v167, rfl, ho0, hb⟩; refine ⟨_, rfl, ?_⟩; have n0_ := Aside0.mk (Kd.V_lower (Kd.V_mono (ok' := fun k_ => k_ ≠ gb165) ho0 (fun k_ hk_ => Or.elim hk_ (fun hs_ => fun e_ => Nat.not_le.2 hs_ (by rw [e_]; exact GW165.out)) (fun hn_ => (Kd.freshB (g := gb165) (o := .cells #[.bool false, .slice none 0 0] 27 (0, 0)) (zk BK165.out) k_ hn_)))) (below_size zb)); have n1_ := Aside0.mk (blk_below (g := gb165) (o := .cells #[.bool false, .slice none 0 0] 27 (0, 0)) (zk BK165.out) hb); have n2_ := Aside0.mk (below_step zb hb); clear BK165; clear HB; have HO168 := n0_; have BK165 := n1_; have HB := n2_; clear n0_ n1_ n2_; (try clear hb); (try clear hb2); (try clear hk); (try clear hi); (try clear ho0); obtain ⟨Ao7, co7, eo7⟩ := Kd.V_slice HO168.out; subst eo7; have hcz8_0 : w6.cell? ⟨gb165, 0, none⟩ = some (.bool false) := (blk_cell BK165.out 0).trans rfl; have hcz8_1 : w6.cell? ⟨gb165, 1, none⟩ = some (.slice none 0 0) := (blk_cell BK165.out 1).trans rfl; have hfz8_0 := blk_frozen BK165.out 0; have hfz8_1 := blk_frozen BK165.out 1))
    refine bodyPost_ret (results_ct rfl _ _ gb165 27 #[.bool false, .slice none 0 0] (0, 0) _ rfl (by (with_reducible repeat (first | refine blk_drewN ?_ _ | refine blk_drew ?_ | refine blk_alloc ?_ _)); refine blk_put (cs := #[.bool false, .slice none 0 0]) ?_ 1 _ rfl; (with_reducible repeat (first | refine blk_drewN ?_ _ | refine blk_drew ?_ | refine blk_alloc ?_ _)); refine blk_put (cs := #[.bool false, .slice none 0 0]) ?_ 0 _ rfl; (with_reducible repeat (first | refine blk_drewN ?_ _ | refine blk_drew ?_ | refine blk_alloc ?_ _)); exact BK165.out) Try.underlying27 rfl (by kernel_rfl)) rfl ?_
    exact ⟨_, by first | rfl | (simp [errW_none, errW_some] <;> rfl) | (simp [*, errW_none, errW_some] <;> rfl), by first | exact Kd.RW_nil _ _ _ _ _ | exact Kd.N_nil _ _ _ _ _ | exact Kd.V_nil _ _ _ _ _ | exact Kd.Q_nil _ _ _ _ _ | exact Kd.S_nil _ _ _ _ _, zb⟩
  · rw [if_neg c4] at H
    have c4b0 : decide (16 < (t166.length : Int)) = false := decide_eq_false c4
    have c4b1 : decide (16 < t166.length) = false := decide_eq_false (by omega)
    clear c4
    by_cases c9 : a0 = true
    · subst c9
      have H1 : ((impl_clone_int.f t166).bind fun t169 => (some (decide (0 < t166.length), t169, true))) = some (r1, r2, r3) := by rw [if_pos rfl] at H; exact H
      clear H
      have H := H1
      clear H1
      replace H := Option.bind_eq_some_iff.mp H
      obtain ⟨t169, A100, H⟩ := H
      replace H : (some (decide (0 < t166.length), t169, true)) = some (r1, r2, r3) := H
      have A10 := Aside0.mk A100
      clear A100
      simp only [Option.some.injEq, Prod.mk.injEq] at H
      obtain ⟨rfl, rfl, rfl⟩ := H
      go_enter Try.func55, Try.ntmps55
      go_wp2_with (first | ((with_reducible refine gate_dst (N := 4) rfl ?_); (try (refine gate_guard (by rfl) ?_; dsimp only)); refine box_event ?hg (N := 4) ?hd (cs := #[.bool false, .slice none 0 0]) (t := 27) ?hr ?_; (case hd => rfl); (case hg => rfl); (case hr => first | (go_simp; done) | (go_simp; rfl)); intro gb165 hg w11 hbox hb; have n0_ := Aside0.mk (below_step zb hb); have n1_ := Aside0.mk (hbox); have n2_ := Aside0.mk ((by rw [hg]; exact (below_size zb) : w.heap.size ≤ gb165)); have n3_ := Aside0.mk ((by rw [hg]; exact (below_size zb) : w.heap.size ≤ gb165)); clear HB; have HB := n0_; have BK165 := n1_; have GW165 := n2_; have GE165 := n3_; clear n0_ n1_ n2_ n3_; clear hb hbox hg) | ((with_reducible refine gate_callee (f := 82) rfl ?_); refine goesL_ (some 7) rfl rfl Try.func82 (by kernel_rfl) rfl #[.slice A1 l1.length c1] rfl za ?_; (with_reducible refine (impl_limbs_trim.calls k (fun k_ => k_ < w.heap.size) _ _ l1 t166 _ ?side1 A3.out).mono ?_); (case side1 => exact Kd.V_mk HC1.out (Kd.F_below (Kd.C_F (Kd.heap_int .i64) HR1.out) zb)); rintro e w12 ⟨v167, rfl, ho0, hb⟩; refine ⟨_, rfl, ?_⟩; have n0_ := Aside0.mk (Kd.V_lower (Kd.V_mono (ok' := fun k_ => k_ ≠ gb165) ho0 (fun k_ hk_ => Or.elim hk_ (fun hs_ => fun e_ => Nat.not_le.2 hs_ (by rw [e_]; exact GW165.out)) (fun hn_ => (Kd.freshB (g := gb165) (o := .cells #[.bool false, .slice none 0 0] 27 (0, 0)) (zk BK165.out) k_ hn_)))) (below_size zb)); have n1_ := Aside0.mk (blk_below (g := gb165) (o := .cells #[.bool false, .slice none 0 0] 27 (0, 0)) (zk BK165.out) hb); have n2_ := Aside0.mk (below_step zb hb); clear BK165; clear HB; have HO168 := n0_; have BK165 := n1_; have HB := n2_; clear n0_ n1_ n2_; (try clear hb); (try clear hb2); (try clear hk); (try clear hi); (try clear ho0); obtain ⟨Ao13, co13, eo13⟩ := Kd.V_slice HO168.out; subst eo13) | ((with_reducible refine gate_callee (f := 83) rfl ?_); refine goesL_ (some 19) rfl rfl Try.func83 (by kernel_rfl) rfl #[.slice Ao13 t166.length co13] rfl za ?_; (with_reducible refine (impl_clone_int.calls _ _ t166 t169 _ ?side1 ?side2 A10.out).mono ?_); (case side1 => repeat (first | exact (Kd.V_reads' HO168.out).2.2 | (with_reducible refine Kd.C_alloc ?_ _) | (with_reducible refine Kd.C_drewN ?_ _) | (with_reducible refine Kd.C_drew ?_))); (case side2 => exact (Kd.V_reads' HO168.out).2.1); rintro e w14 ⟨v170, rfl, ho0, hb⟩; refine ⟨_, rfl, ?_⟩; have n0_ := Aside0.mk (Kd.V_elder' (zV HO168.out) (Kd.RW_base ho0) hb); have n1_ := Aside0.mk (Kd.RW_lower ho0 (below_size zb)); have n2_ := Aside0.mk (blk_below (g := gb165) (o := .cells #[.bool false, .slice none 0 0] 27 (0, 0)) (zk BK165.out) hb); have n3_ := Aside0.mk (below_step zb hb); clear HO168; clear BK165; clear HB; have HO168 := n0_; have HO171 := n1_; have BK165 := n2_; have HB := n3_; clear n0_ n1_ n2_ n3_; (try clear hb); (try clear hb2); (try clear hk); (try clear hi); (try clear ho0); obtain ⟨Ao15, co15, eo15⟩ := Kd.RW_slice HO171.out; subst eo15; have hcz16_0 : w14.cell? ⟨gb165, 0, none⟩ = some (.bool false) := (blk_cell BK165.out 0).trans rfl; have hcz16_1 : w14.cell? ⟨gb165, 1, none⟩ = some (.slice none 0 0) := (blk_cell BK165.out 1).trans rfl; have hfz16_0 := blk_frozen BK165.out 0; have hfz16_1 := blk_frozen BK165.out 1))
      refine bodyPost_ret (results_ct rfl _ _ gb165 27 #[.bool (decide (0 < t166.length)), .slice Ao15 t169.length co15] (0, 0) _ rfl (by (with_reducible repeat (first | refine blk_drewN ?_ _ | refine blk_drew ?_ | refine blk_alloc ?_ _)); refine blk_put (cs := #[.bool (decide (0 < t166.length)), .slice none 0 0]) ?_ 1 _ rfl; (with_reducible repeat (first | refine blk_drewN ?_ _ | refine blk_drew ?_ | refine blk_alloc ?_ _)); refine blk_put (cs := #[.bool false, .slice none 0 0]) ?_ 0 _ rfl; (with_reducible repeat (first | refine blk_drewN ?_ _ | refine blk_drew ?_ | refine blk_alloc ?_ _)); exact BK165.out) Try.underlying27 rfl (by kernel_rfl)) rfl ?_
      exact ⟨_, by first | rfl | (simp [errW_none, errW_some] <;> rfl) | (simp [*, errW_none, errW_some] <;> rfl), by (with_reducible repeat (first | apply Kd.RW_alloc | apply Kd.RW_drewN | apply Kd.RW_drew)); exact Kd.RW_mono (Kd.RW_far (p := ⟨gb165, 1, none⟩) (Kd.RW_far (p := ⟨gb165, 0, none⟩) (Kd.RW_types HO171.out BK165.out (by decide)) (fun _ hk => hk.2) (.bool (decide (0 < t166.length)))) (fun _ hk => hk.2) (.slice Ao15 t169.length co15)) (fun _ hk => trivial), zb⟩
    · replace c9 := Bool.eq_false_iff.mpr c9
      subst c9
      have H1 : ((impl_clone_int.f t166).bind fun t172 => (some (false, t172, true))) = some (r1, r2, r3) := by rw [if_neg (show ¬ (false = true) by decide)] at H; exact H
      clear H
      have H := H1
      clear H1
      replace H := Option.bind_eq_some_iff.mp H
      obtain ⟨t172, A170, H⟩ := H
      replace H : (some (false, t172, true)) = some (r1, r2, r3) := H
      have A17 := Aside0.mk A170
      clear A170
      simp only [Option.some.injEq, Prod.mk.injEq] at H
      obtain ⟨rfl, rfl, rfl⟩ := H
      go_enter Try.func55, Try.ntmps55
      go_wp2_with (first | ((with_reducible refine gate_dst (N := 4) rfl ?_); (try (refine gate_guard (by rfl) ?_; dsimp only)); refine box_event ?hg (N := 4) ?hd (cs := #[.bool false, .slice none 0 0]) (t := 27) ?hr ?_; (case hd => rfl); (case hg => rfl); (case hr => first | (go_simp; done) | (go_simp; rfl)); intro gb165 hg w18 hbox hb; have n0_ := Aside0.mk (below_step zb hb); have n1_ := Aside0.mk (hbox); have n2_ := Aside0.mk ((by rw [hg]; exact (below_size zb) : w.heap.size ≤ gb165)); have n3_ := Aside0.mk ((by rw [hg]; exact (below_size zb) : w.heap.size ≤ gb165)); clear HB; have HB := n0_; have BK165 := n1_; have GW165 := n2_; have GE165 := n3_; clear n0_ n1_ n2_ n3_; clear hb hbox hg) | ((with_reducible refine gate_callee (f := 82) rfl ?_); refine goesL_ (some 7) rfl rfl Try.func82 (by kernel_rfl) rfl #[.slice A1 l1.length c1] rfl za ?_; (with_reducible refine (impl_limbs_trim.calls k (fun k_ => k_ < w.heap.size) _ _ l1 t166 _ ?side1 A3.out).mono ?_); (case side1 => exact Kd.V_mk HC1.out (Kd.F_below (Kd.C_F (Kd.heap_int .i64) HR1.out) zb)); rintro e w19 ⟨v167, rfl, ho0, hb⟩; refine ⟨_, rfl, ?_⟩; have n0_ := Aside0.mk (Kd.V_lower (Kd.V_mono (ok' := fun k_ => k_ ≠ gb165) ho0 (fun k_ hk_ => Or.elim hk_ (fun hs_ => fun e_ => Nat.not_le.2 hs_ (by rw [e_]; exact GW165.out)) (fun hn_ => (Kd.freshB (g := gb165) (o := .cells #[.bool false, .slice none 0 0] 27 (0, 0)) (zk BK165.out) k_ hn_)))) (below_size zb)); have n1_ := Aside0.mk (blk_below (g := gb165) (o := .cells #[.bool false, .slice none 0 0] 27 (0, 0)) (zk BK165.out) hb); have n2_ := Aside0.mk (below_step zb hb); clear BK165; clear HB; have HO168 := n0_; have BK165 := n1_; have HB := n2_; clear n0_ n1_ n2_; (try clear hb); (try clear hb2); (try clear hk); (try clear hi); (try clear ho0); obtain ⟨Ao20, co20, eo20⟩ := Kd.V_slice HO168.out; subst eo20) | ((with_reducible refine gate_callee (f := 83) rfl ?_); refine goesL_ (some 19) rfl rfl Try.func83 (by kernel_rfl) rfl #[.slice Ao20 t166.length co20] rfl za ?_; (with_reducible refine (impl_clone_int.calls _ _ t166 t172 _ ?side1 ?side2 A17.out).mono ?_); (case side1 => repeat (first | exact (Kd.V_reads' HO168.out).2.2 | (with_reducible refine Kd.C_alloc ?_ _) | (with_reducible refine Kd.C_drewN ?_ _) | (with_reducible refine Kd.C_drew ?_))); (case side2 => exact (Kd.V_reads' HO168.out).2.1); rintro e w21 ⟨v173, rfl, ho0, hb⟩; refine ⟨_, rfl, ?_⟩; have n0_ := Aside0.mk (Kd.V_elder' (zV HO168.out) (Kd.RW_base ho0) hb); have n1_ := Aside0.mk (Kd.RW_lower ho0 (below_size zb)); have n2_ := Aside0.mk (blk_below (g := gb165) (o := .cells #[.bool false, .slice none 0 0] 27 (0, 0)) (zk BK165.out) hb); have n3_ := Aside0.mk (below_step zb hb); clear HO168; clear BK165; clear HB; have HO168 := n0_; have HO174 := n1_; have BK165 := n2_; have HB := n3_; clear n0_ n1_ n2_ n3_; (try clear hb); (try clear hb2); (try clear hk); (try clear hi); (try clear ho0); obtain ⟨Ao22, co22, eo22⟩ := Kd.RW_slice HO174.out; subst eo22; have hcz23_0 : w21.cell? ⟨gb165, 0, none⟩ = some (.bool false) := (blk_cell BK165.out 0).trans rfl; have hcz23_1 : w21.cell? ⟨gb165, 1, none⟩ = some (.slice none 0 0) := (blk_cell BK165.out 1).trans rfl; have hfz23_0 := blk_frozen BK165.out 0; have hfz23_1 := blk_frozen BK165.out 1))
      refine bodyPost_ret (results_ct rfl _ _ gb165 27 #[.bool false, .slice Ao22 t172.length co22] (0, 0) _ rfl (by (with_reducible repeat (first | refine blk_drewN ?_ _ | refine blk_drew ?_ | refine blk_alloc ?_ _)); refine blk_put (cs := #[.bool false, .slice none 0 0]) ?_ 1 _ rfl; (with_reducible repeat (first | refine blk_drewN ?_ _ | refine blk_drew ?_ | refine blk_alloc ?_ _)); refine blk_put (cs := #[.bool false, .slice none 0 0]) ?_ 0 _ rfl; (with_reducible repeat (first | refine blk_drewN ?_ _ | refine blk_drew ?_ | refine blk_alloc ?_ _)); exact BK165.out) Try.underlying27 rfl (by kernel_rfl)) rfl ?_
      exact ⟨_, by first | rfl | (simp [errW_none, errW_some] <;> rfl) | (simp [*, errW_none, errW_some] <;> rfl), by (with_reducible repeat (first | apply Kd.RW_alloc | apply Kd.RW_drewN | apply Kd.RW_drew)); exact Kd.RW_mono (Kd.RW_far (p := ⟨gb165, 1, none⟩) (Kd.RW_far (p := ⟨gb165, 0, none⟩) (Kd.RW_types HO174.out BK165.out (by decide)) (fun _ hk => hk.2) (.bool false)) (fun _ hk => hk.2) (.slice Ao22 t172.length co22)) (fun _ hk => trivial), zb⟩
set_option maxHeartbeats 8000000 in
set_option maxRecDepth 100000 in
theorem laws_markIntS.calls (k : Nat) (P0_ : Nat → Prop) (u9000_ : Value) (l0 : List Int) (a1 : Int) (r1 : Int) (r2 : List Int) (w0 w : World) (hB : Below w0.heap.size w0 w) (ho0 : Kd.RW (Kd.int .i64) 3 w w0.heap.size P0_ u9000_ l0) (h : laws_markIntS.f k l0 a1 = some (r1, r2)) :
    Calls Try.prog 57 #[u9000_, .int .i64 a1] w fun e w' => e = .returned (.int .i64 r1) ∧ Kd.RW (Kd.int .i64) 3 w' w0.heap.size (fun k_ => (P0_ k_ ∨ w.heap.size ≤ k_)) u9000_ r2 ∧ Below w0.heap.size w0 w' ∧ Kept w w' (fun k_ => P0_ k_) := by
  have HO0 := Aside0.mk (show Kd.RW (Kd.int .i64) 3 w w0.heap.size (fun k_ => (P0_ k_ ∨ w.heap.size ≤ k_)) u9000_ l0 from Kd.RW_mono ho0 (fun k_ hk => (.inl hk)))
  have HK := Aside0.mk (Kept.refl w (fun k_ => P0_ k_))
  have HW0 := Aside0.mk hB.size
  have HB := Aside0.mk hB
  clear hB
  have H : (laws_markIntS.l0 k l0 a1 0) = some (r1, r2) := h
  clear h
  have H' := Aside0.mk H
  clear H
  go_enter Try.func57, Try.ntmps57
  go_wp2
  go_loopg [1, 5] k (fun kq v1 v5 w' => ∃ (x0_1 : List Int) (x1_1 : Int) (x5_1 : Int), v1 = .int .i64 x1_1 ∧ v5 = .int .i64 x5_1 ∧ Aside0 (laws_markIntS.l0 kq x0_1 x1_1 x5_1 = some (r1, r2)) ∧ Aside0 (kq ≤ k) ∧ Aside0 (Kd.RW (Kd.int .i64) 3 w' w0.heap.size (fun k_ => (P0_ k_ ∨ w.heap.size ≤ k_)) u9000_ x0_1) ∧ Aside0 (Kept w w' (fun k_ => P0_ k_)) ∧ Aside0 (Below w0.heap.size w0 w'))
  case atStart => exact ⟨(l0), (a1), (0), (by first | rfl | (simp; done) | (simp [*]; done)), (by first | rfl | (simp; done) | (simp [*]; done)), H', ⟨Nat.le_refl _⟩, ⟨by (with_reducible repeat (first | apply Kd.RW_alloc | apply Kd.RW_drewN | apply Kd.RW_drew)); exact HO0.out⟩, ⟨by repeat (first | (with_reducible first | exact HK.out | apply Kept.alloc | apply Kept.drewN | apply Kept.drew) | exact HK.out)⟩, ⟨zb⟩⟩
  case round =>
    clear H'
    try clear p2
    obtain ⟨x0_1, x1_1, x5_1, rfl, rfl, HA, HK1, HO_0, HK, HB⟩ := hrel
    cases gk with
    | zero => exact absurd HA.out (by simp [laws_markIntS.l0])
    | succ k1 =>
      have H := HA.out
      clear HA
      simp only [laws_markIntS.l0] at H
      by_cases c3 : x5_1 < (x0_1.length : Int)
      · rw [if_pos c3] at H
        have c3b0 : decide (x5_1 < (x0_1.length : Int)) = true := decide_eq_true c3
        clear c3
        by_cases c4 : 0 ≤ x5_1
        · rw [if_pos c4] at H
          have c4b0 : decide (0 ≤ x5_1) = true := decide_eq_true c4
          clear c4
          obtain ⟨y197, hy197⟩ : ∃ y_ : List Int, y_ = (x0_1.set (x5_1 : Int).toNat x1_1) := ⟨_, rfl⟩
          replace H : (laws_markIntS.l0 k1 y197 (wrap64 (x1_1 + 1)) (wrap64 (x5_1 + 1))) = some (r1, r2) := by first | (rw [hy197]; with_reducible exact H) | (have H2_ := (Option.bind_some _ _).symm.trans H; rw [hy197]; with_reducible exact H2_) | (have H2_ := (Option.bind_some _ _).symm.trans H; with_reducible exact H2_) | with_reducible exact H | (rw [hy197]; exact H) | exact H
          have Ny197 := Aside0.mk hy197
          clear hy197
          have H' := Aside0.mk H
          clear H
          obtain ⟨Ao6, co6, eo6⟩ := Kd.RW_slice HO_0.out
          subst eo6
          have p5 : 0 ≤ (x5_1 : Int) := of_decide_eq_true (by first | (with_reducible assumption) | assumption)
          have q5 : (x5_1 : Int) < ((x0_1.length : Int) : Int) := of_decide_eq_true (by first | (with_reducible assumption) | assumption)
          obtain ⟨go5, co5, eo5, gb5, gl5, cl5, HG5⟩ := Kd.RW_form HO_0.out (by omega)
          (first | cases eo5 | (injection eo5 with ea_ en_ ec_; (first | subst ea_ | (injection ea_ with ea_; subst ea_)); subst ec_; clear en_))
          have GB5 := Aside0.mk gb5
          have GG5 := Aside0.mk HG5
          clear gb5 gl5 HG5
          have HMgo5 := Aside0.mk (show (P0_ go5 ∨ w.heap.size ≤ go5) from (HO_0.out.1 _ rfl))
          obtain ⟨hx5_0, hf5_0⟩ := Kd.RW_celln 0 HO_0.out (x5_1 : Int) p5 q5
          replace p5 := eq_true p5
          replace q5 := eq_true q5
          have HP7 := Kd.RW_putg HO_0.out (x5_1 : Int) x1_1
          go_wp2_with (first | ((with_reducible refine gate_store (t := 3) (p := 15) rfl ?_); refine store_event (t := 3) (p := 15) (v := ?vo_w8) (w1 := (wr.setCell ⟨go5, (x5_1 : Int).toNat, none⟩ (.int .i64 x1_1))) ?hg ?ho ?hn ?hr ?_; (case ho => rfl); (case hg => rfl); (case hn => rfl); (case hr => first | (go_simp; done) | (go_simp; rfl)); intro w8 hw; have hg : wr.grownBy w8 (some go5) := (by rw [hw]; exact HP7.2); have hp_ : Kd.RW (Kd.int .i64) 3 w8 w0.heap.size (fun k_ => (P0_ k_ ∨ w.heap.size ≤ k_)) (.slice (some ⟨go5, 0, none⟩) x0_1.length co6) y197 := (by rw [hw, Ny197.out]; exact HP7.1); clear HP7; have n0_ := Aside0.mk (hp_); have n1_ := Aside0.mk ((by rw [hw]; exact below_set (HB.out) GB5.out : Below w0.heap.size w0 w8)); have n2_ := Aside0.mk (Kept.of_grown (S := (fun k_ => P0_ k_)) hg (by repeat (first | (with_reducible first | exact HK.out | apply Kept.alloc | apply Kept.drewN | apply Kept.drew) | exact HK.out)) (fun k_ e_ => (HO_0.out.1 k_ e_))); clear HO_0; clear HB; clear HK; have HO_0 := n0_; have HB := n1_; have HK := n2_; clear n0_ n1_ n2_; clear hg hw hp_))
          go_roundg k1
          case measure => have := HK1.out; omega
          case rel => exact ⟨(y197), (wrap64 (x1_1 + 1)), (wrap64 (x5_1 + 1)), (by first | rfl | (simp; done) | (simp [*]; done)), (by first | rfl | (simp; done) | (simp [*]; done)), H', ⟨by have := HK1.out; omega⟩, ⟨by (with_reducible repeat (first | apply Kd.RW_alloc | apply Kd.RW_drewN | apply Kd.RW_drew)); exact HO_0.out⟩, ⟨by repeat (first | (with_reducible first | exact HK.out | apply Kept.alloc | apply Kept.drewN | apply Kept.drew) | exact HK.out)⟩, ⟨zb⟩⟩
        · rw [if_neg c4] at H
          exact absurd H (by simp)
      · rw [if_neg c3] at H
        have c3b0 : decide (x5_1 < (x0_1.length : Int)) = false := decide_eq_false c3
        clear c3
        simp only [Option.some.injEq, Prod.mk.injEq] at H
        obtain ⟨rfl, rfl⟩ := H
        obtain ⟨Ao9, co9, eo9⟩ := Kd.RW_slice HO_0.out
        subst eo9
        go_wp2
        go_ret
        exact ⟨by first | rfl | (simp [errW_none, errW_some] <;> rfl) | (simp [*, errW_none, errW_some] <;> rfl), by (with_reducible repeat (first | apply Kd.RW_alloc | apply Kd.RW_drewN | apply Kd.RW_drew)); exact HO_0.out, zb, by repeat (first | (with_reducible first | exact HK.out | apply Kept.alloc | apply Kept.drewN | apply Kept.drew) | exact HK.out)⟩
set_option maxHeartbeats 8000000 in
set_option maxRecDepth 100000 in
theorem laws_markBig.calls (k : Nat) (a0_0 : Bool) (P0_1_ : Nat → Prop) (u9000_ : Value) (l0_1 : List Int) (a1 : Int) (r1 : Int) (r2 : List Int) (w0 w : World) (hB : Below w0.heap.size w0 w) (ho0_1 : Kd.RW (Kd.int .i64) 3 w w0.heap.size P0_1_ u9000_ l0_1) (h : laws_markBig.f k a0_0 l0_1 a1 = some (r1, r2)) :
    Calls Try.prog 26 #[.agg #[.bool a0_0, u9000_], .int .i64 a1] w fun e w' => e = .returned (.int .i64 r1) ∧ Kd.RW (Kd.int .i64) 3 w' w0.heap.size (fun k_ => (P0_1_ k_ ∨ w.heap.size ≤ k_)) u9000_ r2 ∧ Below w0.heap.size w0 w' ∧ Kept w w' (fun k_ => P0_1_ k_) := by
  have hu27 := Try.underlying27
  have HO0_1 := Aside0.mk (show Kd.RW (Kd.int .i64) 3 w w0.heap.size (fun k_ => (P0_1_ k_ ∨ w.heap.size ≤ k_)) u9000_ l0_1 from Kd.RW_mono ho0_1 (fun k_ hk => (.inl hk)))
  have HK := Aside0.mk (Kept.refl w (fun k_ => P0_1_ k_))
  have HW0 := Aside0.mk hB.size
  have HB := Aside0.mk hB
  clear hB
  have H : ((laws_markIntS.f k l0_1 a1).bind fun bt199 => (some (bt199.1, bt199.2))) = some (r1, r2) := h
  clear h
  replace H := Option.bind_eq_some_iff.mp H
  obtain ⟨⟨t199, t200⟩, A30, H⟩ := H
  replace H : (some (t199, t200)) = some (r1, r2) := H
  have A3 := Aside0.mk A30
  clear A30
  simp only [Option.some.injEq, Prod.mk.injEq] at H
  obtain ⟨rfl, rfl⟩ := H
  obtain ⟨Ao4, co4, eo4⟩ := Kd.RW_slice HO0_1.out
  subst eo4
  go_enter Try.func26, Try.ntmps26
  go_wp2_with (first | ((with_reducible refine gate_dst (N := 2) rfl ?_); refine box_event ?hg (N := 2) ?hd (cs := #[.bool a0_0, .slice Ao4 l0_1.length co4]) (t := 27) ?hr ?_; (case hd => rfl); (case hg => rfl); (case hr => first | (go_simp; done) | (go_simp; rfl)); intro gb198 hg w5 hbox hb; have n0_ := Aside0.mk (Kd.RW_below (zRW HO0_1.out) hb); have n1_ := Aside0.mk (Kept.below (S := (fun k_ => P0_1_ k_)) (by repeat (first | (with_reducible first | exact HK.out | apply Kept.alloc | apply Kept.drewN | apply Kept.drew) | exact HK.out)) hb); have n2_ := Aside0.mk (below_step zb hb); have n3_ := Aside0.mk (hbox); have n4_ := Aside0.mk ((by rw [hg]; exact (by first | exact HK.out.1 | exact (show Kept w _ (fun k_ => P0_1_ k_) from by repeat (first | (with_reducible first | exact HK.out | apply Kept.alloc | apply Kept.drewN | apply Kept.drew) | exact HK.out)).1) : w.heap.size ≤ gb198)); have n5_ := Aside0.mk ((by rw [hg]; exact (below_size zb) : w0.heap.size ≤ gb198)); clear HO0_1; clear HK; clear HB; have HO0_1 := n0_; have HK := n1_; have HB := n2_; have BK198 := n3_; have GW198 := n4_; have GE198 := n5_; clear n0_ n1_ n2_ n3_ n4_ n5_; clear hb hbox hg; have hcz6_0 : w5.cell? ⟨gb198, 0, none⟩ = some (.bool a0_0) := (blk_cell BK198.out 0).trans rfl; have hcz6_1 : w5.cell? ⟨gb198, 1, none⟩ = some (.slice Ao4 l0_1.length co4) := (blk_cell BK198.out 1).trans rfl; have hfz6_0 := blk_frozen BK198.out 0; have hfz6_1 := blk_frozen BK198.out 1) | ((with_reducible refine gate_callee (f := 57) rfl ?_); refine goesL_ (some 8) rfl rfl Try.func57 (by kernel_rfl) rfl #[.slice Ao4 l0_1.length co4, .int .i64 a1] rfl za ?_; (with_reducible refine (laws_markIntS.calls k (fun k_ => some k_ = (.slice Ao4 l0_1.length co4 : Value).ownBlock) (.slice Ao4 l0_1.length co4) l0_1 a1 t199 t200 w0 _ ?side1 ?side2 A3.out).mono ?_); (case side1 => repeat (first | (with_reducible first | exact HB.out | apply below_alloc | apply pw_below_drewN | apply below_drew1 | refine below_set ?_ GE198.out) | exact HB.out)); (case side2 => exact Kd.RW_tight rfl HO0_1.out); rintro e w7 ⟨rfl, hy0, hb, hkp⟩; refine ⟨_, rfl, ?_⟩; have n0_ := Aside0.mk (Kd.RW_reok rfl hy0 (fun k_ e_ => HO0_1.out.1 k_ e_)); have n1_ := Aside0.mk (blk_kept (zk BK198.out) hkp (fun hs_ => (fun e_ => (Kd.RW_ne HO0_1.out BK198.out (by decide)) e_) hs_)); have n2_ := Aside0.mk (Kept.then_ (S := (fun k_ => P0_1_ k_)) (by repeat (first | (with_reducible first | exact HK.out | apply Kept.alloc | apply Kept.drewN | apply Kept.drew | refine Kept.setCell ?_ (.inr GW198.out) _) | exact HK.out)) hkp (fun k_ hs_ => (fun e_ => (HO0_1.out.1 k_ e_.symm)) hs_)); have n3_ := Aside0.mk (hb); clear HO0_1; clear BK198; clear HK; clear HB; have HO0_1 := n0_; have BK198 := n1_; have HK := n2_; have HB := n3_; clear n0_ n1_ n2_ n3_; (try clear hb); (try clear hkp); (try clear hy0)))
  go_ret
  exact ⟨by first | rfl | (simp [errW_none, errW_some] <;> rfl) | (simp [*, errW_none, errW_some] <;> rfl), by (with_reducible repeat (first | apply Kd.RW_alloc | apply Kd.RW_drewN | apply Kd.RW_drew)); exact HO0_1.out, zb, by repeat (first | (with_reducible first | exact HK.out | apply Kept.alloc | apply Kept.drewN | apply Kept.drew | refine Kept.setCell ?_ (.inr GW198.out) _) | exact HK.out)⟩
end Go.Proofs.Ytdemeoncjcbojaa.Pw
end
section
namespace Go.Proofs.Ytdemeoncjcbojaa.Pr
open Go.RowKit Go.Proofs.YtdemeoncjcbojaaW.PrintWords Go.Proofs.YtdemeoncjcbojaaW.PrintLast Go.Proofs.Ytdemeoncjcbojaa.Ext Go.Proofs.YtdemeoncjcbojaaW.PrintMore
attribute [local go_sem] max2_int min2_int max_two min_two max_three min_three max_four min_four
set_option linter.unusedVariables false
set_option linter.unusedSimpArgs false
def impl_BigOk.f (a0_0 : Bool) (l0_1 : List Int) : Option (Bool) := if (l0_1.length : Int) ≤ 16 then (if (l0_1.length : Int) = 0 then (if a0_0 = true then (if (l0_1.length : Int) > 0 then (if 0 ≤ (wrap64 ((l0_1.length : Int) - 1)) then (if (wrap64 ((l0_1.length : Int) - 1)) < (l0_1.length : Int) then (if (rd l0_1 (wrap64 ((l0_1.length : Int) - 1))) = 0 then (some false) else ((containsBad.f l0_1).bind fun t122 => (some (!t122)))) else (none)) else (none)) else (some false)) else ((containsBad.f l0_1).bind fun t123 => (some (!t123)))) else (if (l0_1.length : Int) > 0 then (if 0 ≤ (wrap64 ((l0_1.length : Int) - 1)) then (if (wrap64 ((l0_1.length : Int) - 1)) < (l0_1.length : Int) then (if (rd l0_1 (wrap64 ((l0_1.length : Int) - 1))) = 0 then (some false) else ((containsBad.f l0_1).bind fun t125 => (some (!t125)))) else (none)) else (none)) else (some false))) else (some false)
def impl_in.f (a0 : Int) (a1 : Int) (a2 : Int) : Option (Bool) := if a0 ≥ a1 then (some (decide (a0 ≤ a2))) else (some false)
set_option maxHeartbeats 8000000 in
set_option maxRecDepth 100000 in
theorem impl_in.calls (a0 : Int) (a1 : Int) (a2 : Int) (r : Bool) (w : World) (h : impl_in.f a0 a1 a2 = some r) :
    Calls Try.prog 53 #[.int .i64 a0, .int .i64 a1, .int .i64 a2] w fun e w' => e = .returned (.bool r) ∧ Drawn0 w w' := by
  have H : (if a0 ≥ a1 then (some (decide (a0 ≤ a2))) else (some false)) = some r := h
  clear h
  by_cases c4 : a0 ≥ a1
  · rw [if_pos c4] at H
    have c4b0 : decide (a1 ≤ a0) = true := decide_eq_true c4
    clear c4
    obtain rfl := Option.some.inj H
    go_enter Try.func53, Try.ntmps53
    go_wp2
    go_ret
    exact ⟨by first | rfl | (simp; done) | (simp [*]; done), by repeat (first | exact Drawn0.refl _ | apply Drawn0.step)⟩
  · rw [if_neg c4] at H
    have c4b0 : decide (a1 ≤ a0) = false := decide_eq_false c4
    clear c4
    obtain rfl := Option.some.inj H
    go_enter Try.func53, Try.ntmps53
    go_wp2
    go_ret
    exact ⟨by first | rfl | (simp; done) | (simp [*]; done), by repeat (first | exact Drawn0.refl _ | apply Drawn0.step)⟩
def impl_bigs.f (a0_0 : Bool) (l0_1 : List Int) (a1_0 : Bool) (l1_1 : List Int) : Option (Bool) := (impl_BigOk.f a0_0 l0_1).bind fun t331 => (if t331 = true then ((impl_BigOk.f a1_0 l1_1).bind fun t332 => (some t332)) else (some false))
end Go.Proofs.Ytdemeoncjcbojaa.Pr
end
section
namespace Go.Proofs.Ytdemeoncjcbojaa.Pr
open Go.RowKit Go.Proofs.YtdemeoncjcbojaaW.PrintWords Go.Proofs.YtdemeoncjcbojaaW.PrintLast Go.Proofs.Ytdemeoncjcbojaa.Ext Go.Proofs.YtdemeoncjcbojaaW.PrintMore
attribute [local go_sem] max2_int min2_int max_two min_two max_three min_three max_four min_four
set_option linter.unusedVariables false
set_option linter.unusedSimpArgs false
def cpy (ys xs : List Int) : List Int := ys.take (min ys.length xs.length) ++ xs.drop (min ys.length xs.length)
mutual
def impl_limbs_add.l0 : Nat → List Int → List Int → Int → Int → Option (List Int)
  | 0, _, _, _, _ => none
  | k + 1, x5, x19, x20, x21 => if x21 < x20 then (if 0 ≤ x21 then (if x21 < (x19.length : Int) then (if x21 < (x5.length : Int) then (impl_limbs_add.l0 k (x5.set (x21 : Int).toNat (wrap64 ((rd x5 x21) + (rd x19 x21)))) x19 x20 (wrap64 (x21 + 1))) else (none)) else (none)) else (none)) else (impl_limbs_add.l1 k x5 (wrap64 ((x5.length : Int) - 1)) 0)
def impl_limbs_add.l1 : Nat → List Int → Int → Int → Option (List Int)
  | 0, _, _, _ => none
  | k + 1, x5, x36, x37 => if x37 < x36 then (if 0 ≤ (wrap64 (x37 + 1)) then (if (wrap64 (x37 + 1)) < (x5.length : Int) then (if 0 ≤ x37 then (if x37 < (x5.length : Int) then ((some (x5.set ((wrap64 (x37 + 1)) : Int).toNat (wrap64 ((rd x5 (wrap64 (x37 + 1))) + (wrap64 (Int.tdiv (rd x5 x37) 10000)))) : List Int)).bind fun y343 => (impl_limbs_add.l1 k (y343.set (x37 : Int).toNat (Int.tmod (rd y343 x37) 10000)) x36 (wrap64 (x37 + 1)))) else (none)) else (none)) else (none)) else (none)) else ((impl_limbs_trim.f k x5).bind fun t346 => (some t346))
end
def impl_limbs_add.f (k : Nat) (l0 : List Int) (l1 : List Int) : Option (List Int) := if 0 ≤ (wrap64 ((mx (l0.length : Int) (l1.length : Int)) + 1)) then (if (wrap64 ((mx (l0.length : Int) (l1.length : Int)) + 1) : Int).toNat ≤ 35184372088832 then (impl_limbs_add.l0 k (cpy l0 (List.replicate (wrap64 ((mx (l0.length : Int) (l1.length : Int)) + 1) : Int).toNat 0)) l1 (l1.length : Int) 0) else (none)) else (none)
mutual
def impl_limbs_sub.l0 : Nat → List Int → List Int → Int → Int → Option (List Int)
  | 0, _, _, _, _ => none
  | k + 1, x5, x11, x12, x13 => if x13 < x12 then (if 0 ≤ x13 then (if x13 < (x11.length : Int) then (if x13 < (x5.length : Int) then (impl_limbs_sub.l0 k (x5.set (x13 : Int).toNat (wrap64 ((rd x5 x13) - (rd x11 x13)))) x11 x12 (wrap64 (x13 + 1))) else (none)) else (none)) else (none)) else (impl_limbs_sub.l1 k x5 (x5.length : Int) 0)
def impl_limbs_sub.l1 : Nat → List Int → Int → Int → Option (List Int)
  | 0, _, _, _ => none
  | k + 1, x5, x27, x28 => if x28 < x27 then (if 0 ≤ x28 then (if x28 < (x5.length : Int) then (if (rd x5 x28) < 0 then ((some (x5.set (x28 : Int).toNat (wrap64 ((rd x5 x28) + 10000)) : List Int)).bind fun y361 => (if 0 ≤ (wrap64 (x28 + 1)) then (if (wrap64 (x28 + 1)) < (x5.length : Int) then (impl_limbs_sub.l1 k (y361.set ((wrap64 (x28 + 1)) : Int).toNat (wrap64 ((rd y361 (wrap64 (x28 + 1))) - 1))) x27 (wrap64 (x28 + 1))) else (none)) else (none))) else (impl_limbs_sub.l1 k x5 x27 (wrap64 (x28 + 1)))) else (none)) else (none)) else ((impl_limbs_trim.f k x5).bind fun t364 => (some t364))
end
def impl_limbs_sub.f (k : Nat) (l0 : List Int) (l1 : List Int) : Option (List Int) := (clone100.f l0).bind fun t353 => (impl_limbs_sub.l0 k t353 l1 (l1.length : Int) 0)
end Go.Proofs.Ytdemeoncjcbojaa.Pr
end
section
namespace Go.Proofs.Ytdemeoncjcbojaa.Pr
open Go.RowKit Go.Proofs.YtdemeoncjcbojaaW.PrintWords Go.Proofs.YtdemeoncjcbojaaW.PrintLast Go.Proofs.Ytdemeoncjcbojaa.Ext Go.Proofs.YtdemeoncjcbojaaW.PrintMore
attribute [local go_sem] max2_int min2_int max_two min_two max_three min_three max_four min_four
set_option linter.unusedVariables false
set_option linter.unusedSimpArgs false
def impl_BigOf.f (k : Nat) (a0 : Int) : Option (Bool × List Int) := if a0 < 0 then ((impl_limbsOf.f k (IntKind.u64.wrap (-(IntKind.u64.wrap (a0))))).bind fun t179 => ((impl_big.f k (decide (a0 < 0)) t179).bind fun bt182 => (some (bt182.1, bt182.2.1)))) else ((impl_limbsOf.f k (IntKind.u64.wrap (a0))).bind fun t188 => ((impl_big.f k (decide (a0 < 0)) t188).bind fun bt191 => (some (bt191.1, bt191.2.1))))
def impl_Big_signed.f (a0_0 : Bool) (l0_1 : List Int) : Option (Bool × List Int) := some (a0_0, l0_1)
def impl_signed_add.f (k : Nat) (a0_0 : Bool) (l0_1 : List Int) (a1_0 : Bool) (l1_1 : List Int) : Option (Bool × List Int) := if (a0_0 == a1_0) = true then ((impl_limbs_add.f k l0_1 l1_1).bind fun t370 => (some (a0_0, t370))) else ((impl_limbs_cmp.f k l0_1 l1_1).bind fun t373 => (if t373 ≥ 0 then ((impl_limbs_sub.f k l0_1 l1_1).bind fun t374 => (some (a0_0, t374))) else ((impl_limbs_sub.f k l1_1 l0_1).bind fun t377 => (some (a1_0, t377)))))
def impl_BigAdd.f (k : Nat) (a0_0 : Bool) (l0_1 : List Int) (a1_0 : Bool) (l1_1 : List Int) : Option (Bool × List Int × Bool) := (impl_bigs.f a0_0 l0_1 a1_0 l1_1).bind fun t383 => (if t383 = true then ((impl_Big_signed.f a0_0 l0_1).bind fun bt384 => ((impl_Big_signed.f a1_0 l1_1).bind fun bt388 => ((impl_signed_add.f k bt384.1 bt384.2 bt388.1 bt388.2).bind fun bt392 => ((impl_big.f k bt392.1 bt392.2).bind fun bt397 => (some (bt397.1, bt397.2.1, bt397.2.2)))))) else (some (false, ([] : List Int), false)))
def impl_signed_minus.f (a0_0 : Bool) (l0_1 : List Int) : Option (Bool × List Int) := some (!a0_0, l0_1)
def impl_signed_sign.f (a0_0 : Bool) (l0_1 : List Int) : Option (Int) := if (l0_1.length : Int) = 0 then (some 0) else (if a0_0 = true then (some (-1)) else (some 1))
def impl_BigCmp.f (k : Nat) (a0_0 : Bool) (l0_1 : List Int) (a1_0 : Bool) (l1_1 : List Int) : Option (Int) := (impl_bigs.f a0_0 l0_1 a1_0 l1_1).bind fun t499 => (if t499 = true then ((impl_Big_signed.f a0_0 l0_1).bind fun bt500 => ((impl_Big_signed.f a1_0 l1_1).bind fun bt504 => ((impl_signed_minus.f bt504.1 bt504.2).bind fun bt508 => ((impl_signed_add.f k bt500.1 bt500.2 bt508.1 bt508.2).bind fun bt512 => ((impl_signed_sign.f bt512.1 bt512.2).bind fun t516 => (some t516)))))) else (some 2))
end Go.Proofs.Ytdemeoncjcbojaa.Pr
end
section
namespace Go.Proofs.Ytdemeoncjcbojaa.Pr
open Go.RowKit Go.Proofs.YtdemeoncjcbojaaW.PrintWords Go.Proofs.YtdemeoncjcbojaaW.PrintLast Go.Proofs.Ytdemeoncjcbojaa.Ext Go.Proofs.YtdemeoncjcbojaaW.PrintMore
attribute [local go_sem] max2_int min2_int max_two min_two max_three min_three max_four min_four
set_option linter.unusedVariables false
set_option linter.unusedSimpArgs false
mutual
def impl_limbs_mul.l0 : Nat → List Int → List Int → List Int → Int → Int → Option (List Int)
  | 0, _, _, _, _, _ => none
  | k + 1, x1, x5, x19, x20, x21 => if x21 < x20 then (if 0 ≤ x21 then (if x21 < (x19.length : Int) then (impl_limbs_mul.l1 k x1 x5 x21 (rd x19 x21) 0 x19 x20 x21 x1 (x1.length : Int) 0) else (none)) else (none)) else ((impl_limbs_trim.f k x5).bind fun t256 => (some t256))
def impl_limbs_mul.l1 : Nat → List Int → List Int → Int → Int → Int → List Int → Int → Int → List Int → Int → Int → Option (List Int)
  | 0, _, _, _, _, _, _, _, _, _, _, _ => none
  | k + 1, x1, x5, x6, x7, x8, x19, x20, x21, x26, x27, x28 => if x28 < x27 then (if 0 ≤ x28 then (if x28 < (x26.length : Int) then (if 0 ≤ (wrap64 (x6 + x28)) then (if (wrap64 (x6 + x28)) < (x5.length : Int) then (impl_limbs_mul.l1 k x1 (x5.set ((wrap64 (x6 + x28)) : Int).toNat (Int.tmod (wrap64 ((wrap64 ((rd x5 (wrap64 (x6 + x28))) + (wrap64 (x7 * (rd x26 x28))))) + x8)) 10000)) x6 x7 (wrap64 (Int.tdiv (wrap64 ((wrap64 ((rd x5 (wrap64 (x6 + x28))) + (wrap64 (x7 * (rd x26 x28))))) + x8)) 10000)) x19 x20 x21 x26 x27 (wrap64 (x28 + 1))) else (none)) else (none)) else (none)) else (none)) else (if 0 ≤ (wrap64 (x6 + (x1.length : Int))) then (if (wrap64 (x6 + (x1.length : Int))) < (x5.length : Int) then (impl_limbs_mul.l0 k x1 (x5.set ((wrap64 (x6 + (x1.length : Int))) : Int).toNat (wrap64 ((rd x5 (wrap64 (x6 + (x1.length : Int)))) + x8))) x19 x20 (wrap64 (x21 + 1))) else (none)) else (none))
end
def impl_limbs_mul.f (k : Nat) (l0 : List Int) (l1 : List Int) : Option (List Int) := if 0 ≤ (wrap64 ((wrap64 ((l0.length : Int) + (l1.length : Int))) + 1)) then (if (wrap64 ((wrap64 ((l0.length : Int) + (l1.length : Int))) + 1) : Int).toNat ≤ 35184372088832 then (impl_limbs_mul.l0 k l1 (List.replicate (wrap64 ((wrap64 ((l0.length : Int) + (l1.length : Int))) + 1) : Int).toNat 0) l0 (l0.length : Int) 0) else (none)) else (none)
set_option maxHeartbeats 8000000 in
set_option maxRecDepth 100000 in
theorem impl_limbs_mul.calls (k : Nat) (A0 : Option Addr) (c0 : Nat) (l0 : List Int) (A1 : Option Addr) (c1 : Nat) (l1 : List Int) (r : List Int) (w : World) (hr0 : Kd.C (Kd.int .i64) w A0 l0.length l0) (hc0 : l0.length ≤ c0) (hr1 : Kd.C (Kd.int .i64) w A1 l1.length l1) (hc1 : l1.length ≤ c1) (h : impl_limbs_mul.f k l0 l1 = some r) :
    Calls Try.prog 85 #[.slice A0 l0.length c0, .slice A1 l1.length c1] w fun e w' => ∃ v0_ : Value, e = .returned (v0_) ∧ Kd.V (Kd.int .i64) 3 w' w.heap.size (fun k_ => (w.heap.size ≤ k_)) v0_ r ∧ Below w.heap.size w w' := by
  have HR0 := Aside0.mk hr0
  have HC0 := Aside0.mk hc0
  clear hr0 hc0
  have HR1 := Aside0.mk hr1
  have HC1 := Aside0.mk hc1
  clear hr1 hc1
  have HB := Aside0.mk (Below.refl w.heap.size w)
  have H : (if 0 ≤ (wrap64 ((wrap64 ((l0.length : Int) + (l1.length : Int))) + 1)) then (if (wrap64 ((wrap64 ((l0.length : Int) + (l1.length : Int))) + 1) : Int).toNat ≤ 35184372088832 then (impl_limbs_mul.l0 k l1 (List.replicate (wrap64 ((wrap64 ((l0.length : Int) + (l1.length : Int))) + 1) : Int).toNat 0) l0 (l0.length : Int) 0) else (none)) else (none)) = some r := h
  clear h
  obtain ⟨ji3, hji3⟩ : ∃ j_ : Int, (wrap64 ((wrap64 ((l0.length : Int) + (l1.length : Int))) + 1)) = j_ := ⟨_, rfl⟩
  replace H : (if 0 ≤ (ji3) then (if (ji3 : Int).toNat ≤ 35184372088832 then (impl_limbs_mul.l0 k l1 (List.replicate (ji3 : Int).toNat 0) l0 (l0.length : Int) 0) else (none)) else (none)) = some r := by first | (rw [hji3] at H; exact H) | (simp only [hji3] at H ⊢; exact H)
  have hji3w : (IntKind.i64.wrap ((wrap64 ((l0.length : Int) + (l1.length : Int))) + 1)) = ji3 := (i64_w _).trans hji3
  by_cases c4 : 0 ≤ (ji3)
  · rw [if_pos c4] at H
    have c4b0 := eq_true c4
    have c4b1 : decide (0 ≤ (ji3)) = true := decide_eq_true c4
    clear c4
    by_cases c5 : (ji3 : Int).toNat ≤ 35184372088832
    · rw [if_pos c5] at H
      have c5b0 := eq_true c5
      have c5b1 : decide ((ji3 : Int).toNat ≤ 35184372088832) = true := decide_eq_true c5
      clear c5
      obtain ⟨y253, hy253⟩ : ∃ y_ : List Int, y_ = (List.replicate (ji3 : Int).toNat 0) := ⟨_, rfl⟩
      replace H : (impl_limbs_mul.l0 k l1 y253 l0 (l0.length : Int) 0) = some r := by first | (rw [hy253]; with_reducible exact H) | (have H2_ := (Option.bind_some _ _).symm.trans H; rw [hy253]; with_reducible exact H2_) | (have H2_ := (Option.bind_some _ _).symm.trans H; with_reducible exact H2_) | with_reducible exact H | (rw [hy253]; exact H) | exact H
      have Ny253 := Aside0.mk hy253
      clear hy253
      have H' := Aside0.mk H
      clear H
      go_enter Try.func85, Try.ntmps85
      go_wp2_with (first | ((with_reducible refine gate_dst (N := 18) rfl ?_); refine Kd.R_make (Kd.int .i64) _ 3 rfl (N := 18) rfl 54 _ _ rfl ji3 rfl rfl Try.underlying54 (.int .i64 0) 8 info3 rfl (by decide) (by omega) 0 (ok := fun _ => True) (okp := fun _ => True) rfl (fun _ hk => hk) trivial (of_decide_eq_true (by first | (with_reducible assumption) | assumption)) (Nat.le_trans (Nat.mul_le_mul_right _ (of_decide_eq_true (by first | (with_reducible assumption) | assumption) : ji3.toNat ≤ 35184372088832)) (by omega)) (Below.refl _ _) (Nat.le_refl _) ?_; intro v254 w6 ho7 hb hg_ hnew_; clear hg_ hnew_; (first | rw [← Ny253.out] at ho7 | (simp only [Int.reduceToNat] at ho7; rw [← Ny253.out] at ho7)); have n0_ := Aside0.mk (Kd.R_lower (Kd.R_newM (M := fun k_ => (w.heap.size ≤ k_)) ho7 (below_size zb) (fun k_ h_ => h_)) (below_size zb)); have n1_ := Aside0.mk (below_step zb hb); clear HB; have HO255 := n0_; have HB := n1_; clear n0_ n1_; clear hb ho7))
      go_loopg [21] k (fun kq v21 w' => ∃ (x5_1 : List Int) (x21_1 : Int), v21 = .int .i64 x21_1 ∧ Aside0 (impl_limbs_mul.l0 kq l1 x5_1 l0 (l0.length : Int) x21_1 = some r) ∧ Aside0 (kq ≤ k) ∧ Aside0 (Kd.R (Kd.int .i64) 3 w' w.heap.size (fun k_ => (w.heap.size ≤ k_)) v254 x5_1) ∧ Aside0 (Below w.heap.size w w'))
      case atStart => exact ⟨(y253), (0), (by first | rfl | (simp; done) | (simp [*]; done)), H', ⟨Nat.le_refl _⟩, ⟨by (with_reducible repeat (first | apply Kd.R_alloc | apply Kd.R_drewN | apply Kd.R_drew)); exact Kd.R_mono HO255.out (fun _ hk => hk.1)⟩, ⟨zb⟩⟩
      case round =>
        clear H'
        try clear c1
        try clear p2
        try clear c4
        try clear c4b0
        try clear c4b1
        try clear c5
        try clear c5b0
        try clear c5b1
        try clear p6
        obtain ⟨x5_1, x21_1, rfl, HA, HK1, HO_5, HB⟩ := hrel
        cases gk with
        | zero => exact absurd HA.out (by simp [impl_limbs_mul.l0])
        | succ k1 =>
          have H := HA.out
          clear HA
          simp only [impl_limbs_mul.l0] at H
          by_cases c8 : x21_1 < (l0.length : Int)
          · rw [if_pos c8] at H
            have c8b0 : decide (x21_1 < (l0.length : Int)) = true := decide_eq_true c8
            clear c8
            by_cases c9 : 0 ≤ x21_1
            · rw [if_pos c9] at H
              have c9b0 : decide (0 ≤ x21_1) = true := decide_eq_true c9
              clear c9
              by_cases c10 : x21_1 < (l0.length : Int)
              · rw [if_pos c10] at H
                have c10b0 : decide (x21_1 < (l0.length : Int)) = true := decide_eq_true c10
                clear c10
                have H' := Aside0.mk H
                clear H
                have p259 : 0 ≤ (x21_1 : Int) := of_decide_eq_true (by first | (with_reducible assumption) | assumption)
                have q259 : x21_1 < (l0.length : Int) := of_decide_eq_true (by first | (with_reducible assumption) | assumption)
                obtain ⟨ad259, e259, hx259_0⟩ := Kd.at_int HR0.out x21_1 p259 q259
                cases e259
                replace hx259_0 := (HB.out.cell (World.block_lt_of_cell? w _ hx259_0)).trans hx259_0
                replace p259 := eq_true p259
                replace q259 := eq_true q259
                go_wp2
                go_loopg [8, 28] k1 (fun kq v8 v28 w' => ∃ (x5_2 : List Int) (x8_2 : Int) (x28_2 : Int), v8 = .int .i64 x8_2 ∧ v28 = .int .i64 x28_2 ∧ Aside0 (impl_limbs_mul.l1 kq l1 x5_2 x21_1 (rd l0 x21_1) x8_2 l0 (l0.length : Int) x21_1 l1 (l1.length : Int) x28_2 = some r) ∧ Aside0 (kq ≤ k1) ∧ Aside0 (Kd.R (Kd.int .i64) 3 w' w.heap.size (fun k_ => (w.heap.size ≤ k_)) v254 x5_2) ∧ Aside0 (Below w.heap.size w w'))
                case atStart => exact ⟨(x5_1), (0), (0), (by first | rfl | (simp; done) | (simp [*]; done)), (by first | rfl | (simp; done) | (simp [*]; done)), H', ⟨Nat.le_refl _⟩, ⟨by (with_reducible repeat (first | apply Kd.R_alloc | apply Kd.R_drewN | apply Kd.R_drew)); exact HO_5.out⟩, ⟨zb⟩⟩
                case round =>
                  clear H'
                  try clear c1
                  try clear p2
                  try clear q2
                  try clear hx2
                  try clear c4
                  try clear c4b0
                  try clear c4b1
                  try clear c5
                  try clear c5b0
                  try clear c5b1
                  try clear p6
                  try clear c8
                  try clear c8b0
                  try clear c9
                  try clear c9b0
                  try clear c10
                  try clear c10b0
                  try clear hx259_0
                  try clear p2
                  try clear p259
                  try clear p6
                  try clear q259
                  obtain ⟨x5_2, x8_2, x28_2, rfl, rfl, HA, HK2, HO_5, HB⟩ := hrel
                  cases gk with
                  | zero => exact absurd HA.out (by simp [impl_limbs_mul.l1])
                  | succ k2 =>
                    have H := HA.out
                    clear HA
                    simp only [impl_limbs_mul.l1] at H
                    by_cases c11 : x28_2 < (l1.length : Int)
                    · rw [if_pos c11] at H
                      have c11b0 : decide (x28_2 < (l1.length : Int)) = true := decide_eq_true c11
                      clear c11
                      by_cases c12 : 0 ≤ x28_2
                      · rw [if_pos c12] at H
                        have c12b0 : decide (0 ≤ x28_2) = true := decide_eq_true c12
                        clear c12
                        by_cases c13 : x28_2 < (l1.length : Int)
                        · rw [if_pos c13] at H
                          have c13b0 : decide (x28_2 < (l1.length : Int)) = true := decide_eq_true c13
                          clear c13
                          obtain ⟨ji14, hji14⟩ : ∃ j_ : Int, (wrap64 (x21_1 + x28_2)) = j_ := ⟨_, rfl⟩
                          replace H : (if 0 ≤ (ji14) then (if (ji14) < (x5_2.length : Int) then (impl_limbs_mul.l1 k2 l1 (x5_2.set ((ji14) : Int).toNat (Int.tmod (wrap64 ((wrap64 ((rd x5_2 (ji14)) + (wrap64 ((rd l0 x21_1) * (rd l1 x28_2))))) + x8_2)) 10000)) x21_1 (rd l0 x21_1) (wrap64 (Int.tdiv (wrap64 ((wrap64 ((rd x5_2 (ji14)) + (wrap64 ((rd l0 x21_1) * (rd l1 x28_2))))) + x8_2)) 10000)) l0 (l0.length : Int) x21_1 l1 (l1.length : Int) (wrap64 (x28_2 + 1))) else (none)) else (none)) = some r := by first | (rw [hji14] at H; exact H) | (simp only [hji14] at H ⊢; exact H)
                          have hji14w : (IntKind.i64.wrap (x21_1 + x28_2)) = ji14 := (i64_w _).trans hji14
                          by_cases c15 : 0 ≤ (ji14)
                          · rw [if_pos c15] at H
                            have c15b0 : decide (0 ≤ (ji14)) = true := decide_eq_true c15
                            clear c15
                            by_cases c16 : (ji14) < (x5_2.length : Int)
                            · rw [if_pos c16] at H
                              have c16b0 : decide ((ji14) < (x5_2.length : Int)) = true := decide_eq_true c16
                              clear c16
                              obtain ⟨y262, hy262⟩ : ∃ y_ : List Int, y_ = (x5_2.set ((ji14) : Int).toNat (Int.tmod (wrap64 ((wrap64 ((rd x5_2 (ji14)) + (wrap64 ((rd l0 x21_1) * (rd l1 x28_2))))) + x8_2)) 10000)) := ⟨_, rfl⟩
                              replace H : (impl_limbs_mul.l1 k2 l1 y262 x21_1 (rd l0 x21_1) (wrap64 (Int.tdiv (wrap64 ((wrap64 ((rd x5_2 (ji14)) + (wrap64 ((rd l0 x21_1) * (rd l1 x28_2))))) + x8_2)) 10000)) l0 (l0.length : Int) x21_1 l1 (l1.length : Int) (wrap64 (x28_2 + 1))) = some r := by first | (rw [hy262]; with_reducible exact H) | (have H2_ := (Option.bind_some _ _).symm.trans H; rw [hy262]; with_reducible exact H2_) | (have H2_ := (Option.bind_some _ _).symm.trans H; with_reducible exact H2_) | with_reducible exact H | (rw [hy262]; exact H) | exact H
                              have Ny262 := Aside0.mk hy262
                              clear hy262
                              have H' := Aside0.mk H
                              clear H
                              have p260 : 0 ≤ (x28_2 : Int) := of_decide_eq_true (by first | (with_reducible assumption) | assumption)
                              have q260 : x28_2 < (l1.length : Int) := of_decide_eq_true (by first | (with_reducible assumption) | assumption)
                              obtain ⟨ad260, e260, hx260_0⟩ := Kd.at_int HR1.out x28_2 p260 q260
                              cases e260
                              replace hx260_0 := (HB.out.cell (World.block_lt_of_cell? w _ hx260_0)).trans hx260_0
                              replace p260 := eq_true p260
                              replace q260 := eq_true q260
                              obtain ⟨Ao18, co18, eo18⟩ := Kd.R_slice HO_5.out
                              subst eo18
                              have p261 : 0 ≤ ((ji14) : Int) := of_decide_eq_true (by first | (with_reducible assumption) | assumption)
                              have q261 : (ji14) < (x5_2.length : Int) := of_decide_eq_true (by first | (with_reducible assumption) | assumption)
                              obtain ⟨ad261, e261, hx261_0⟩ := Kd.at_int (Kd.R_reads' HO_5.out).2.2 (ji14) p261 q261
                              cases e261
                              replace p261 := eq_true p261
                              replace q261 := eq_true q261
                              have p17 : 0 ≤ ((ji14) : Int) := of_decide_eq_true (by first | (with_reducible assumption) | assumption)
                              have q17 : ((ji14) : Int) < ((x5_2.length : Int) : Int) := of_decide_eq_true (by first | (with_reducible assumption) | assumption)
                              obtain ⟨go17, co17, eo17, gb17, gl17, cl17, HG17⟩ := Kd.R_form HO_5.out (by omega)
                              (first | cases eo17 | (injection eo17 with ea_ en_ ec_; (first | subst ea_ | (injection ea_ with ea_; subst ea_)); subst ec_; clear en_))
                              have GB17 := Aside0.mk gb17
                              have GG17 := Aside0.mk HG17
                              clear gb17 gl17 HG17
                              (first | simp only [add_plain] at hx261_0 | skip)
                              obtain ⟨hx17_0, hf17_0⟩ := Kd.R_celln 0 HO_5.out ((ji14) : Int) p17 q17
                              replace p17 := eq_true p17
                              replace q17 := eq_true q17
                              have HP19 := Kd.R_putg HO_5.out ((ji14) : Int) (Int.tmod (wrap64 ((wrap64 ((rd x5_2 (ji14)) + (wrap64 ((rd l0 x21_1) * (rd l1 x28_2))))) + x8_2)) 10000)
                              go_wp2_with (first | ((with_reducible refine gate_store (t := 3) (p := 53) rfl ?_); refine store_event (t := 3) (p := 53) (v := ?vo_w20) (w1 := (wr.setCell ⟨go17, ((ji14) : Int).toNat, none⟩ (.int .i64 (Int.tmod (wrap64 ((wrap64 ((rd x5_2 (ji14)) + (wrap64 ((rd l0 x21_1) * (rd l1 x28_2))))) + x8_2)) 10000)))) ?hg ?ho ?hn ?hr ?_; (case ho => rfl); (case hg => rfl); (case hn => rfl); (case hr => first | (go_simp; done) | (go_simp; rfl)); intro w20 hw; have hg : wr.grownBy w20 (some go17) := (by rw [hw]; exact HP19.2); have hp_ : Kd.R (Kd.int .i64) 3 w20 w.heap.size (fun k_ => (w.heap.size ≤ k_)) (.slice (some ⟨go17, 0, none⟩) x5_2.length co18) y262 := (by rw [hw, Ny262.out]; exact HP19.1); clear HP19; have n0_ := Aside0.mk (hp_); have n1_ := Aside0.mk ((by rw [hw]; exact below_set (HB.out) GB17.out : Below w.heap.size w w20)); clear HO_5; clear HB; have HO_5 := n0_; have HB := n1_; clear n0_ n1_; clear hg hw hp_))
                              go_roundg k2
                              case measure => have := HK1.out; have := HK2.out; omega
                              case rel => exact ⟨(y262), (wrap64 (Int.tdiv (wrap64 ((wrap64 ((rd x5_2 (ji14)) + (wrap64 ((rd l0 x21_1) * (rd l1 x28_2))))) + x8_2)) 10000)), (wrap64 (x28_2 + 1)), (by first | rfl | (simp; done) | (simp only [← hji14] <;> (first | rfl | simp)) | (simp [*]; done)), (by first | rfl | (simp; done) | (simp [*]; done)), H', ⟨by have := HK1.out; have := HK2.out; omega⟩, ⟨by (with_reducible repeat (first | apply Kd.R_alloc | apply Kd.R_drewN | apply Kd.R_drew)); exact HO_5.out⟩, ⟨zb⟩⟩
                            · rw [if_neg c16] at H
                              exact absurd H (by simp)
                          · rw [if_neg c15] at H
                            exact absurd H (by simp)
                        · rw [if_neg c13] at H
                          exact absurd H (by simp)
                      · rw [if_neg c12] at H
                        exact absurd H (by simp)
                    · rw [if_neg c11] at H
                      have c11b0 : decide (x28_2 < (l1.length : Int)) = false := decide_eq_false c11
                      clear c11
                      obtain ⟨ji21, hji21⟩ : ∃ j_ : Int, (wrap64 (x21_1 + (l1.length : Int))) = j_ := ⟨_, rfl⟩
                      replace H : (if 0 ≤ (ji21) then (if (ji21) < (x5_2.length : Int) then (impl_limbs_mul.l0 k2 l1 (x5_2.set ((ji21) : Int).toNat (wrap64 ((rd x5_2 (ji21)) + x8_2))) l0 (l0.length : Int) (wrap64 (x21_1 + 1))) else (none)) else (none)) = some r := by first | (rw [hji21] at H; exact H) | (simp only [hji21] at H ⊢; exact H)
                      have hji21w : (IntKind.i64.wrap (x21_1 + (l1.length : Int))) = ji21 := (i64_w _).trans hji21
                      by_cases c22 : 0 ≤ (ji21)
                      · rw [if_pos c22] at H
                        have c22b0 : decide (0 ≤ (ji21)) = true := decide_eq_true c22
                        clear c22
                        by_cases c23 : (ji21) < (x5_2.length : Int)
                        · rw [if_pos c23] at H
                          have c23b0 : decide ((ji21) < (x5_2.length : Int)) = true := decide_eq_true c23
                          clear c23
                          obtain ⟨y264, hy264⟩ : ∃ y_ : List Int, y_ = (x5_2.set ((ji21) : Int).toNat (wrap64 ((rd x5_2 (ji21)) + x8_2))) := ⟨_, rfl⟩
                          replace H : (impl_limbs_mul.l0 k2 l1 y264 l0 (l0.length : Int) (wrap64 (x21_1 + 1))) = some r := by first | (rw [hy264]; with_reducible exact H) | (have H2_ := (Option.bind_some _ _).symm.trans H; rw [hy264]; with_reducible exact H2_) | (have H2_ := (Option.bind_some _ _).symm.trans H; with_reducible exact H2_) | with_reducible exact H | (rw [hy264]; exact H) | exact H
                          have Ny264 := Aside0.mk hy264
                          clear hy264
                          have H' := Aside0.mk H
                          clear H
                          obtain ⟨Ao25, co25, eo25⟩ := Kd.R_slice HO_5.out
                          subst eo25
                          have p263 : 0 ≤ ((ji21) : Int) := of_decide_eq_true (by first | (with_reducible assumption) | assumption)
                          have q263 : (ji21) < (x5_2.length : Int) := of_decide_eq_true (by first | (with_reducible assumption) | assumption)
                          obtain ⟨ad263, e263, hx263_0⟩ := Kd.at_int (Kd.R_reads' HO_5.out).2.2 (ji21) p263 q263
                          cases e263
                          replace p263 := eq_true p263
                          replace q263 := eq_true q263
                          have p24 : 0 ≤ ((ji21) : Int) := of_decide_eq_true (by first | (with_reducible assumption) | assumption)
                          have q24 : ((ji21) : Int) < ((x5_2.length : Int) : Int) := of_decide_eq_true (by first | (with_reducible assumption) | assumption)
                          obtain ⟨go24, co24, eo24, gb24, gl24, cl24, HG24⟩ := Kd.R_form HO_5.out (by omega)
                          (first | cases eo24 | (injection eo24 with ea_ en_ ec_; (first | subst ea_ | (injection ea_ with ea_; subst ea_)); subst ec_; clear en_))
                          have GB24 := Aside0.mk gb24
                          have GG24 := Aside0.mk HG24
                          clear gb24 gl24 HG24
                          (first | simp only [add_plain] at hx263_0 | skip)
                          obtain ⟨hx24_0, hf24_0⟩ := Kd.R_celln 0 HO_5.out ((ji21) : Int) p24 q24
                          replace p24 := eq_true p24
                          replace q24 := eq_true q24
                          have HP26 := Kd.R_putg HO_5.out ((ji21) : Int) (wrap64 ((rd x5_2 (ji21)) + x8_2))
                          go_wp2_with (first | ((with_reducible refine gate_store (t := 3) (p := 64) rfl ?_); refine store_event (t := 3) (p := 64) (v := ?vo_w27) (w1 := (wr.setCell ⟨go24, ((ji21) : Int).toNat, none⟩ (.int .i64 (wrap64 ((rd x5_2 (ji21)) + x8_2))))) ?hg ?ho ?hn ?hr ?_; (case ho => rfl); (case hg => rfl); (case hn => rfl); (case hr => first | (go_simp; done) | (go_simp; rfl)); intro w27 hw; have hg : wr.grownBy w27 (some go24) := (by rw [hw]; exact HP26.2); have hp_ : Kd.R (Kd.int .i64) 3 w27 w.heap.size (fun k_ => (w.heap.size ≤ k_)) (.slice (some ⟨go24, 0, none⟩) x5_2.length co25) y264 := (by rw [hw, Ny264.out]; exact HP26.1); clear HP26; have n0_ := Aside0.mk (hp_); have n1_ := Aside0.mk ((by rw [hw]; exact below_set (HB.out) GB24.out : Below w.heap.size w w27)); clear HO_5; clear HB; have HO_5 := n0_; have HB := n1_; clear n0_ n1_; clear hg hw hp_))
                          go_roundg k2
                          case measure => have := HK1.out; have := HK2.out; omega
                          case rel => exact ⟨(y264), (wrap64 (x21_1 + 1)), (by first | rfl | (simp; done) | (simp [*]; done)), H', ⟨by have := HK1.out; have := HK2.out; omega⟩, ⟨by (with_reducible repeat (first | apply Kd.R_alloc | apply Kd.R_drewN | apply Kd.R_drew)); exact HO_5.out⟩, ⟨zb⟩⟩
                        · rw [if_neg c23] at H
                          exact absurd H (by simp)
                      · rw [if_neg c22] at H
                        exact absurd H (by simp)
              · rw [if_neg c10] at H
                exact absurd H (by simp)
            · rw [if_neg c9] at H
              exact absurd H (by simp)
          · rw [if_neg c8] at H
            have c8b0 : decide (x21_1 < (l0.length : Int)) = false := decide_eq_false c8
            clear c8
            replace H := Option.bind_eq_some_iff.mp H
            obtain ⟨t256, A280, H⟩ := H
            replace H : (some t256) = some r := H
            have A28 := Aside0.mk A280
            clear A280
            obtain rfl := Option.some.inj H
            obtain ⟨Ao29, co29, eo29⟩ := Kd.R_slice HO_5.out
            subst eo29
            go_wp2_with (first | ((with_reducible refine gate_callee (f := 82) rfl ?_); refine goesL_ (some 67) rfl rfl Try.func82 (by kernel_rfl) rfl #[.slice Ao29 x5_1.length co29] rfl za ?_; (with_reducible refine (impl_limbs_trim.calls k1 (fun k_ => some k_ = (.slice Ao29 x5_1.length co29 : Value).ownBlock) _ _ x5_1 t256 _ ?side1 A28.out).mono ?_); (case side1 => exact Kd.R_V (Kd.R_tight rfl (HO_5.out))); rintro e w30 ⟨v257, rfl, ho0, hb⟩; refine ⟨_, rfl, ?_⟩; have n0_ := Aside0.mk (Kd.R_below (zR HO_5.out) hb); have n1_ := Aside0.mk (Kd.V_lower (Kd.V_mono (ok' := fun k_ => (w.heap.size ≤ k_)) ho0 (fun k_ hk_ => Or.elim hk_ (fun hs_ => ((HO_5.out).1 k_ hs_.symm)) (fun hn_ => (Nat.le_trans (below_size zb) hn_)))) (below_size zb)); have n2_ := Aside0.mk (below_step zb hb); clear HO_5; clear HB; have HO_5 := n0_; have HO258 := n1_; have HB := n2_; clear n0_ n1_ n2_; (try clear hb); (try clear hb2); (try clear hk); (try clear hi); (try clear ho0)))
            go_ret
            exact ⟨_, by first | rfl | (simp [errW_none, errW_some] <;> rfl) | (simp only [← hji3]; first | rfl | (simp [errW_none, errW_some] <;> rfl)) | (simp [*, errW_none, errW_some] <;> rfl), by (with_reducible repeat (first | apply Kd.V_alloc | apply Kd.V_drewN | apply Kd.V_drew)); exact HO258.out, zb⟩
    · rw [if_neg c5] at H
      exact absurd H (by simp)
  · rw [if_neg c4] at H
    exact absurd H (by simp)
def impl_ten.l0 : Nat → List Int → Int → Int → Option (List Int)
  | 0, _, _, _ => none
  | k + 1, x3, x5, x6 => if x6 < x5 then ((impl_limbs_mul.f k x3 (([10] : List Int))).bind fun t271 => (impl_ten.l0 k t271 x5 (wrap64 (x6 + 1)))) else (some x3)
def impl_ten.f (k : Nat) (a0 : Int) : Option (List Int) := impl_ten.l0 k (([1] : List Int)) a0 0
set_option maxHeartbeats 8000000 in
set_option maxRecDepth 100000 in
theorem impl_ten.calls (k : Nat) (a0 : Int) (r : List Int) (w : World) (h : impl_ten.f k a0 = some r) :
    Calls Try.prog 62 #[.int .i64 a0] w fun e w' => ∃ v0_ : Value, e = .returned (v0_) ∧ Kd.V (Kd.int .i64) 3 w' w.heap.size (fun k_ => (w.heap.size ≤ k_)) v0_ r ∧ Below w.heap.size w w' := by
  have HB := Aside0.mk (Below.refl w.heap.size w)
  have H : (impl_ten.l0 k (([1] : List Int)) a0 0) = some r := h
  clear h
  obtain ⟨y265, hy265⟩ : ∃ y_ : List Int, y_ = (([1] : List Int)) := ⟨_, rfl⟩
  replace H : (impl_ten.l0 k y265 a0 0) = some r := by first | (rw [hy265]; with_reducible exact H) | (have H2_ := (Option.bind_some _ _).symm.trans H; rw [hy265]; with_reducible exact H2_) | (have H2_ := (Option.bind_some _ _).symm.trans H; with_reducible exact H2_) | with_reducible exact H | (rw [hy265]; exact H) | exact H
  have Ny265 := Aside0.mk hy265
  clear hy265
  have H' := Aside0.mk H
  clear H
  go_enter Try.func62, Try.ntmps62
  go_wp2_with (first | ((with_reducible refine gate_dst (N := 4) rfl ?_); refine Kd.R_lit (Kd.int .i64) _ 3 ?hg (N := 4) ?hd (xs := ([1] : List Int)) (inner := [.int .i64 1]) (ok := fun _ => True) (okp := fun _ => True) ?hr ?hp (fun _ hk => hk) trivial (Below.refl _ _) (Nat.le_refl _) (by simp) ?_; (case hd => rfl); (case hg => rfl); (case hr => first | (go_simp; done) | (go_simp; rfl)); (case hp => exact (Reps.one (show Kd.M (Kd.int .i64) _ _ _ 1 [.int .i64 1] from rfl) (Reps.none _ _))); intro v266 w2 ho3 hb hg_ hnew_; clear hg_ hnew_; (first | rw [← Ny265.out] at ho3 | (simp only [Int.reduceToNat] at ho3; rw [← Ny265.out] at ho3)); have n0_ := Aside0.mk (Kd.R_lower (Kd.R_newM (M := fun k_ => (w.heap.size ≤ k_)) ho3 (below_size zb) (fun k_ h_ => h_)) (below_size zb)); have n1_ := Aside0.mk (below_step zb hb); clear HB; have HO267 := n0_; have HB := n1_; clear n0_ n1_; clear hb ho3))
  go_loopg [3, 6] k (fun kq v3 v6 w' => ∃ (x3_1 : List Int) (x6_1 : Int), v6 = .int .i64 x6_1 ∧ Aside0 (impl_ten.l0 kq x3_1 a0 x6_1 = some r) ∧ Aside0 (kq ≤ k) ∧ Aside0 (Kd.V (Kd.int .i64) 3 w' w.heap.size (fun k_ => (w.heap.size ≤ k_)) v3 x3_1) ∧ Aside0 (Below w.heap.size w w'))
  case atStart => exact ⟨(y265), (0), (by first | rfl | (simp; done) | (simp [*]; done)), H', ⟨Nat.le_refl _⟩, ⟨Kd.R_V (by (with_reducible repeat (first | apply Kd.R_alloc | apply Kd.R_drewN | apply Kd.R_drew)); exact Kd.R_mono HO267.out (fun _ hk => hk.1))⟩, ⟨zb⟩⟩
  case round =>
    clear H'
    try clear p2
    obtain ⟨x3_1, x6_1, rfl, HA, HK1, HO_3, HB⟩ := hrel
    cases gk with
    | zero => exact absurd HA.out (by simp [impl_ten.l0])
    | succ k1 =>
      have H := HA.out
      clear HA
      simp only [impl_ten.l0] at H
      by_cases c4 : x6_1 < a0
      · rw [if_pos c4] at H
        have c4b0 : decide (x6_1 < a0) = true := decide_eq_true c4
        clear c4
        obtain ⟨y268, hy268⟩ : ∃ y_ : List Int, y_ = (([10] : List Int)) := ⟨_, rfl⟩
        replace H : ((impl_limbs_mul.f k1 x3_1 y268).bind fun t271 => (impl_ten.l0 k1 t271 a0 (wrap64 (x6_1 + 1)))) = some r := by first | (rw [hy268]; with_reducible exact H) | (have H2_ := (Option.bind_some _ _).symm.trans H; rw [hy268]; with_reducible exact H2_) | (have H2_ := (Option.bind_some _ _).symm.trans H; with_reducible exact H2_) | with_reducible exact H | (rw [hy268]; exact H) | exact H
        have Ny268 := Aside0.mk hy268
        clear hy268
        replace H := Option.bind_eq_some_iff.mp H
        obtain ⟨t271, A50, H⟩ := H
        replace H : (impl_ten.l0 k1 t271 a0 (wrap64 (x6_1 + 1))) = some r := H
        have A5 := Aside0.mk A50
        clear A50
        have H' := Aside0.mk H
        clear H
        go_wp2_with (first | ((with_reducible refine gate_dst (N := 9) rfl ?_); refine Kd.R_lit (Kd.int .i64) _ 3 ?hg (N := 9) ?hd (xs := ([10] : List Int)) (inner := [.int .i64 10]) (ok := fun _ => True) (okp := fun _ => True) ?hr ?hp (fun _ hk => hk) trivial (Below.refl _ _) (Nat.le_refl _) (by simp) ?_; (case hd => rfl); (case hg => rfl); (case hr => first | (go_simp; done) | (go_simp; rfl)); (case hp => exact (Reps.one (show Kd.M (Kd.int .i64) _ _ _ 10 [.int .i64 10] from rfl) (Reps.none _ _))); intro v269 w6 ho7 hb hg_ hnew_; clear hg_ hnew_; (first | rw [← Ny268.out] at ho7 | (simp only [Int.reduceToNat] at ho7; rw [← Ny268.out] at ho7)); have n0_ := Aside0.mk (Kd.V_elder' (zV HO_3.out) (Kd.R_base ho7) hb); have n1_ := Aside0.mk (Kd.R_lower (Kd.R_newM (M := fun k_ => (w.heap.size ≤ k_)) ho7 (below_size zb) (fun k_ h_ => h_)) (below_size zb)); have n2_ := Aside0.mk (below_step zb hb); clear HO_3; clear HB; have HO_3 := n0_; have HO270 := n1_; have HB := n2_; clear n0_ n1_ n2_; clear hb ho7; obtain ⟨Ao8, co8, eo8⟩ := Kd.V_slice HO_3.out; subst eo8; obtain ⟨Ao9, co9, eo9⟩ := Kd.R_slice HO270.out; subst eo9) | ((with_reducible refine gate_callee (f := 85) rfl ?_); refine goesL_ (some 10) rfl rfl Try.func85 (by kernel_rfl) rfl #[.slice Ao8 x3_1.length co8, .slice Ao9 y268.length co9] rfl za ?_; (with_reducible refine (impl_limbs_mul.calls k1 _ _ x3_1 _ _ y268 t271 _ ?side1 ?side2 ?side3 ?side4 A5.out).mono ?_); (case side1 => repeat (first | exact (Kd.V_reads' HO_3.out).2.2 | (with_reducible refine Kd.C_alloc ?_ _) | (with_reducible refine Kd.C_drewN ?_ _) | (with_reducible refine Kd.C_drew ?_))); (case side2 => exact (Kd.V_reads' HO_3.out).2.1); (case side3 => repeat (first | exact (Kd.R_reads' HO270.out).2.2 | (with_reducible refine Kd.C_alloc ?_ _) | (with_reducible refine Kd.C_drewN ?_ _) | (with_reducible refine Kd.C_drew ?_))); (case side4 => exact (Kd.R_reads' HO270.out).2.1); rintro e w10 ⟨v272, rfl, ho0, hb⟩; refine ⟨_, rfl, ?_⟩; have n0_ := Aside0.mk (Kd.V_below (zV HO_3.out) hb); have n1_ := Aside0.mk (Kd.R_below (zR HO270.out) hb); have n2_ := Aside0.mk (Kd.V_lower (Kd.V_mono (ok' := fun k_ => (w.heap.size ≤ k_) ∧ some k_ ≠ (.slice Ao9 y268.length co9 : Value).ownBlock) ho0 (fun k_ hk_ => ⟨(Nat.le_trans (below_size zb) hk_), (Kd.fresh' (Kd.R_lt (zR HO270.out)) k_ hk_)⟩)) (below_size zb)); have n3_ := Aside0.mk (below_step zb hb); clear HO_3; clear HO270; clear HB; have HO_3 := n0_; have HO270 := n1_; have HO273 := n2_; have HB := n3_; clear n0_ n1_ n2_ n3_; (try clear hb); (try clear hb2); (try clear hk); (try clear hi); (try clear ho0)))
        go_roundg k1
        case measure => have := HK1.out; omega
        case rel => exact ⟨(t271), (wrap64 (x6_1 + 1)), (by first | rfl | (simp; done) | (simp [*]; done)), H', ⟨by have := HK1.out; omega⟩, ⟨by (with_reducible repeat (first | apply Kd.V_alloc | apply Kd.V_drewN | apply Kd.V_drew)); exact Kd.V_mono HO273.out (fun _ hk => hk.1)⟩, ⟨zb⟩⟩
      · rw [if_neg c4] at H
        have c4b0 : decide (x6_1 < a0) = false := decide_eq_false c4
        clear c4
        obtain rfl := Option.some.inj H
        go_wp2
        go_ret
        exact ⟨_, by first | rfl | (simp [errW_none, errW_some] <;> rfl) | (simp [*, errW_none, errW_some] <;> rfl), by (with_reducible repeat (first | apply Kd.V_alloc | apply Kd.V_drewN | apply Kd.V_drew)); exact HO_3.out, zb⟩
def impl_BigTen.f (k : Nat) (a0 : Int) : Option (Bool × List Int × Bool) := (impl_in.f a0 0 63).bind fun t275 => (if t275 = true then ((impl_ten.f k a0).bind fun t276 => ((impl_big.f k false t276).bind fun bt279 => (some (bt279.1, bt279.2.1, bt279.2.2)))) else (some (false, ([] : List Int), false)))
def impl_signed_mul.f (k : Nat) (a0_0 : Bool) (l0_1 : List Int) (a1_0 : Bool) (l1_1 : List Int) : Option (Bool × List Int) := (impl_limbs_mul.f k l0_1 l1_1).bind fun t405 => (some ((a0_0 != a1_0), t405))
def impl_BigMul.f (k : Nat) (a0_0 : Bool) (l0_1 : List Int) (a1_0 : Bool) (l1_1 : List Int) : Option (Bool × List Int × Bool) := (impl_bigs.f a0_0 l0_1 a1_0 l1_1).bind fun t411 => (if t411 = true then ((impl_Big_signed.f a0_0 l0_1).bind fun bt412 => ((impl_Big_signed.f a1_0 l1_1).bind fun bt416 => ((impl_signed_mul.f k bt412.1 bt412.2 bt416.1 bt416.2).bind fun bt420 => ((impl_big.f k bt420.1 bt420.2).bind fun bt425 => (some (bt425.1, bt425.2.1, bt425.2.2)))))) else (some (false, ([] : List Int), false)))
end Go.Proofs.Ytdemeoncjcbojaa.Pr
end
section
namespace Go.Proofs.Ytdemeoncjcbojaa.Pw
open Go.Proofs.Ytdemeoncjcbojaa.Pr Go.Proofs.Ytdemeoncjcbojaa.RWs Go.RowKit Go.Proofs.YtdemeoncjcbojaaW.PrintWords Go.Proofs.YtdemeoncjcbojaaW.PrintLast Go.Proofs.Ytdemeoncjcbojaa.Ext Go.Proofs.YtdemeoncjcbojaaW.PrintMore
attribute [local go_sem] max2_int min2_int max_two min_two max_three min_three max_four min_four
set_option linter.unusedVariables false
set_option linter.unusedSimpArgs false
set_option maxHeartbeats 8000000 in
set_option maxRecDepth 100000 in
theorem impl_BigTen.calls (k : Nat) (a0 : Int) (r1 : Bool) (r2 : List Int) (r3 : Bool) (w : World) (h : impl_BigTen.f k a0 = some (r1, r2, r3)) :
    Calls Try.prog 29 #[.int .i64 a0] w fun e w' => ∃ v1_ : Value, e = .returned (.tuple #[.agg #[.bool r1, v1_], .bool r3]) ∧ Kd.RW (Kd.int .i64) 3 w' w.heap.size (fun _ => True) v1_ r2 ∧ Below w.heap.size w w' := by
  have hu27 := Try.underlying27
  have HB := Aside0.mk (Below.refl w.heap.size w)
  have H : ((impl_in.f a0 0 63).bind fun t285 => (if t285 = true then ((impl_ten.f k a0).bind fun t286 => ((impl_big.f k false t286).bind fun bt289 => (some (bt289.1, bt289.2.1, bt289.2.2)))) else (some (false, ([] : List Int), false)))) = some (r1, r2, r3) := h
  clear h
  replace H := Option.bind_eq_some_iff.mp H
  obtain ⟨t285, A20, H⟩ := H
  replace H : (if t285 = true then ((impl_ten.f k a0).bind fun t286 => ((impl_big.f k false t286).bind fun bt289 => (some (bt289.1, bt289.2.1, bt289.2.2)))) else (some (false, ([] : List Int), false))) = some (r1, r2, r3) := H
  have A2 := Aside0.mk A20
  clear A20
  by_cases c3 : t285 = true
  · subst c3
    have H1 : ((impl_ten.f k a0).bind fun t286 => ((impl_big.f k false t286).bind fun bt289 => (some (bt289.1, bt289.2.1, bt289.2.2)))) = some (r1, r2, r3) := by rw [if_pos rfl] at H; exact H
    clear H
    have H := H1
    clear H1
    replace H := Option.bind_eq_some_iff.mp H
    obtain ⟨t286, A40, H⟩ := H
    replace H : ((impl_big.f k false t286).bind fun bt289 => (some (bt289.1, bt289.2.1, bt289.2.2))) = some (r1, r2, r3) := H
    have A4 := Aside0.mk A40
    clear A40
    replace H := Option.bind_eq_some_iff.mp H
    obtain ⟨⟨t289, t290, t293⟩, A50, H⟩ := H
    replace H : (some (t289, t290, t293)) = some (r1, r2, r3) := H
    have A5 := Aside0.mk A50
    clear A50
    simp only [Option.some.injEq, Prod.mk.injEq] at H
    obtain ⟨rfl, rfl, rfl⟩ := H
    go_enter Try.func29, Try.ntmps29
    go_wp2_with (first | ((with_reducible refine gate_dst (N := 2) rfl ?_); refine box_event ?hg (N := 2) ?hd (cs := #[.bool false, .slice none 0 0]) (t := 27) ?hr ?_; (case hd => rfl); (case hg => rfl); (case hr => first | (go_simp; done) | (go_simp; rfl)); intro gb284 hg w6 hbox hb; have n0_ := Aside0.mk (below_step zb hb); have n1_ := Aside0.mk (hbox); have n2_ := Aside0.mk ((by rw [hg]; exact (below_size zb) : w.heap.size ≤ gb284)); have n3_ := Aside0.mk ((by rw [hg]; exact (below_size zb) : w.heap.size ≤ gb284)); clear HB; have HB := n0_; have BK284 := n1_; have GW284 := n2_; have GE284 := n3_; clear n0_ n1_ n2_ n3_; clear hb hbox hg) | ((with_reducible refine gate_callee (f := 53) rfl ?_); refine goesL_ (some 5) rfl rfl Try.func53 (by kernel_rfl) rfl #[.int .i64 a0, .int .i64 0, .int .i64 63] rfl za ?_; (with_reducible refine (impl_in.calls a0 0 63 true _ A2.out).mono ?_); rintro e w' ⟨rfl, ⟨nd, rfl⟩⟩; refine ⟨_, rfl, ?_⟩; (try (rw [drewN_self w6]; generalize hq_ : World.drewN w6 _ = w6; have n0_ : Aside0 (w6.heap[gb284]? = some (.cells #[.bool false, .slice none 0 0] 27 (0, 0))) := ⟨by rw [← hq_]; exact (zk BK284.out)⟩; have n1_ : Aside0 (Below w.heap.size w w6) := ⟨by rw [← hq_]; exact zb⟩; clear BK284 HB hq_; have BK284 := n0_; have HB := n1_; clear n0_ n1_))) | ((with_reducible refine gate_callee (f := 62) rfl ?_); refine goesL_ (some 9) rfl rfl Try.func62 (by kernel_rfl) rfl #[.int .i64 a0] rfl za ?_; (with_reducible refine (impl_ten.calls k a0 t286 _ A4.out).mono ?_); rintro e w7 ⟨v287, rfl, ho0, hb⟩; refine ⟨_, rfl, ?_⟩; have n0_ := Aside0.mk (Kd.V_lower (Kd.V_mono (ok' := fun k_ => k_ ≠ gb284) ho0 (fun k_ hk_ => (Kd.freshB (g := gb284) (o := .cells #[.bool false, .slice none 0 0] 27 (0, 0)) (zk BK284.out) k_ hk_))) (below_size zb)); have n1_ := Aside0.mk (blk_below (g := gb284) (o := .cells #[.bool false, .slice none 0 0] 27 (0, 0)) (zk BK284.out) hb); have n2_ := Aside0.mk (below_step zb hb); clear BK284; clear HB; have HO288 := n0_; have BK284 := n1_; have HB := n2_; clear n0_ n1_ n2_; (try clear hb); (try clear hb2); (try clear hk); (try clear hi); (try clear ho0); obtain ⟨Ao8, co8, eo8⟩ := Kd.V_slice HO288.out; subst eo8) | ((with_reducible refine gate_callee (f := 55) rfl ?_); refine goesL_ (some 10) rfl rfl Try.func55 (by kernel_rfl) rfl #[.bool false, .slice Ao8 t286.length co8] rfl za ?_; (with_reducible refine (impl_big.calls k false _ _ t286 t289 t290 t293 _ ?side1 ?side2 A5.out).mono ?_); (case side1 => repeat (first | exact (Kd.V_reads' HO288.out).2.2 | (with_reducible refine Kd.C_alloc ?_ _) | (with_reducible refine Kd.C_drewN ?_ _) | (with_reducible refine Kd.C_drew ?_))); (case side2 => exact (Kd.V_reads' HO288.out).2.1); rintro e w9 ⟨v291, rfl, ho0, hb⟩; refine ⟨_, rfl, ?_⟩; have n0_ := Aside0.mk (Kd.V_elder' (zV HO288.out) (Kd.RW_base ho0) hb); have n1_ := Aside0.mk (Kd.RW_lower ho0 (below_size zb)); have n2_ := Aside0.mk (blk_below (g := gb284) (o := .cells #[.bool false, .slice none 0 0] 27 (0, 0)) (zk BK284.out) hb); have n3_ := Aside0.mk (below_step zb hb); clear HO288; clear BK284; clear HB; have HO288 := n0_; have HO292 := n1_; have BK284 := n2_; have HB := n3_; clear n0_ n1_ n2_ n3_; (try clear hb); (try clear hb2); (try clear hk); (try clear hi); (try clear ho0); have hcz10_0 : w9.cell? ⟨gb284, 0, none⟩ = some (.bool false) := (blk_cell BK284.out 0).trans rfl; have hcz10_1 : w9.cell? ⟨gb284, 1, none⟩ = some (.slice none 0 0) := (blk_cell BK284.out 1).trans rfl; have hfz10_0 := blk_frozen BK284.out 0; have hfz10_1 := blk_frozen BK284.out 1; obtain ⟨Ao11, co11, eo11⟩ := Kd.RW_slice HO292.out; subst eo11))
    refine bodyPost_ret (results_ct rfl _ _ gb284 27 #[.bool t289, .slice Ao11 t290.length co11] (0, 0) _ rfl (by (with_reducible repeat (first | refine blk_drewN ?_ _ | refine blk_drew ?_ | refine blk_alloc ?_ _)); refine blk_put (cs := #[.bool t289, .slice none 0 0]) ?_ 1 _ rfl; (with_reducible repeat (first | refine blk_drewN ?_ _ | refine blk_drew ?_ | refine blk_alloc ?_ _)); refine blk_put (cs := #[.bool false, .slice none 0 0]) ?_ 0 _ rfl; (with_reducible repeat (first | refine blk_drewN ?_ _ | refine blk_drew ?_ | refine blk_alloc ?_ _)); exact BK284.out) Try.underlying27 rfl (by kernel_rfl)) rfl ?_
    exact ⟨_, by first | rfl | (simp [errW_none, errW_some] <;> rfl) | (simp [*, errW_none, errW_some] <;> rfl), by (with_reducible repeat (first | apply Kd.RW_alloc | apply Kd.RW_drewN | apply Kd.RW_drew)); exact Kd.RW_mono (Kd.RW_far (p := ⟨gb284, 1, none⟩) (Kd.RW_far (p := ⟨gb284, 0, none⟩) (Kd.RW_types HO292.out BK284.out (by decide)) (fun _ hk => hk.2) (.bool t289)) (fun _ hk => hk.2) (.slice Ao11 t290.length co11)) (fun _ hk => trivial), zb⟩
  · replace c3 := Bool.eq_false_iff.mpr c3
    subst c3
    have H1 : (some (false, ([] : List Int), false)) = some (r1, r2, r3) := by rw [if_neg (show ¬ (false = true) by decide)] at H; exact H
    clear H
    have H := H1
    clear H1
    simp only [Option.some.injEq, Prod.mk.injEq] at H
    obtain ⟨rfl, rfl, rfl⟩ := H
    go_enter Try.func29, Try.ntmps29
    go_wp2_with (first | ((with_reducible refine gate_dst (N := 2) rfl ?_); refine box_event ?hg (N := 2) ?hd (cs := #[.bool false, .slice none 0 0]) (t := 27) ?hr ?_; (case hd => rfl); (case hg => rfl); (case hr => first | (go_simp; done) | (go_simp; rfl)); intro gb284 hg w12 hbox hb; have n0_ := Aside0.mk (below_step zb hb); have n1_ := Aside0.mk (hbox); have n2_ := Aside0.mk ((by rw [hg]; exact (below_size zb) : w.heap.size ≤ gb284)); have n3_ := Aside0.mk ((by rw [hg]; exact (below_size zb) : w.heap.size ≤ gb284)); clear HB; have HB := n0_; have BK284 := n1_; have GW284 := n2_; have GE284 := n3_; clear n0_ n1_ n2_ n3_; clear hb hbox hg) | ((with_reducible refine gate_callee (f := 53) rfl ?_); refine goesL_ (some 5) rfl rfl Try.func53 (by kernel_rfl) rfl #[.int .i64 a0, .int .i64 0, .int .i64 63] rfl za ?_; (with_reducible refine (impl_in.calls a0 0 63 false _ A2.out).mono ?_); rintro e w' ⟨rfl, ⟨nd, rfl⟩⟩; refine ⟨_, rfl, ?_⟩; (try (rw [drewN_self w12]; generalize hq_ : World.drewN w12 _ = w12; have n0_ : Aside0 (w12.heap[gb284]? = some (.cells #[.bool false, .slice none 0 0] 27 (0, 0))) := ⟨by rw [← hq_]; exact (zk BK284.out)⟩; have n1_ : Aside0 (Below w.heap.size w w12) := ⟨by rw [← hq_]; exact zb⟩; clear BK284 HB hq_; have BK284 := n0_; have HB := n1_; clear n0_ n1_)); have hcz13_0 : w12.cell? ⟨gb284, 0, none⟩ = some (.bool false) := (blk_cell BK284.out 0).trans rfl; have hcz13_1 : w12.cell? ⟨gb284, 1, none⟩ = some (.slice none 0 0) := (blk_cell BK284.out 1).trans rfl; have hfz13_0 := blk_frozen BK284.out 0; have hfz13_1 := blk_frozen BK284.out 1))
    refine bodyPost_ret (results_ct rfl _ _ gb284 27 #[.bool false, .slice none 0 0] (0, 0) _ rfl (by (with_reducible repeat (first | refine blk_drewN ?_ _ | refine blk_drew ?_ | refine blk_alloc ?_ _)); refine blk_put (cs := #[.bool false, .slice none 0 0]) ?_ 1 _ rfl; (with_reducible repeat (first | refine blk_drewN ?_ _ | refine blk_drew ?_ | refine blk_alloc ?_ _)); refine blk_put (cs := #[.bool false, .slice none 0 0]) ?_ 0 _ rfl; (with_reducible repeat (first | refine blk_drewN ?_ _ | refine blk_drew ?_ | refine blk_alloc ?_ _)); exact BK284.out) Try.underlying27 rfl (by kernel_rfl)) rfl ?_
    exact ⟨_, by first | rfl | (simp [errW_none, errW_some] <;> rfl) | (simp [*, errW_none, errW_some] <;> rfl), by first | exact Kd.RW_nil _ _ _ _ _ | exact Kd.N_nil _ _ _ _ _ | exact Kd.V_nil _ _ _ _ _ | exact Kd.Q_nil _ _ _ _ _ | exact Kd.S_nil _ _ _ _ _, zb⟩
end Go.Proofs.Ytdemeoncjcbojaa.Pw
end
section
namespace Go.Proofs.Ytdemeoncjcbojaa.Pr
open Go.RowKit Go.Proofs.YtdemeoncjcbojaaW.PrintWords Go.Proofs.YtdemeoncjcbojaaW.PrintLast Go.Proofs.Ytdemeoncjcbojaa.Ext Go.Proofs.YtdemeoncjcbojaaW.PrintMore
attribute [local go_sem] max2_int min2_int max_two min_two max_three min_three max_four min_four
set_option linter.unusedVariables false
set_option linter.unusedSimpArgs false
def impl_BigSub.f (k : Nat) (a0_0 : Bool) (l0_1 : List Int) (a1_0 : Bool) (l1_1 : List Int) : Option (Bool × List Int × Bool) := (impl_bigs.f a0_0 l0_1 a1_0 l1_1).bind fun t988 => (if t988 = true then ((impl_Big_signed.f a0_0 l0_1).bind fun bt989 => ((impl_Big_signed.f a1_0 l1_1).bind fun bt993 => ((impl_signed_minus.f bt993.1 bt993.2).bind fun bt997 => ((impl_signed_add.f k bt989.1 bt989.2 bt997.1 bt997.2).bind fun bt1001 => ((impl_big.f k bt1001.1 bt1001.2).bind fun bt1006 => (some (bt1006.1, bt1006.2.1, bt1006.2.2))))))) else (some (false, ([] : List Int), false)))
end Go.Proofs.Ytdemeoncjcbojaa.Pr
end
section
namespace Go.Proofs.Ytdemeoncjcbojaa.Pw
open Go.Proofs.Ytdemeoncjcbojaa.Pr Go.Proofs.Ytdemeoncjcbojaa.RWs Go.RowKit Go.Proofs.YtdemeoncjcbojaaW.PrintWords Go.Proofs.YtdemeoncjcbojaaW.PrintLast Go.Proofs.Ytdemeoncjcbojaa.Ext Go.Proofs.YtdemeoncjcbojaaW.PrintMore
attribute [local go_sem] max2_int min2_int max_two min_two max_three min_three max_four min_four
set_option linter.unusedVariables false
set_option linter.unusedSimpArgs false
def laws_FnExactBigTen.f (k : Nat) (a0 : Int) : Option (Bool) := (spec_BigTen.f k a0).bind fun bt294 => ((impl_BigTen.f k a0).bind fun bt300 => ((laws_eqBig.f k bt300.1 bt300.2.1 bt294.1 bt294.2.1).bind fun t306 => (if t306 = true then (if (bt300.2.2 != bt294.2.2) = true then (none) else ((laws_markBig.f k bt300.1 bt300.2.1 1).bind fun bt307 => ((laws_heldBig.f k bt300.1 bt307.2 1).bind fun t309 => (if t309 < 0 then (none) else (if t309 = bt307.1 then ((impl_BigTen.f k a0).bind fun bt310 => ((laws_eqBig.f k bt310.1 bt310.2.1 bt294.1 bt294.2.1).bind fun t316 => (if t316 = true then (if (bt310.2.2 != bt294.2.2) = true then (none) else ((laws_heldBig.f k bt300.1 bt307.2 1).bind fun t317 => (if t317 < 0 then (none) else (if t317 = bt307.1 then (some true) else (none))))) else (none)))) else (none)))))) else (none))))
set_option maxHeartbeats 8000000 in
set_option maxRecDepth 100000 in
theorem laws_FnExactBigTen.calls (k : Nat) (a0 : Int) (r : Bool) (w : World) (h : laws_FnExactBigTen.f k a0 = some r) :
    Calls Try.prog 5 #[.int .i64 a0] w fun e w' => e = .returned (.bool r) ∧ Below w.heap.size w w' := by
  have hu27 := Try.underlying27
  have HB := Aside0.mk (Below.refl w.heap.size w)
  have H : ((spec_BigTen.f k a0).bind fun bt294 => ((impl_BigTen.f k a0).bind fun bt300 => ((laws_eqBig.f k bt300.1 bt300.2.1 bt294.1 bt294.2.1).bind fun t306 => (if t306 = true then (if (bt300.2.2 != bt294.2.2) = true then (none) else ((laws_markBig.f k bt300.1 bt300.2.1 1).bind fun bt307 => ((laws_heldBig.f k bt300.1 bt307.2 1).bind fun t309 => (if t309 < 0 then (none) else (if t309 = bt307.1 then ((impl_BigTen.f k a0).bind fun bt310 => ((laws_eqBig.f k bt310.1 bt310.2.1 bt294.1 bt294.2.1).bind fun t316 => (if t316 = true then (if (bt310.2.2 != bt294.2.2) = true then (none) else ((laws_heldBig.f k bt300.1 bt307.2 1).bind fun t317 => (if t317 < 0 then (none) else (if t317 = bt307.1 then (some true) else (none))))) else (none)))) else (none)))))) else (none))))) = some r := h
  clear h
  replace H := Option.bind_eq_some_iff.mp H
  obtain ⟨⟨t294, t295, t298⟩, A20, H⟩ := H
  replace H : ((impl_BigTen.f k a0).bind fun bt300 => ((laws_eqBig.f k bt300.1 bt300.2.1 t294 t295).bind fun t306 => (if t306 = true then (if (bt300.2.2 != t298) = true then (none) else ((laws_markBig.f k bt300.1 bt300.2.1 1).bind fun bt307 => ((laws_heldBig.f k bt300.1 bt307.2 1).bind fun t309 => (if t309 < 0 then (none) else (if t309 = bt307.1 then ((impl_BigTen.f k a0).bind fun bt310 => ((laws_eqBig.f k bt310.1 bt310.2.1 t294 t295).bind fun t316 => (if t316 = true then (if (bt310.2.2 != t298) = true then (none) else ((laws_heldBig.f k bt300.1 bt307.2 1).bind fun t317 => (if t317 < 0 then (none) else (if t317 = bt307.1 then (some true) else (none))))) else (none)))) else (none)))))) else (none)))) = some r := H
  have A2 := Aside0.mk A20
  clear A20
  replace H := Option.bind_eq_some_iff.mp H
  obtain ⟨⟨t300, t301, t304⟩, A30, H⟩ := H
  replace H : ((laws_eqBig.f k t300 t301 t294 t295).bind fun t306 => (if t306 = true then (if (t304 != t298) = true then (none) else ((laws_markBig.f k t300 t301 1).bind fun bt307 => ((laws_heldBig.f k t300 bt307.2 1).bind fun t309 => (if t309 < 0 then (none) else (if t309 = bt307.1 then ((impl_BigTen.f k a0).bind fun bt310 => ((laws_eqBig.f k bt310.1 bt310.2.1 t294 t295).bind fun t316 => (if t316 = true then (if (bt310.2.2 != t298) = true then (none) else ((laws_heldBig.f k t300 bt307.2 1).bind fun t317 => (if t317 < 0 then (none) else (if t317 = bt307.1 then (some true) else (none))))) else (none)))) else (none)))))) else (none))) = some r := H
  have A3 := Aside0.mk A30
  clear A30
  replace H := Option.bind_eq_some_iff.mp H
  obtain ⟨t306, A40, H⟩ := H
  replace H : (if t306 = true then (if (t304 != t298) = true then (none) else ((laws_markBig.f k t300 t301 1).bind fun bt307 => ((laws_heldBig.f k t300 bt307.2 1).bind fun t309 => (if t309 < 0 then (none) else (if t309 = bt307.1 then ((impl_BigTen.f k a0).bind fun bt310 => ((laws_eqBig.f k bt310.1 bt310.2.1 t294 t295).bind fun t316 => (if t316 = true then (if (bt310.2.2 != t298) = true then (none) else ((laws_heldBig.f k t300 bt307.2 1).bind fun t317 => (if t317 < 0 then (none) else (if t317 = bt307.1 then (some true) else (none))))) else (none)))) else (none)))))) else (none)) = some r := H
  have A4 := Aside0.mk A40
  clear A40
  by_cases c5 : t306 = true
  · subst c5
    have H1 : (if (t304 != t298) = true then (none) else ((laws_markBig.f k t300 t301 1).bind fun bt307 => ((laws_heldBig.f k t300 bt307.2 1).bind fun t309 => (if t309 < 0 then (none) else (if t309 = bt307.1 then ((impl_BigTen.f k a0).bind fun bt310 => ((laws_eqBig.f k bt310.1 bt310.2.1 t294 t295).bind fun t316 => (if t316 = true then (if (bt310.2.2 != t298) = true then (none) else ((laws_heldBig.f k t300 bt307.2 1).bind fun t317 => (if t317 < 0 then (none) else (if t317 = bt307.1 then (some true) else (none))))) else (none)))) else (none)))))) = some r := by rw [if_pos rfl] at H; exact H
    clear H
    have H := H1
    clear H1
    by_cases c6 : (t304 != t298) = true
    · rw [if_pos c6] at H
      exact absurd H (by simp)
    · rw [if_neg c6] at H
      have c6b0 : (t304 != t298) = false := by simpa using c6
      (try (have c6b1 : decide (t304 = t298) = true := by simpa using c6))
      (try (have c6b2 : (t304 == t298) = true := by simpa using c6))
      clear c6
      replace H := Option.bind_eq_some_iff.mp H
      obtain ⟨⟨t307, t308⟩, A70, H⟩ := H
      replace H : ((laws_heldBig.f k t300 t308 1).bind fun t309 => (if t309 < 0 then (none) else (if t309 = t307 then ((impl_BigTen.f k a0).bind fun bt310 => ((laws_eqBig.f k bt310.1 bt310.2.1 t294 t295).bind fun t316 => (if t316 = true then (if (bt310.2.2 != t298) = true then (none) else ((laws_heldBig.f k t300 t308 1).bind fun t317 => (if t317 < 0 then (none) else (if t317 = t307 then (some true) else (none))))) else (none)))) else (none)))) = some r := H
      have A7 := Aside0.mk A70
      clear A70
      replace H := Option.bind_eq_some_iff.mp H
      obtain ⟨t309, A80, H⟩ := H
      replace H : (if t309 < 0 then (none) else (if t309 = t307 then ((impl_BigTen.f k a0).bind fun bt310 => ((laws_eqBig.f k bt310.1 bt310.2.1 t294 t295).bind fun t316 => (if t316 = true then (if (bt310.2.2 != t298) = true then (none) else ((laws_heldBig.f k t300 t308 1).bind fun t317 => (if t317 < 0 then (none) else (if t317 = t307 then (some true) else (none))))) else (none)))) else (none))) = some r := H
      have A8 := Aside0.mk A80
      clear A80
      by_cases c9 : t309 < 0
      · rw [if_pos c9] at H
        exact absurd H (by simp)
      · rw [if_neg c9] at H
        have c9b0 : decide (t309 < 0) = false := decide_eq_false c9
        clear c9
        by_cases c10 : t309 = t307
        · rw [if_pos c10] at H
          have c10b0 : (t309 == t307) = true := beq_iff_eq.mpr c10
          have c10b1 : (t309 != t307) = false := bne_eq_false_iff_eq.mpr c10
          clear c10
          replace H := Option.bind_eq_some_iff.mp H
          obtain ⟨⟨t310, t311, t314⟩, A110, H⟩ := H
          replace H : ((laws_eqBig.f k t310 t311 t294 t295).bind fun t316 => (if t316 = true then (if (t314 != t298) = true then (none) else ((laws_heldBig.f k t300 t308 1).bind fun t317 => (if t317 < 0 then (none) else (if t317 = t307 then (some true) else (none))))) else (none))) = some r := H
          have A11 := Aside0.mk A110
          clear A110
          replace H := Option.bind_eq_some_iff.mp H
          obtain ⟨t316, A120, H⟩ := H
          replace H : (if t316 = true then (if (t314 != t298) = true then (none) else ((laws_heldBig.f k t300 t308 1).bind fun t317 => (if t317 < 0 then (none) else (if t317 = t307 then (some true) else (none))))) else (none)) = some r := H
          have A12 := Aside0.mk A120
          clear A120
          by_cases c13 : t316 = true
          · subst c13
            have H1 : (if (t314 != t298) = true then (none) else ((laws_heldBig.f k t300 t308 1).bind fun t317 => (if t317 < 0 then (none) else (if t317 = t307 then (some true) else (none))))) = some r := by rw [if_pos rfl] at H; exact H
            clear H
            have H := H1
            clear H1
            by_cases c14 : (t314 != t298) = true
            · rw [if_pos c14] at H
              exact absurd H (by simp)
            · rw [if_neg c14] at H
              have c14b0 : (t314 != t298) = false := by simpa using c14
              (try (have c14b1 : decide (t314 = t298) = true := by simpa using c14))
              (try (have c14b2 : (t314 == t298) = true := by simpa using c14))
              clear c14
              replace H := Option.bind_eq_some_iff.mp H
              obtain ⟨t317, A150, H⟩ := H
              replace H : (if t317 < 0 then (none) else (if t317 = t307 then (some true) else (none))) = some r := H
              have A15 := Aside0.mk A150
              clear A150
              by_cases c16 : t317 < 0
              · rw [if_pos c16] at H
                exact absurd H (by simp)
              · rw [if_neg c16] at H
                have c16b0 : decide (t317 < 0) = false := decide_eq_false c16
                clear c16
                by_cases c17 : t317 = t307
                · rw [if_pos c17] at H
                  have c17b0 : (t317 == t307) = true := beq_iff_eq.mpr c17
                  have c17b1 : (t317 != t307) = false := bne_eq_false_iff_eq.mpr c17
                  clear c17
                  obtain rfl := Option.some.inj H
                  go_enter Try.func5, Try.ntmps5
                  go_wp2_with (first | ((with_reducible refine gate_callee (f := 28) rfl ?_); refine goesL_ (some 13) rfl rfl Try.func28 (by kernel_rfl) rfl #[.int .i64 a0] rfl za ?_; (with_reducible refine (spec_BigTen.calls k a0 t294 t295 t298 _ A2.out).mono ?_); rintro e w18 ⟨v296, rfl, ho0, hb⟩; refine ⟨_, rfl, ?_⟩; have n0_ := Aside0.mk (Kd.RW_lower ho0 (below_size zb)); have n1_ := Aside0.mk (below_step zb hb); clear HB; have HO297 := n0_; have HB := n1_; clear n0_ n1_; (try clear hb); (try clear hb2); (try clear hk); (try clear hi); (try clear ho0)) | ((with_reducible refine gate_dst (N := 3) rfl ?_); refine box_event ?hg (N := 3) ?hd (cs := #[.bool false, .slice none 0 0]) (t := 27) ?hr ?_; (case hd => rfl); (case hg => rfl); (case hr => first | (go_simp; done) | (go_simp; rfl)); intro gb299 hg w19 hbox hb; have n0_ := Aside0.mk (Kd.RW_below (zRW HO297.out) hb); have n1_ := Aside0.mk (below_step zb hb); have n2_ := Aside0.mk (hbox); have n3_ := Aside0.mk ((by rw [hg]; exact (below_size zb) : w.heap.size ≤ gb299)); have n4_ := Aside0.mk ((by rw [hg]; exact (below_size zb) : w.heap.size ≤ gb299)); clear HO297; clear HB; have HO297 := n0_; have HB := n1_; have BK299 := n2_; have GW299 := n3_; have GE299 := n4_; clear n0_ n1_ n2_ n3_ n4_; clear hb hbox hg; have hcz20_0 : w19.cell? ⟨gb299, 0, none⟩ = some (.bool false) := (blk_cell BK299.out 0).trans rfl; have hcz20_1 : w19.cell? ⟨gb299, 1, none⟩ = some (.slice none 0 0) := (blk_cell BK299.out 1).trans rfl; have hfz20_0 := blk_frozen BK299.out 0; have hfz20_1 := blk_frozen BK299.out 1; obtain ⟨Ao21, co21, eo21⟩ := Kd.RW_slice HO297.out; subst eo21) | ((with_reducible refine gate_callee (f := 29) rfl ?_); refine goesL_ (some 18) rfl rfl Try.func29 (by kernel_rfl) rfl #[.int .i64 a0] rfl za ?_; (with_reducible refine (impl_BigTen.calls k a0 t300 t301 t304 _ A3.out).mono ?_); rintro e w22 ⟨v302, rfl, ho0, hb⟩; refine ⟨_, rfl, ?_⟩; have n0_ := Aside0.mk (Kd.RW_elder' (by (with_reducible repeat (first | apply Kd.RW_alloc | apply Kd.RW_drewN | apply Kd.RW_drew)); exact (Kd.RW_mono (Kd.RW_far (p := ⟨gb299, 1, none⟩) (Kd.RW_far (p := ⟨gb299, 0, none⟩) (Kd.RW_types HO297.out BK299.out (by decide)) (fun _ hk => hk.2) (.bool t294)) (fun _ hk => hk.2) (.slice Ao21 t295.length co21)) (fun _ h_ => h_.1))) (Kd.RW_base ho0) hb); have n1_ := Aside0.mk (Kd.RW_lower (Kd.RW_new' ho0 (Kd.RW_lt (by (with_reducible repeat (first | apply Kd.RW_alloc | apply Kd.RW_drewN | apply Kd.RW_drew)); exact (Kd.RW_mono (Kd.RW_far (p := ⟨gb299, 1, none⟩) (Kd.RW_far (p := ⟨gb299, 0, none⟩) (Kd.RW_types HO297.out BK299.out (by decide)) (fun _ hk => hk.2) (.bool t294)) (fun _ hk => hk.2) (.slice Ao21 t295.length co21)) (fun _ h_ => h_.1))))) (below_size zb)); have n2_ := Aside0.mk (blk_below (g := gb299) (o := .cells #[.bool t294, .slice Ao21 t295.length co21] 27 (0, 0)) (by (with_reducible repeat (first | refine blk_drewN ?_ _ | refine blk_drew ?_ | refine blk_alloc ?_ _)); refine blk_put (cs := #[.bool t294, .slice none 0 0]) ?_ 1 _ rfl; (with_reducible repeat (first | refine blk_drewN ?_ _ | refine blk_drew ?_ | refine blk_alloc ?_ _)); refine blk_put (cs := #[.bool false, .slice none 0 0]) ?_ 0 _ rfl; (with_reducible repeat (first | refine blk_drewN ?_ _ | refine blk_drew ?_ | refine blk_alloc ?_ _)); exact BK299.out) hb); have n3_ := Aside0.mk (below_step zb hb); clear HO297; clear BK299; clear HB; have HO297 := n0_; have HO303 := n1_; have BK299 := n2_; have HB := n3_; clear n0_ n1_ n2_ n3_; (try clear hb); (try clear hb2); (try clear hk); (try clear hi); (try clear ho0)) | ((with_reducible refine gate_dst (N := 5) rfl ?_); refine box_event ?hg (N := 5) ?hd (cs := #[.bool false, .slice none 0 0]) (t := 27) ?hr ?_; (case hd => rfl); (case hg => rfl); (case hr => first | (go_simp; done) | (go_simp; rfl)); intro gb305 hg w23 hbox hb; have n0_ := Aside0.mk (Kd.RW_below (zRW HO297.out) hb); have n1_ := Aside0.mk (Kd.RW_below (zRW HO303.out) hb); have n2_ := Aside0.mk (blk_below (g := gb299) (o := .cells #[.bool t294, .slice Ao21 t295.length co21] 27 (0, 0)) (zk BK299.out) hb); have n3_ := Aside0.mk (below_step zb hb); have n4_ := Aside0.mk (hbox); have n5_ := Aside0.mk ((by rw [hg]; exact (below_size zb) : w.heap.size ≤ gb305)); have n6_ := Aside0.mk ((by rw [hg]; exact (below_size zb) : w.heap.size ≤ gb305)); have n7_ := Aside0.mk ((by rw [hg]; exact Nat.ne_of_lt (blk_lt (g := gb299) (o := .cells #[.bool t294, .slice Ao21 t295.length co21] 27 (0, 0)) (zk BK299.out)) : gb299 ≠ gb305)); have n8_ := Aside0.mk ((by rw [hg]; exact Nat.ne_of_gt (blk_lt (g := gb299) (o := .cells #[.bool t294, .slice Ao21 t295.length co21] 27 (0, 0)) (zk BK299.out)) : gb305 ≠ gb299)); clear HO297; clear HO303; clear BK299; clear HB; have HO297 := n0_; have HO303 := n1_; have BK299 := n2_; have HB := n3_; have BK305 := n4_; have GW305 := n5_; have GE305 := n6_; have NB299_305 := n7_; have NB305_299 := n8_; clear n0_ n1_ n2_ n3_ n4_ n5_ n6_ n7_ n8_; clear hb hbox hg; have hnb24 := NB305_299.out; have hnc24 := NB299_305.out; have hcz25_0 : w23.cell? ⟨gb305, 0, none⟩ = some (.bool false) := (blk_cell BK305.out 0).trans rfl; have hcz25_1 : w23.cell? ⟨gb305, 1, none⟩ = some (.slice none 0 0) := (blk_cell BK305.out 1).trans rfl; have hfz25_0 := blk_frozen BK305.out 0; have hfz25_1 := blk_frozen BK305.out 1; obtain ⟨Ao26, co26, eo26⟩ := Kd.RW_slice HO303.out; subst eo26; have hcz27_0 : w23.cell? ⟨gb299, 0, none⟩ = some (.bool t294) := (blk_cell BK299.out 0).trans rfl; have hcz27_1 : w23.cell? ⟨gb299, 1, none⟩ = some (.slice Ao21 t295.length co21) := (blk_cell BK299.out 1).trans rfl; have hfz27_0 := blk_frozen BK299.out 0; have hfz27_1 := blk_frozen BK299.out 1) | ((with_reducible refine gate_callee (f := 23) rfl ?_); refine goesL_ (some 23) rfl rfl Try.func23 (by kernel_rfl) rfl #[.agg #[.bool t300, .slice Ao26 t301.length co26], .agg #[.bool t294, .slice Ao21 t295.length co21]] rfl za ?_; (with_reducible refine (laws_eqBig.calls k t300 _ _ t301 t294 _ _ t295 true _ ?side1 ?side2 ?side3 ?side4 A4.out).mono ?_); (case side1 => refine (Kd.RW_reads' (e := 3) (base := w.heap.size) (ok := fun k_ => (True ∧ some k_ ≠ (.slice Ao21 t295.length co21 : Value).ownBlock)) (n := t301.length) (c := co26) ?_).2.2; exact (by (with_reducible repeat (first | apply Kd.RW_alloc | apply Kd.RW_drewN | apply Kd.RW_drew)); exact (Kd.RW_mono (Kd.RW_far (p := ⟨gb305, 1, none⟩) (Kd.RW_far (p := ⟨gb305, 0, none⟩) (Kd.RW_types HO303.out BK305.out (by decide)) (fun _ hk => hk.2) (.bool t300)) (fun _ hk => hk.2) (.slice Ao26 t301.length co26)) (fun _ h_ => h_.1)))); (case side2 => exact (Kd.RW_reads' HO303.out).2.1); (case side3 => refine (Kd.RW_reads' (e := 3) (base := w.heap.size) (ok := fun k_ => (True ∧ some k_ ≠ (.slice Ao26 t301.length co26 : Value).ownBlock)) (n := t295.length) (c := co21) ?_).2.2; exact (by (with_reducible repeat (first | apply Kd.RW_alloc | apply Kd.RW_drewN | apply Kd.RW_drew)); exact (Kd.RW_mono (Kd.RW_far (p := ⟨gb305, 1, none⟩) (Kd.RW_far (p := ⟨gb305, 0, none⟩) (Kd.RW_types HO297.out BK305.out (by decide)) (fun _ hk => hk.2) (.bool t300)) (fun _ hk => hk.2) (.slice Ao26 t301.length co26)) (fun _ h_ => h_.1)))); (case side4 => exact (Kd.RW_reads' HO297.out).2.1); rintro e w28 ⟨rfl, hb⟩; refine ⟨_, rfl, ?_⟩; have n0_ := Aside0.mk (Kd.RW_below (by (with_reducible repeat (first | apply Kd.RW_alloc | apply Kd.RW_drewN | apply Kd.RW_drew)); exact (Kd.RW_mono (Kd.RW_far (p := ⟨gb305, 1, none⟩) (Kd.RW_far (p := ⟨gb305, 0, none⟩) (Kd.RW_types HO297.out BK305.out (by decide)) (fun _ hk => hk.2) (.bool t300)) (fun _ hk => hk.2) (.slice Ao26 t301.length co26)) (fun _ h_ => h_.1))) hb); have n1_ := Aside0.mk (Kd.RW_below (by (with_reducible repeat (first | apply Kd.RW_alloc | apply Kd.RW_drewN | apply Kd.RW_drew)); exact (Kd.RW_mono (Kd.RW_far (p := ⟨gb305, 1, none⟩) (Kd.RW_far (p := ⟨gb305, 0, none⟩) (Kd.RW_types HO303.out BK305.out (by decide)) (fun _ hk => hk.2) (.bool t300)) (fun _ hk => hk.2) (.slice Ao26 t301.length co26)) (fun _ h_ => h_.1))) hb); have n2_ := Aside0.mk (blk_below (g := gb299) (o := .cells #[.bool t294, .slice Ao21 t295.length co21] 27 (0, 0)) (zk BK299.out) hb); have n3_ := Aside0.mk (blk_below (g := gb305) (o := .cells #[.bool t300, .slice Ao26 t301.length co26] 27 (0, 0)) (by (with_reducible repeat (first | refine blk_drewN ?_ _ | refine blk_drew ?_ | refine blk_alloc ?_ _)); refine blk_put (cs := #[.bool t300, .slice none 0 0]) ?_ 1 _ rfl; (with_reducible repeat (first | refine blk_drewN ?_ _ | refine blk_drew ?_ | refine blk_alloc ?_ _)); refine blk_put (cs := #[.bool false, .slice none 0 0]) ?_ 0 _ rfl; (with_reducible repeat (first | refine blk_drewN ?_ _ | refine blk_drew ?_ | refine blk_alloc ?_ _)); exact BK305.out) hb); have n4_ := Aside0.mk (below_step zb hb); clear HO297; clear HO303; clear BK299; clear BK305; clear HB; have HO297 := n0_; have HO303 := n1_; have BK299 := n2_; have BK305 := n3_; have HB := n4_; clear n0_ n1_ n2_ n3_ n4_; (try clear hb); (try clear hb2); (try clear hk); (try clear hi); have hcz29_0 : w28.cell? ⟨gb305, 0, none⟩ = some (.bool t300) := (blk_cell BK305.out 0).trans rfl; have hcz29_1 : w28.cell? ⟨gb305, 1, none⟩ = some (.slice Ao26 t301.length co26) := (blk_cell BK305.out 1).trans rfl; have hfz29_0 := blk_frozen BK305.out 0; have hfz29_1 := blk_frozen BK305.out 1) | ((with_reducible refine gate_callee (f := 26) rfl ?_); refine goesL_ (some 32) rfl rfl Try.func26 (by kernel_rfl) rfl #[.agg #[.bool t300, .slice Ao26 t301.length co26], .int .i64 1] rfl za ?_; (with_reducible refine (laws_markBig.calls k t300 (fun k_ => some k_ = (.slice Ao26 t301.length co26 : Value).ownBlock) (.slice Ao26 t301.length co26) t301 1 t307 t308 w _ ?side1 ?side2 A7.out).mono ?_); (case side1 => repeat (first | (with_reducible first | exact HB.out | apply below_alloc | apply pw_below_drewN | apply below_drew1 | refine below_set ?_ GE299.out | refine below_set ?_ GE305.out) | exact HB.out)); (case side2 => exact Kd.RW_tight rfl HO303.out); rintro e w30 ⟨rfl, hy0, hb, hkp⟩; refine ⟨_, rfl, ?_⟩; have n0_ := Aside0.mk (Kd.RW_mono (ok' := fun k_ => some k_ ≠ (.slice Ao26 t301.length co26 : Value).ownBlock) (Kd.RW_keptB (HO297.out) hkp (fun k_ hk_ hs_ => (hk_.2) hs_)) (fun k_ hk_ => hk_.1.2)); have n1_ := Aside0.mk (blk_kept (zk BK299.out) hkp (fun hs_ => (fun e_ => (Kd.RW_ne HO303.out BK299.out (by decide)) e_) hs_)); have n2_ := Aside0.mk (Kd.RW_reok rfl hy0 (fun k_ e_ => HO303.out.1 k_ e_)); have n3_ := Aside0.mk (blk_kept (zk BK305.out) hkp (fun hs_ => (fun e_ => (Kd.RW_ne HO303.out BK305.out (by decide)) e_) hs_)); have n4_ := Aside0.mk (hb); clear HO297; clear BK299; clear HO303; clear BK305; clear HB; have HO297 := n0_; have BK299 := n1_; have HO303 := n2_; have BK305 := n3_; have HB := n4_; clear n0_ n1_ n2_ n3_ n4_; (try clear hb); (try clear hkp); (try clear hy0); have hcz31_0 : w30.cell? ⟨gb305, 0, none⟩ = some (.bool t300) := (blk_cell BK305.out 0).trans rfl; have hcz31_1 : w30.cell? ⟨gb305, 1, none⟩ = some (.slice Ao26 t301.length co26) := (blk_cell BK305.out 1).trans rfl; have hfz31_0 := blk_frozen BK305.out 0; have hfz31_1 := blk_frozen BK305.out 1) | ((with_reducible refine gate_callee (f := 27) rfl ?_); refine goesL_ (some 35) rfl rfl Try.func27 (by kernel_rfl) rfl #[.agg #[.bool t300, .slice Ao26 t308.length co26], .int .i64 1] rfl (by (try simp only [List.map_toArray, List.map_cons, List.map_nil]); first | done | (rw [show t308.length = t301.length from (Kd.RW_reads' HO303.out).1.symm] <;> rfl) | rfl | (simp only [List.length_drop, List.length_take]; rfl)) ?_; (with_reducible refine (laws_heldBig.calls k t300 _ _ t308 1 t309 _ ?side1 ?side2 A8.out).mono ?_); (case side1 => repeat (first | exact (Kd.RW_reads' HO303.out).2.2 | (with_reducible refine Kd.C_alloc ?_ _) | (with_reducible refine Kd.C_drewN ?_ _) | (with_reducible refine Kd.C_drew ?_))); (case side2 => rw [show t308.length = t301.length from (Kd.RW_reads' HO303.out).1.symm]; exact (Kd.RW_reads' HO303.out).2.1); rintro e w32 ⟨rfl, hb⟩; refine ⟨_, rfl, ?_⟩; have n0_ := Aside0.mk (Kd.RW_below (zRW HO297.out) hb); have n1_ := Aside0.mk (Kd.RW_below (zRW HO303.out) hb); have n2_ := Aside0.mk (blk_below (g := gb299) (o := .cells #[.bool t294, .slice Ao21 t295.length co21] 27 (0, 0)) (zk BK299.out) hb); have n3_ := Aside0.mk (blk_below (g := gb305) (o := .cells #[.bool t300, .slice Ao26 t301.length co26] 27 (0, 0)) (zk BK305.out) hb); have n4_ := Aside0.mk (below_step zb hb); clear HO297; clear HO303; clear BK299; clear BK305; clear HB; have HO297 := n0_; have HO303 := n1_; have BK299 := n2_; have BK305 := n3_; have HB := n4_; clear n0_ n1_ n2_ n3_ n4_; (try clear hb); (try clear hb2); (try clear hk); (try clear hi)) | ((with_reducible refine gate_callee (f := 29) rfl ?_); refine goesL_ (some 43) rfl rfl Try.func29 (by kernel_rfl) rfl #[.int .i64 a0] rfl za ?_; (with_reducible refine (impl_BigTen.calls k a0 t310 t311 t314 _ A11.out).mono ?_); rintro e w33 ⟨v312, rfl, ho0, hb⟩; refine ⟨_, rfl, ?_⟩; have n0_ := Aside0.mk (Kd.RW_elder' (zRW HO297.out) (Kd.RW_base ho0) hb); have n1_ := Aside0.mk (Kd.RW_elder' (zRW HO303.out) (Kd.RW_base ho0) hb); have n2_ := Aside0.mk (Kd.RW_lower (Kd.RW_new' (Kd.RW_new' ho0 (Kd.RW_lt (zRW HO297.out))) (Kd.RW_lt (zRW HO303.out))) (below_size zb)); have n3_ := Aside0.mk (blk_below (g := gb299) (o := .cells #[.bool t294, .slice Ao21 t295.length co21] 27 (0, 0)) (zk BK299.out) hb); have n4_ := Aside0.mk (blk_below (g := gb305) (o := .cells #[.bool t300, .slice Ao26 t301.length co26] 27 (0, 0)) (zk BK305.out) hb); have n5_ := Aside0.mk (below_step zb hb); clear HO297; clear HO303; clear BK299; clear BK305; clear HB; have HO297 := n0_; have HO303 := n1_; have HO313 := n2_; have BK299 := n3_; have BK305 := n4_; have HB := n5_; clear n0_ n1_ n2_ n3_ n4_ n5_; (try clear hb); (try clear hb2); (try clear hk); (try clear hi); (try clear ho0)) | ((with_reducible refine gate_dst (N := 9) rfl ?_); refine box_event ?hg (N := 9) ?hd (cs := #[.bool false, .slice none 0 0]) (t := 27) ?hr ?_; (case hd => rfl); (case hg => rfl); (case hr => first | (go_simp; done) | (go_simp; rfl)); intro gb315 hg w34 hbox hb; have n0_ := Aside0.mk (Kd.RW_below (zRW HO297.out) hb); have n1_ := Aside0.mk (Kd.RW_below (zRW HO303.out) hb); have n2_ := Aside0.mk (Kd.RW_below (zRW HO313.out) hb); have n3_ := Aside0.mk (blk_below (g := gb299) (o := .cells #[.bool t294, .slice Ao21 t295.length co21] 27 (0, 0)) (zk BK299.out) hb); have n4_ := Aside0.mk (blk_below (g := gb305) (o := .cells #[.bool t300, .slice Ao26 t301.length co26] 27 (0, 0)) (zk BK305.out) hb); have n5_ := Aside0.mk (below_step zb hb); have n6_ := Aside0.mk (hbox); have n7_ := Aside0.mk ((by rw [hg]; exact (below_size zb) : w.heap.size ≤ gb315)); have n8_ := Aside0.mk ((by rw [hg]; exact (below_size zb) : w.heap.size ≤ gb315)); have n9_ := Aside0.mk ((by rw [hg]; exact Nat.ne_of_lt (blk_lt (g := gb299) (o := .cells #[.bool t294, .slice Ao21 t295.length co21] 27 (0, 0)) (zk BK299.out)) : gb299 ≠ gb315)); have n10_ := Aside0.mk ((by rw [hg]; exact Nat.ne_of_gt (blk_lt (g := gb299) (o := .cells #[.bool t294, .slice Ao21 t295.length co21] 27 (0, 0)) (zk BK299.out)) : gb315 ≠ gb299)); have n11_ := Aside0.mk ((by rw [hg]; exact Nat.ne_of_lt (blk_lt (g := gb305) (o := .cells #[.bool t300, .slice Ao26 t301.length co26] 27 (0, 0)) (zk BK305.out)) : gb305 ≠ gb315)); have n12_ := Aside0.mk ((by rw [hg]; exact Nat.ne_of_gt (blk_lt (g := gb305) (o := .cells #[.bool t300, .slice Ao26 t301.length co26] 27 (0, 0)) (zk BK305.out)) : gb315 ≠ gb305)); clear HO297; clear HO303; clear HO313; clear BK299; clear BK305; clear HB; have HO297 := n0_; have HO303 := n1_; have HO313 := n2_; have BK299 := n3_; have BK305 := n4_; have HB := n5_; have BK315 := n6_; have GW315 := n7_; have GE315 := n8_; have NB299_315 := n9_; have NB315_299 := n10_; have NB305_315 := n11_; have NB315_305 := n12_; clear n0_ n1_ n2_ n3_ n4_ n5_ n6_ n7_ n8_ n9_ n10_ n11_ n12_; clear hb hbox hg; have hnb35 := NB315_299.out; have hnc35 := NB299_315.out; have hnb36 := NB315_305.out; have hnc36 := NB305_315.out; have hcz37_0 : w34.cell? ⟨gb315, 0, none⟩ = some (.bool false) := (blk_cell BK315.out 0).trans rfl; have hcz37_1 : w34.cell? ⟨gb315, 1, none⟩ = some (.slice none 0 0) := (blk_cell BK315.out 1).trans rfl; have hfz37_0 := blk_frozen BK315.out 0; have hfz37_1 := blk_frozen BK315.out 1; obtain ⟨Ao38, co38, eo38⟩ := Kd.RW_slice HO313.out; subst eo38; have hcz39_0 : w34.cell? ⟨gb299, 0, none⟩ = some (.bool t294) := (blk_cell BK299.out 0).trans rfl; have hcz39_1 : w34.cell? ⟨gb299, 1, none⟩ = some (.slice Ao21 t295.length co21) := (blk_cell BK299.out 1).trans rfl; have hfz39_0 := blk_frozen BK299.out 0; have hfz39_1 := blk_frozen BK299.out 1) | ((with_reducible refine gate_callee (f := 23) rfl ?_); refine goesL_ (some 48) rfl rfl Try.func23 (by kernel_rfl) rfl #[.agg #[.bool t310, .slice Ao38 t311.length co38], .agg #[.bool t294, .slice Ao21 t295.length co21]] rfl za ?_; (with_reducible refine (laws_eqBig.calls k t310 _ _ t311 t294 _ _ t295 true _ ?side1 ?side2 ?side3 ?side4 A12.out).mono ?_); (case side1 => refine (Kd.RW_reads' (e := 3) (base := w.heap.size) (ok := fun k_ => ((True ∧ some k_ ≠ (.slice Ao21 t295.length co21 : Value).ownBlock) ∧ some k_ ≠ (.slice Ao26 t301.length co26 : Value).ownBlock)) (n := t311.length) (c := co38) ?_).2.2; exact (by (with_reducible repeat (first | apply Kd.RW_alloc | apply Kd.RW_drewN | apply Kd.RW_drew)); exact (Kd.RW_mono (Kd.RW_far (p := ⟨gb315, 1, none⟩) (Kd.RW_far (p := ⟨gb315, 0, none⟩) (Kd.RW_types HO313.out BK315.out (by decide)) (fun _ hk => hk.2) (.bool t310)) (fun _ hk => hk.2) (.slice Ao38 t311.length co38)) (fun _ h_ => h_.1)))); (case side2 => exact (Kd.RW_reads' HO313.out).2.1); (case side3 => refine (Kd.RW_reads' (e := 3) (base := w.heap.size) (ok := fun k_ => (some k_ ≠ (.slice Ao26 t301.length co26 : Value).ownBlock ∧ some k_ ≠ (.slice Ao38 t311.length co38 : Value).ownBlock)) (n := t295.length) (c := co21) ?_).2.2; exact (by (with_reducible repeat (first | apply Kd.RW_alloc | apply Kd.RW_drewN | apply Kd.RW_drew)); exact (Kd.RW_mono (Kd.RW_far (p := ⟨gb315, 1, none⟩) (Kd.RW_far (p := ⟨gb315, 0, none⟩) (Kd.RW_types HO297.out BK315.out (by decide)) (fun _ hk => hk.2) (.bool t310)) (fun _ hk => hk.2) (.slice Ao38 t311.length co38)) (fun _ h_ => h_.1)))); (case side4 => exact (Kd.RW_reads' HO297.out).2.1); rintro e w40 ⟨rfl, hb⟩; refine ⟨_, rfl, ?_⟩; have n0_ := Aside0.mk (Kd.RW_below (by (with_reducible repeat (first | apply Kd.RW_alloc | apply Kd.RW_drewN | apply Kd.RW_drew)); exact (Kd.RW_mono (Kd.RW_far (p := ⟨gb315, 1, none⟩) (Kd.RW_far (p := ⟨gb315, 0, none⟩) (Kd.RW_types HO297.out BK315.out (by decide)) (fun _ hk => hk.2) (.bool t310)) (fun _ hk => hk.2) (.slice Ao38 t311.length co38)) (fun _ h_ => h_.1))) hb); have n1_ := Aside0.mk (Kd.RW_below (by (with_reducible repeat (first | apply Kd.RW_alloc | apply Kd.RW_drewN | apply Kd.RW_drew)); exact (Kd.RW_mono (Kd.RW_far (p := ⟨gb315, 1, none⟩) (Kd.RW_far (p := ⟨gb315, 0, none⟩) (Kd.RW_types HO303.out BK315.out (by decide)) (fun _ hk => hk.2) (.bool t310)) (fun _ hk => hk.2) (.slice Ao38 t311.length co38)) (fun _ h_ => h_.1))) hb); have n2_ := Aside0.mk (Kd.RW_below (by (with_reducible repeat (first | apply Kd.RW_alloc | apply Kd.RW_drewN | apply Kd.RW_drew)); exact (Kd.RW_mono (Kd.RW_far (p := ⟨gb315, 1, none⟩) (Kd.RW_far (p := ⟨gb315, 0, none⟩) (Kd.RW_types HO313.out BK315.out (by decide)) (fun _ hk => hk.2) (.bool t310)) (fun _ hk => hk.2) (.slice Ao38 t311.length co38)) (fun _ h_ => h_.1))) hb); have n3_ := Aside0.mk (blk_below (g := gb299) (o := .cells #[.bool t294, .slice Ao21 t295.length co21] 27 (0, 0)) (zk BK299.out) hb); have n4_ := Aside0.mk (blk_below (g := gb305) (o := .cells #[.bool t300, .slice Ao26 t301.length co26] 27 (0, 0)) (zk BK305.out) hb); have n5_ := Aside0.mk (blk_below (g := gb315) (o := .cells #[.bool t310, .slice Ao38 t311.length co38] 27 (0, 0)) (by (with_reducible repeat (first | refine blk_drewN ?_ _ | refine blk_drew ?_ | refine blk_alloc ?_ _)); refine blk_put (cs := #[.bool t310, .slice none 0 0]) ?_ 1 _ rfl; (with_reducible repeat (first | refine blk_drewN ?_ _ | refine blk_drew ?_ | refine blk_alloc ?_ _)); refine blk_put (cs := #[.bool false, .slice none 0 0]) ?_ 0 _ rfl; (with_reducible repeat (first | refine blk_drewN ?_ _ | refine blk_drew ?_ | refine blk_alloc ?_ _)); exact BK315.out) hb); have n6_ := Aside0.mk (below_step zb hb); clear HO297; clear HO303; clear HO313; clear BK299; clear BK305; clear BK315; clear HB; have HO297 := n0_; have HO303 := n1_; have HO313 := n2_; have BK299 := n3_; have BK305 := n4_; have BK315 := n5_; have HB := n6_; clear n0_ n1_ n2_ n3_ n4_ n5_ n6_; (try clear hb); (try clear hb2); (try clear hk); (try clear hi); have hcz41_0 : w40.cell? ⟨gb305, 0, none⟩ = some (.bool t300) := (blk_cell BK305.out 0).trans rfl; have hcz41_1 : w40.cell? ⟨gb305, 1, none⟩ = some (.slice Ao26 t301.length co26) := (blk_cell BK305.out 1).trans rfl; have hfz41_0 := blk_frozen BK305.out 0; have hfz41_1 := blk_frozen BK305.out 1) | ((with_reducible refine gate_callee (f := 27) rfl ?_); refine goesL_ (some 57) rfl rfl Try.func27 (by kernel_rfl) rfl #[.agg #[.bool t300, .slice Ao26 t308.length co26], .int .i64 1] rfl (by (try simp only [List.map_toArray, List.map_cons, List.map_nil]); first | done | (rw [show t308.length = t301.length from (Kd.RW_reads' HO303.out).1.symm] <;> rfl) | rfl | (simp only [List.length_drop, List.length_take]; rfl)) ?_; (with_reducible refine (laws_heldBig.calls k t300 _ _ t308 1 t317 _ ?side1 ?side2 A15.out).mono ?_); (case side1 => repeat (first | exact (Kd.RW_reads' HO303.out).2.2 | (with_reducible refine Kd.C_alloc ?_ _) | (with_reducible refine Kd.C_drewN ?_ _) | (with_reducible refine Kd.C_drew ?_))); (case side2 => rw [show t308.length = t301.length from (Kd.RW_reads' HO303.out).1.symm]; exact (Kd.RW_reads' HO303.out).2.1); rintro e w42 ⟨rfl, hb⟩; refine ⟨_, rfl, ?_⟩; have n0_ := Aside0.mk (Kd.RW_below (zRW HO297.out) hb); have n1_ := Aside0.mk (Kd.RW_below (zRW HO303.out) hb); have n2_ := Aside0.mk (Kd.RW_below (zRW HO313.out) hb); have n3_ := Aside0.mk (blk_below (g := gb299) (o := .cells #[.bool t294, .slice Ao21 t295.length co21] 27 (0, 0)) (zk BK299.out) hb); have n4_ := Aside0.mk (blk_below (g := gb305) (o := .cells #[.bool t300, .slice Ao26 t301.length co26] 27 (0, 0)) (zk BK305.out) hb); have n5_ := Aside0.mk (blk_below (g := gb315) (o := .cells #[.bool t310, .slice Ao38 t311.length co38] 27 (0, 0)) (zk BK315.out) hb); have n6_ := Aside0.mk (below_step zb hb); clear HO297; clear HO303; clear HO313; clear BK299; clear BK305; clear BK315; clear HB; have HO297 := n0_; have HO303 := n1_; have HO313 := n2_; have BK299 := n3_; have BK305 := n4_; have BK315 := n5_; have HB := n6_; clear n0_ n1_ n2_ n3_ n4_ n5_ n6_; (try clear hb); (try clear hb2); (try clear hk); (try clear hi)))
                  go_ret
                  exact ⟨by first | rfl | (simp [errW_none, errW_some] <;> rfl) | (simp [*, errW_none, errW_some] <;> rfl), zb⟩
                · rw [if_neg c17] at H
                  exact absurd H (by simp)
          · replace c13 := Bool.eq_false_iff.mpr c13
            subst c13
            have H1 : (none) = some r := by rw [if_neg (show ¬ (false = true) by decide)] at H; exact H
            clear H
            have H := H1
            clear H1
            exact absurd H (by simp)
        · rw [if_neg c10] at H
          exact absurd H (by simp)
  · replace c5 := Bool.eq_false_iff.mpr c5
    subst c5
    have H1 : (none) = some r := by rw [if_neg (show ¬ (false = true) by decide)] at H; exact H
    clear H
    have H := H1
    clear H1
    exact absurd H (by simp)
def laws_FnExactBigTen.Pure : Prop := ∀ (a0 : Int), (Lit.int .i64 a0).wf = true → ∃ k, laws_FnExactBigTen.f k a0 = some true
theorem laws_FnExactBigTen.walk (P : laws_FnExactBigTen.Pure) (a0 : Int) (w : World) (w0 : (Lit.int .i64 a0).wf = true) :
    Calls Try.prog 5 #[.int .i64 a0] w fun e w' => e = .returned (.bool true) ∧ Below w.heap.size w w' := by
  obtain ⟨k, h⟩ := P a0 w0
  refine (laws_FnExactBigTen.calls k a0 true w h).mono ?_
  rintro e w' ⟨rfl, hd⟩
  exact ⟨rfl, hd⟩
end Go.Proofs.Ytdemeoncjcbojaa.Pw
end
section
namespace Go.Proofs.Ytdemeoncjcbojaa.Jt
def pw (n : Nat) : Int := 10000 ^ n
theorem pw_zero : pw 0 = 1 := rfl
theorem pw_succ (n : Nat) : pw (n + 1) = 10000 * pw n := by unfold pw; rw [Int.pow_succ]; omega
theorem pw_pos (n : Nat) : 1 ≤ pw n := by
  induction n with
  | zero => decide
  | succ n ih => rw [pw_succ]; omega
theorem pw_mono {m n : Nat} (h : m ≤ n) : pw m ≤ pw n := by
  obtain ⟨d, rfl⟩ := Nat.exists_eq_add_of_le h
  induction d with
  | zero => exact Int.le_refl _
  | succ d ih =>
    have h1 := ih (by omega)
    have h2 := pw_pos (m + d)
    rw [show m + (d + 1) = (m + d) + 1 from rfl, pw_succ]
    omega
def val : List Int → Int
  | [] => 0
  | x :: xs => x + 10000 * val xs
def Dig (l : List Int) : Prop := ∀ x ∈ l, 0 ≤ x ∧ x ≤ 9999
def Nz (l : List Int) : Prop := l.length = 0 ∨ l.getD (l.length - 1) 0 ≠ 0
theorem getD_lt {l : List Int} {i : Nat} (h : i < l.length) : l.getD i 0 = l[i] := by rw [List.getD_eq_getElem?_getD, List.getElem?_eq_getElem h]; rfl
theorem getD_ge {l : List Int} {i : Nat} (h : l.length ≤ i) : l.getD i 0 = 0 := by rw [List.getD_eq_getElem?_getD, List.getElem?_eq_none h]; rfl
theorem val_nil : val [] = 0 := rfl
theorem val_append (a b : List Int) : val (a ++ b) = val a + pw a.length * val b := by
  induction a with
  | nil => simp [val, pw_zero]
  | cons x xs ih => simp only [List.cons_append, val, ih, List.length_cons, pw_succ]; rw [Int.mul_add, Int.mul_assoc]; omega
theorem Dig.nil : Dig [] := fun x h => by cases h
theorem Dig.cons {x : Int} {xs : List Int} (h0 : 0 ≤ x) (h1 : x ≤ 9999) (h : Dig xs) : Dig (x :: xs) := by
  intro y hy
  rcases List.mem_cons.1 hy with rfl | hy
  · exact ⟨h0, h1⟩
  · exact h y hy
theorem Dig.head {x : Int} {xs : List Int} (h : Dig (x :: xs)) : 0 ≤ x ∧ x ≤ 9999 := h x (by simp)
theorem Dig.tail {x : Int} {xs : List Int} (h : Dig (x :: xs)) : Dig xs := fun y hy => h y (by simp [hy])
theorem Dig.take {l : List Int} (h : Dig l) (n : Nat) : Dig (l.take n) := fun x hx => h x (List.mem_of_mem_take hx)
theorem Dig.append {a b : List Int} (ha : Dig a) (hb : Dig b) : Dig (a ++ b) := by
  intro x hx
  rcases List.mem_append.1 hx with h | h
  · exact ha x h
  · exact hb x h
theorem Dig.getD {l : List Int} (h : Dig l) (i : Nat) : 0 ≤ l.getD i 0 ∧ l.getD i 0 ≤ 9999 := by
  by_cases hi : i < l.length
  · rw [getD_lt hi]; exact h _ (List.getElem_mem hi)
  · rw [getD_ge (by omega)]; omega
theorem dig_of_getD {l : List Int} (h : ∀ i, i < l.length → 0 ≤ l.getD i 0 ∧ l.getD i 0 ≤ 9999) : Dig l := by
  intro x hx
  obtain ⟨i, hi, rfl⟩ := List.getElem_of_mem hx
  have := h i hi
  rwa [getD_lt hi] at this
theorem val_nonneg {l : List Int} (h : Dig l) : 0 ≤ val l := by
  induction l with
  | nil => exact Int.le_refl _
  | cons x xs ih =>
    have h1 := ih h.tail
    have h2 := h.head
    simp only [val]; omega
theorem val_lt {l : List Int} (h : Dig l) : val l < pw l.length := by
  induction l with
  | nil => decide
  | cons x xs ih =>
    have h1 := ih h.tail
    have h2 := h.head
    simp only [val, List.length_cons, pw_succ]; omega
theorem val_set (l : List Int) : ∀ (i : Nat) (v : Int), i < l.length → val (l.set i v) = val l + pw i * (v - l.getD i 0) := by
  induction l with
  | nil => intro i v h; simp at h
  | cons x xs ih =>
    intro i v h
    cases i with
    | zero => simp only [List.set_cons_zero, val, List.getD_cons_zero, pw_zero]; omega
    | succ i =>
      simp only [List.set_cons_succ, val, List.getD_cons_succ, pw_succ]
      rw [ih i v (by simpa using h), Int.mul_add, Int.mul_assoc]
      omega
theorem getD_set (l : List Int) (i j : Nat) (v : Int) (h : i < l.length) : (l.set i v).getD j 0 = if j = i then v else l.getD j 0 := by
  by_cases hj : j = i
  · subst hj
    rw [if_pos rfl, List.getD_eq_getElem?_getD, List.getElem?_set_self h]; rfl
  · rw [if_neg hj, List.getD_eq_getElem?_getD, List.getElem?_set_ne (Ne.symm hj), List.getD_eq_getElem?_getD]
theorem val_split (l : List Int) {n : Nat} (h : n ≤ l.length) : val l = val (l.take n) + pw n * val (l.drop n) := by
  have := val_append (l.take n) (l.drop n)
  rw [List.take_append_drop, List.length_take, Nat.min_eq_left h] at this
  exact this
theorem drop_cons {l : List Int} {n : Nat} (h : n < l.length) : l.drop n = l.getD n 0 :: l.drop (n + 1) := by
  rw [List.drop_eq_getElem_cons h, getD_lt h]
theorem val_zeros {l : List Int} (h : ∀ i, i < l.length → l.getD i 0 = 0) : val l = 0 := by
  induction l with
  | nil => rfl
  | cons x xs ih =>
    have h0 := h 0 (by simp)
    have h1 := ih (fun i hi => by have := h (i + 1) (by simpa using hi); simpa using this)
    simp at h0
    simp only [val, h0, h1]; decide
theorem val_replicate (n : Nat) : val (List.replicate n 0) = 0 := val_zeros fun i hi => by
  rw [List.length_replicate] at hi
  rw [getD_lt (by simpa using hi), List.getElem_replicate]
theorem val_ge {l : List Int} (h : Dig l) (hz : Nz l) (hne : 0 < l.length) : pw (l.length - 1) ≤ val l := by
  have hs := val_split l (n := l.length - 1) (by omega)
  rw [drop_cons (by omega), show l.length - 1 + 1 = l.length from by omega, List.drop_length] at hs
  have h1 := val_nonneg (h.take (l.length - 1))
  have h2 := h.getD (l.length - 1)
  have h3 : l.getD (l.length - 1) 0 ≠ 0 := hz.resolve_left (by omega)
  have hp := pw_pos (l.length - 1)
  simp only [val] at hs
  have h4 : pw (l.length - 1) * 1 ≤ pw (l.length - 1) * (l.getD (l.length - 1) 0 + 10000 * 0) := Int.mul_le_mul_of_nonneg_left (by omega) (by omega)
  omega
theorem uniq {a : List Int} : ∀ {b : List Int}, Dig a → Dig b → Nz a → Nz b → val a = val b → a = b := by
  induction a with
  | nil =>
    intro b _ hb _ zb e
    cases b with
    | nil => rfl
    | cons y ys =>
      have := val_ge hb zb (by simp)
      have := pw_pos ((y :: ys).length - 1)
      rw [val_nil] at e
      omega
  | cons x xs ih =>
    intro b ha hb za zb e
    cases b with
    | nil =>
      have := val_ge ha za (by simp)
      have := pw_pos ((x :: xs).length - 1)
      rw [val_nil] at e
      omega
    | cons y ys =>
      have hx := ha.head
      have hy := hb.head
      simp only [val] at e
      have e1 : x = y := by omega
      have e2 : val xs = val ys := by omega
      have zt : ∀ {z : Int} {zs : List Int}, Nz (z :: zs) → Nz zs := by
        intro z zs h
        cases zs with
        | nil => left; rfl
        | cons u us =>
          right
          have h' := h.resolve_left (by simp)
          simpa using h'
      rw [e1, ih ha.tail hb.tail (zt za) (zt zb) e2]
def repN (n : Nat) : List Int := if h : n = 0 then [] else ((n % 10000 : Nat) : Int) :: repN (n / 10000)
termination_by n
decreasing_by omega
def rep (v : Int) : List Int := repN v.toNat
theorem repN_zero : repN 0 = [] := by rw [repN]; simp
theorem repN_pos {n : Nat} (h : n ≠ 0) : repN n = ((n % 10000 : Nat) : Int) :: repN (n / 10000) := by rw [repN]; simp [h]
theorem repN_ok (n : Nat) : Dig (repN n) ∧ val (repN n) = n ∧ Nz (repN n) := by
  induction n using Nat.strongRecOn with
  | ind n ih =>
    by_cases h : n = 0
    · subst h; rw [repN_zero]; exact ⟨Dig.nil, rfl, .inl rfl⟩
    · obtain ⟨h1, h2, h3⟩ := ih (n / 10000) (by omega)
      rw [repN_pos h]
      refine ⟨Dig.cons (by omega) (by omega) h1, by simp only [val, h2]; omega, .inr ?_⟩
      by_cases hq : n / 10000 = 0
      · rw [hq, repN_zero]; simp; omega
      · have hne : (repN (n / 10000)).length ≠ 0 := by rw [repN_pos hq]; simp
        have := h3.resolve_left hne
        rw [List.length_cons, show (repN (n / 10000)).length + 1 - 1 = ((repN (n / 10000)).length - 1) + 1 from by omega, List.getD_cons_succ]
        exact this
theorem rep_dig (v : Int) : Dig (rep v) := (repN_ok _).1
theorem rep_nz (v : Int) : Nz (rep v) := (repN_ok _).2.2
theorem rep_val {v : Int} (h : 0 ≤ v) : val (rep v) = v := by unfold rep; rw [(repN_ok _).2.1]; omega
theorem rep_of {l : List Int} (hd : Dig l) (hz : Nz l) : rep (val l) = l := uniq (rep_dig _) hd (rep_nz _) hz (rep_val (val_nonneg hd))
theorem is_rep {l : List Int} {v : Int} (hd : Dig l) (hz : Nz l) (hv : val l = v) : l = rep v := by rw [← hv, rep_of hd hz]
theorem rep_zero : rep 0 = [] := repN_zero
theorem rep_nil {v : Int} (h : 0 ≤ v) : rep v = [] ↔ v = 0 := by
  constructor
  · intro e
    have := rep_val h
    rw [e] at this
    exact this.symm
  · rintro rfl; exact rep_zero
theorem rep_len {v : Int} (h : 0 ≤ v) (n : Nat) : (rep v).length ≤ n ↔ v < pw n := by
  have hv := rep_val h
  have hl := val_lt (rep_dig v)
  constructor
  · intro hle
    have := pw_mono hle
    omega
  · intro hlt
    apply Nat.le_of_not_lt
    intro hgt
    have hg := val_ge (rep_dig v) (rep_nz v) (by omega)
    have := pw_mono (show n ≤ (rep v).length - 1 by omega)
    omega
def TrimOf (l r : List Int) : Prop := ∃ n, n ≤ l.length ∧ r = l.take n ∧ (∀ j, n ≤ j → j < l.length → l.getD j 0 = 0) ∧ (0 < n → l.getD (n - 1) 0 ≠ 0)
theorem TrimOf.dig {l r : List Int} (h : TrimOf l r) (hd : Dig l) : Dig r := by obtain ⟨n, _, rfl, _, _⟩ := h; exact hd.take n
theorem TrimOf.val {l r : List Int} (h : TrimOf l r) : Jt.val r = Jt.val l := by
  obtain ⟨n, hn, rfl, hz, _⟩ := h
  have hs := val_split l hn
  have : Jt.val (l.drop n) = 0 := val_zeros fun i hi => by
    rw [List.length_drop] at hi
    have := hz (n + i) (by omega) (by omega)
    rw [List.getD_eq_getElem?_getD] at this ⊢
    rw [List.getElem?_drop]; exact this
  rw [this] at hs
  omega
theorem getD_take (l : List Int) {i n : Nat} (h : i < n) : (l.take n).getD i 0 = l.getD i 0 := by
  rw [List.getD_eq_getElem?_getD, List.getD_eq_getElem?_getD, List.getElem?_take_of_lt h]
theorem TrimOf.nz {l r : List Int} (h : TrimOf l r) : Nz r := by
  obtain ⟨n, hn, rfl, _, hlast⟩ := h
  by_cases h0 : n = 0
  · left; simp [h0]
  · right
    rw [List.length_take, Nat.min_eq_left hn, getD_take l (by omega)]
    exact hlast (by omega)
theorem TrimOf.rep {l r : List Int} (h : TrimOf l r) (hd : Dig l) {v : Int} (hv : Jt.val l = v) : r = Jt.rep v := is_rep (h.dig hd) h.nz (h.val.trans hv)
theorem TrimOf.len {l r : List Int} (h : TrimOf l r) : r.length ≤ l.length := by obtain ⟨n, hn, rfl, _, _⟩ := h; rw [List.length_take]; omega
theorem pw16 : pw 16 = 10000000000000000000000000000000000000000000000000000000000000000 := by decide
def bigv (neg : Bool) (l : List Int) : Int := if neg = true then -val l else val l
def BOk (neg : Bool) (l : List Int) : Prop := l.length ≤ 16 ∧ Dig l ∧ Nz l ∧ (neg = true → l.length ≠ 0)
def mkN (x : Int) : Bool := decide (x < 0)
def mkL (x : Int) : List Int := rep (if x < 0 then -x else x)
theorem mk_ok {x : Int} (h1 : -pw 16 < x) (h2 : x < pw 16) : BOk (mkN x) (mkL x) := by
  have h0 : 0 ≤ (if x < 0 then -x else x) := by split <;> omega
  refine ⟨(rep_len h0 16).2 (by split <;> omega), rep_dig _, rep_nz _, ?_⟩
  intro hn hl
  have := of_decide_eq_true hn
  have e := rep_val h0
  unfold mkL at hl
  rw [List.length_eq_zero_iff.1 hl, val_nil] at e
  split at e <;> omega
end Go.Proofs.Ytdemeoncjcbojaa.Jt
end
section
namespace Go.Proofs.Ytdemeoncjcbojaa.Val
open Go.RowKit Go.Proofs.Ytdemeoncjcbojaa.Pr Go.Proofs.Ytdemeoncjcbojaa.Ext Go.Proofs.Ytdemeoncjcbojaa.Jt Go.Proofs.YtdemeoncjcbojaaW.PrintWords Go.Proofs.YtdemeoncjcbojaaW.PrintLast Go.Proofs.YtdemeoncjcbojaaW.PrintMore
set_option linter.unusedVariables false
set_option linter.unusedSimpArgs false
theorem w64 {x : Int} (h : -9223372036854775808 ≤ x) (h' : x ≤ 9223372036854775807) : wrap64 x = x := by unfold wrap64; omega
theorem rdn (l : List Int) (i : Int) : rd l i = l.getD i.toNat 0 := rfl
def trimN (l : List Int) : Nat → Nat
  | 0 => 0
  | n + 1 => if l.getD n 0 = 0 then trimN l n else n + 1
def trimL (l : List Int) : List Int := l.take (trimN l l.length)
theorem trimN_le (l : List Int) (n : Nat) : trimN l n ≤ n := by
  induction n with
  | zero => exact Nat.le_refl _
  | succ n ih => unfold trimN; split <;> omega
theorem trimN_hi (l : List Int) (n : Nat) : ∀ j, trimN l n ≤ j → j < n → l.getD j 0 = 0 := by
  induction n with
  | zero => intro j _ h; omega
  | succ n ih =>
    intro j h1 h2
    unfold trimN at h1
    split at h1
    · rename_i h
      by_cases hj : j = n
      · rw [hj]; exact h
      · exact ih j h1 (by omega)
    · omega
theorem trimN_nz (l : List Int) (n : Nat) : 0 < trimN l n → l.getD (trimN l n - 1) 0 ≠ 0 := by
  induction n with
  | zero => intro h; simp [trimN] at h
  | succ n ih =>
    unfold trimN
    split
    · exact ih
    · rename_i h; intro _; rw [Nat.add_sub_cancel]; exact h
theorem trimL_of (l : List Int) : TrimOf l (trimL l) := ⟨trimN l l.length, trimN_le _ _, rfl, trimN_hi _ _, trimN_nz _ _⟩
theorem trimL_len (l : List Int) : (trimL l).length ≤ l.length := (trimL_of l).len
theorem trimL_rep {l : List Int} (hd : Dig l) : trimL l = rep (val l) := (trimL_of l).rep hd rfl
theorem sTrim_l0 (l : List Int) (hl : l.length < 1000000) : ∀ (n k : Nat), n ≤ l.length → n + 1 ≤ k → spec_l1Trim.l0 k l (n : Int) = some (l.take (trimN l n)) := by
  intro n
  induction n with
  | zero =>
    intro k hn hk
    obtain ⟨k, rfl⟩ : ∃ j, k = j + 1 := ⟨k - 1, by omega⟩
    rw [spec_l1Trim.l0, if_neg (by omega)]
    simp only [Option.bind_some]
    rw [if_pos (by omega), if_pos (by omega), if_pos (by simp)]
    simp [trimN]
  | succ n ih =>
    intro k hn hk
    obtain ⟨k, rfl⟩ : ∃ j, k = j + 1 := ⟨k - 1, by omega⟩
    rw [spec_l1Trim.l0, if_pos (by omega), w64 (by omega) (by omega), show (((n + 1 : Nat) : Int) - 1) = (n : Int) from by omega, if_pos (by omega), if_pos (by omega), rdn, Int.toNat_natCast]
    unfold trimN
    by_cases h : l.getD n 0 = 0
    · rw [if_pos h, if_pos h]; exact ih k (by omega) (by omega)
    · rw [if_neg h, if_neg h]
      simp only [Option.bind_some]
      rw [if_pos (by omega), if_pos (by omega), Int.toNat_natCast, if_pos (by rw [List.length_take]; simp; omega)]
      simp
theorem sTrim_ge (l : List Int) (hl : l.length < 1000000) (k : Nat) (hk : l.length + 1 ≤ k) : spec_l1Trim.f k l = some (trimL l) := sTrim_l0 l hl l.length k (Nat.le_refl _) hk
theorem iTrim_l0 (l : List Int) (hl : l.length < 1000000) : ∀ (n k : Nat), n ≤ l.length → n + 1 ≤ k → impl_limbs_trim.l0 k (l.take n) = some (l.take (trimN l n)) := by
  intro n
  induction n with
  | zero =>
    intro k hn hk
    obtain ⟨k, rfl⟩ : ∃ j, k = j + 1 := ⟨k - 1, by omega⟩
    rw [impl_limbs_trim.l0, if_neg (by simp)]
    rfl
  | succ n ih =>
    intro k hn hk
    obtain ⟨k, rfl⟩ : ∃ j, k = j + 1 := ⟨k - 1, by omega⟩
    have hlen : (l.take (n + 1)).length = n + 1 := by rw [List.length_take]; omega
    rw [impl_limbs_trim.l0, hlen, if_pos (by omega), w64 (by omega) (by omega), show (((n + 1 : Nat) : Int) - 1) = (n : Int) from by omega, if_pos (by omega), if_pos (by omega), rdn, Int.toNat_natCast, getD_take l (by omega)]
    unfold trimN
    by_cases h : l.getD n 0 = 0
    · rw [if_pos h, if_pos h, if_pos (by omega), List.take_take, Nat.min_eq_left (by omega)]; exact ih k (by omega) (by omega)
    · rw [if_neg h, if_neg h]
theorem iTrim_ge (l : List Int) (hl : l.length < 1000000) (k : Nat) (hk : l.length + 1 ≤ k) : impl_limbs_trim.f k l = some (trimL l) := by
  have e := iTrim_l0 l hl l.length k (Nat.le_refl _) hk
  rw [List.take_length] at e
  exact e
def bigR (x : Int) : Bool × List Int × Bool := if -pw 16 < x ∧ x < pw 16 then (mkN x, mkL x, true) else (false, [], false)
theorem bigR_of {neg : Bool} {l : List Int} (hd : Dig l) :
    (if ((rep (val l)).length : Int) > 16 then (false, ([] : List Int), false) else if neg = true then (decide (0 < (rep (val l)).length), rep (val l), true) else (false, rep (val l), true)) = bigR (bigv neg l) := by
  have h0 := val_nonneg hd
  have hr := rep_len h0 16
  have hp := pw_pos 16
  unfold bigR
  by_cases h : ((rep (val l)).length : Int) > 16
  · have hv : ¬ val l < pw 16 := fun hc => by have := hr.2 hc; omega
    rw [if_pos h, if_neg]
    unfold bigv
    split <;> omega
  · have hv : val l < pw 16 := hr.1 (by omega)
    have hin : -pw 16 < bigv neg l ∧ bigv neg l < pw 16 := by unfold bigv; split <;> omega
    rw [if_neg h, if_pos hin]
    cases neg
    · rw [if_neg (by decide)]
      unfold bigv mkN mkL
      rw [if_neg (by decide), if_neg (by omega), decide_eq_false (by omega)]
    · rw [if_pos rfl]
      unfold bigv mkN mkL
      rw [if_pos rfl]
      have hz := rep_nil h0
      by_cases hv0 : val l = 0
      · rw [hv0, rep_zero]; simp [rep_zero]
      · rw [if_pos (by omega), Int.neg_neg, decide_eq_true (show -val l < 0 by omega)]
        have : 0 < (rep (val l)).length := by
          apply Nat.pos_of_ne_zero
          intro hc
          exact hv0 (hz.1 (List.length_eq_zero_iff.1 hc))
        rw [decide_eq_true this]
theorem l1Big_ge {l : List Int} (hd : Dig l) (hl : l.length ≤ 1000) (neg : Bool) (k : Nat) (hk : 1010 ≤ k) : spec_l1Big.f k neg l = some (bigR (bigv neg l)) := by
  unfold spec_l1Big.f
  rw [sTrim_ge l (by omega) k (by omega), ← bigR_of hd, trimL_rep hd]
  simp only [Option.bind_some]
  (repeat' split) <;> simp_all
theorem big_ge {l : List Int} (hd : Dig l) (hl : l.length ≤ 1000) (neg : Bool) (k : Nat) (hk : 1010 ≤ k) : impl_big.f k neg l = some (bigR (bigv neg l)) := by
  unfold impl_big.f impl_clone_int.f clone99.f
  rw [iTrim_ge l (by omega) k (by omega), ← bigR_of hd]
  have := trimL_len l
  simp only [Option.bind_some]
  rw [if_pos (show (trimL l).length < 17592186044416 by omega), trimL_rep hd]
  simp only [Option.bind_some]
  (repeat' split) <;> simp_all
end Go.Proofs.Ytdemeoncjcbojaa.Val
end
section
namespace Go.Proofs.Ytdemeoncjcbojaa.Val
open Go.RowKit Go.Proofs.Ytdemeoncjcbojaa.Pr Go.Proofs.Ytdemeoncjcbojaa.Ext Go.Proofs.Ytdemeoncjcbojaa.Jt Go.Proofs.YtdemeoncjcbojaaW.PrintWords Go.Proofs.YtdemeoncjcbojaaW.PrintLast Go.Proofs.YtdemeoncjcbojaaW.PrintMore
set_option linter.unusedVariables false
set_option linter.unusedSimpArgs false
theorem rdN (l : List Int) (i : Nat) : rd l (i : Int) = l.getD i 0 := by unfold rd; rw [Int.toNat_natCast]
theorem getD_set_ne {l : List Int} {i j : Nat} (v : Int) (h : i < l.length) (hne : j ≠ i) : (l.set i v).getD j 0 = l.getD j 0 := by rw [getD_set l i j v h, if_neg hne]
theorem getD_set_eq {l : List Int} {i : Nat} (v : Int) (h : i < l.length) : (l.set i v).getD i 0 = v := by rw [getD_set l i i v h, if_pos rfl]
theorem val_drop (l : List Int) (i : Nat) : val (l.drop i) = l.getD i 0 + 10000 * val (l.drop (i + 1)) := by
  by_cases h : i < l.length
  · rw [drop_cons h]; rfl
  · rw [List.drop_eq_nil_of_le (by omega), List.drop_eq_nil_of_le (by omega), getD_ge (by omega)]; rfl
theorem dig_push {l : List Int} (h : Dig l) {x : Int} (h0 : 0 ≤ x) (h1 : x ≤ 9999) : Dig (l ++ [x]) := h.append (Dig.cons h0 h1 Dig.nil)
theorem val_push (l : List Int) (x : Int) : val (l ++ [x]) = val l + pw l.length * x := by rw [val_append]; simp [val]
end Go.Proofs.Ytdemeoncjcbojaa.Val
end
section
namespace Go.Proofs.Ytdemeoncjcbojaa.Val
open Go.RowKit Go.Proofs.Ytdemeoncjcbojaa.Pr Go.Proofs.Ytdemeoncjcbojaa.Ext Go.Proofs.Ytdemeoncjcbojaa.Jt Go.Proofs.YtdemeoncjcbojaaW.PrintWords Go.Proofs.YtdemeoncjcbojaaW.PrintLast Go.Proofs.YtdemeoncjcbojaaW.PrintMore
set_option linter.unusedVariables false
set_option linter.unusedSimpArgs false
def sv (q : Bool) (v : Int) : Int := if q = true then -v else v
theorem sv_rep {q : Bool} {v : Int} (h : 0 ≤ v) : bigv q (rep v) = sv q v := by unfold bigv sv; rw [rep_val h]
theorem bigv_sv (q : Bool) (l : List Int) : bigv q l = sv q (val l) := rfl
theorem rep_len_le {v : Int} (h0 : 0 ≤ v) {n : Nat} (h : v < pw n) : (rep v).length ≤ n := (rep_len h0 n).2 h
abbrev No : Bool × List Int × Bool := (false, [], false)
theorem bigR_len (x : Int) : (bigR x).2.1.length ≤ 16 := by
  unfold bigR
  split
  · rename_i h
    exact (mk_ok h.1 h.2).1
  · simp
end Go.Proofs.Ytdemeoncjcbojaa.Val
end
section
namespace Go.Proofs.Ytdemeoncjcbojaa.Val
open Go.RowKit Go.Proofs.Ytdemeoncjcbojaa.Pr Go.Proofs.Ytdemeoncjcbojaa.Ext Go.Proofs.Ytdemeoncjcbojaa.Jt Go.Proofs.YtdemeoncjcbojaaW.PrintWords Go.Proofs.YtdemeoncjcbojaaW.PrintLast Go.Proofs.YtdemeoncjcbojaaW.PrintMore
set_option linter.unusedVariables false
set_option linter.unusedSimpArgs false
theorem mul_bd {x y : Int} (hx : 0 ≤ x ∧ x ≤ 9999) (hy : 0 ≤ y ∧ y ≤ 9999) : 0 ≤ x * y ∧ x * y ≤ 99980001 := by
  constructor
  · exact Int.mul_nonneg hx.1 hy.1
  · have h1 : x * y ≤ 9999 * y := Int.mul_le_mul_of_nonneg_right hx.2 hy.1
    have h2 : 9999 * y ≤ 9999 * 9999 := Int.mul_le_mul_of_nonneg_left hy.2 (by omega)
    omega
theorem dig_set {l : List Int} (hd : Dig l) {i : Nat} {v : Int} (h0 : 0 ≤ v) (h1 : v ≤ 9999) : Dig (l.set i v) := by
  intro x hx
  rcases List.mem_or_eq_of_mem_set hx with h | h
  · exact hd x h
  · subst h; exact ⟨h0, h1⟩
theorem mul_cell {out : List Int} {p : Nat} {d e c R V : Int} (hp : p < out.length) (x : Int) (hx : x = out.getD p 0 + d * e + c) :
    val (out.set p (x % 10000)) + pw (p + 1) * (d * V + x / 10000) + R = val out + pw p * (d * (e + 10000 * V) + c) + R := by
  rw [val_set _ _ _ hp, pw_succ]
  have e1 : x = 10000 * (x / 10000) + x % 10000 := by omega
  generalize x / 10000 = q at e1 ⊢
  generalize x % 10000 = r at e1 ⊢
  generalize out.getD p 0 = o at *
  have e2 : r = o + d * e + c - 10000 * q := by omega
  subst e2
  grind
theorem iMul_l1 {a b : List Int} (hb : Dig b) (lb : b.length ≤ 50) {i : Nat} (hi : i < a.length) (la : a.length ≤ 50) {d : Int} (hd : 0 ≤ d ∧ d ≤ 9999) (K : Nat)
    (H : ∀ k out, K ≤ k → Dig out → out.length = a.length + b.length + 1 → (∀ q, i + 1 + b.length ≤ q → out.getD q 0 = 0) → impl_limbs_mul.l0 k b out a (a.length : Int) ((i + 1 : Nat) : Int) = some (rep (val out + pw (i + 1) * (val (a.drop (i + 1)) * val b)))) :
    ∀ (m k j : Nat) (out : List Int) (c : Int), j + m = b.length → K + m + 1 ≤ k → Dig out → out.length = a.length + b.length + 1 → 0 ≤ c → c ≤ 9999 → (∀ q, i + b.length ≤ q → out.getD q 0 = 0) →
      impl_limbs_mul.l1 k b out (i : Int) d c a (a.length : Int) (i : Int) b (b.length : Int) (j : Int) = some (rep (val out + pw (i + j) * (d * val (b.drop j) + c) + pw (i + 1) * (val (a.drop (i + 1)) * val b))) := by
  intro m
  induction m with
  | zero =>
    intro k j out c hj hk ho hL c0 c1 hz
    obtain ⟨k, rfl⟩ : ∃ q, k = q + 1 := ⟨k - 1, by omega⟩
    have hlt : i + b.length < out.length := by omega
    rw [impl_limbs_mul.l1, if_neg (by omega), w64 (x := (i : Int) + (b.length : Int)) (by omega) (by omega), if_pos (by omega), if_pos (by omega), rdn, show ((i : Int) + (b.length : Int)).toNat = i + b.length from by omega, hz _ (Nat.le_refl _),
      w64 (x := (0 : Int) + c) (by omega) (by omega), w64 (x := (i : Int) + 1) (by omega) (by omega), show ((i : Int) + 1) = ((i + 1 : Nat) : Int) from by omega]
    rw [H k _ (by omega) (dig_set ho (by omega) (by omega)) (by rw [List.length_set]; exact hL) (fun q hq => by rw [getD_set_ne _ hlt (by omega)]; exact hz q (by omega))]
    rw [val_set _ _ _ hlt, hz _ (Nat.le_refl _), List.drop_eq_nil_of_le (show b.length ≤ j by omega), val_nil, show i + j = i + b.length from by omega]
    congr 3
    grind
  | succ m ih =>
    intro k j out c hj hk ho hL c0 c1 hz
    obtain ⟨k, rfl⟩ : ∃ q, k = q + 1 := ⟨k - 1, by omega⟩
    have hlt : i + j < out.length := by omega
    have b1 := hb.getD j
    have b2 := ho.getD (i + j)
    have b3 := mul_bd hd b1
    rw [impl_limbs_mul.l1, if_pos (by omega), w64 (x := (i : Int) + (j : Int)) (by omega) (by omega), if_pos (by omega), if_pos (by omega), if_pos (by omega), if_pos (by omega)]
    simp only [rdn]
    rw [show ((i : Int) + (j : Int)).toNat = i + j from by omega, Int.toNat_natCast, w64 (x := d * b.getD j 0) (by omega) (by omega), w64 (x := out.getD (i + j) 0 + d * b.getD j 0) (by omega) (by omega), w64 (x := out.getD (i + j) 0 + d * b.getD j 0 + c) (by omega) (by omega),
      w64 (x := (j : Int) + 1) (by omega) (by omega), Int.tdiv_eq_ediv_of_nonneg (by omega), Int.tmod_eq_emod_of_nonneg (by omega)]
    rw [w64 (by omega) (by omega), show ((j : Int) + 1) = ((j + 1 : Nat) : Int) from by omega]
    rw [ih k (j + 1) _ _ (by omega) (by omega) (dig_set ho (by omega) (by omega)) (by rw [List.length_set]; exact hL) (by omega) (by omega) (fun q hq => by rw [getD_set_ne _ hlt (by omega)]; exact hz q hq)]
    rw [val_drop b j, show i + (j + 1) = i + j + 1 from by omega, mul_cell hlt _ rfl]
theorem iMul_l0 {a b : List Int} (ha : Dig a) (hb : Dig b) (la : a.length ≤ 50) (lb : b.length ≤ 50) : ∀ (m i : Nat), i + m = a.length → ∀ k out, 1200 + 60 * m ≤ k → Dig out → out.length = a.length + b.length + 1 → (∀ q, i + b.length ≤ q → out.getD q 0 = 0) →
    impl_limbs_mul.l0 k b out a (a.length : Int) (i : Int) = some (rep (val out + pw i * (val (a.drop i) * val b))) := by
  intro m
  induction m with
  | zero =>
    intro i hi k out hk ho hL hz
    obtain ⟨k, rfl⟩ : ∃ q, k = q + 1 := ⟨k - 1, by omega⟩
    rw [impl_limbs_mul.l0, if_neg (by omega), iTrim_ge out (by omega) k (by omega), trimL_rep ho, List.drop_eq_nil_of_le (by omega), val_nil]
    simp
  | succ m ih =>
    intro i hi k out hk ho hL hz
    obtain ⟨k, rfl⟩ : ∃ q, k = q + 1 := ⟨k - 1, by omega⟩
    have a1 := ha.getD i
    rw [impl_limbs_mul.l0, if_pos (by omega), if_pos (by omega), if_pos (by omega), rdn, Int.toNat_natCast]
    have e := iMul_l1 hb lb (i := i) (a := a) (by omega) la a1 (1200 + 60 * m) (fun k out hk h1 h2 h3 => ih (i + 1) (by omega) k out hk h1 h2 h3) b.length k 0 out 0 (by omega) (by omega) ho hL (by omega) (by omega) hz
    refine e.trans ?_
    rw [List.drop_zero, Nat.add_zero, val_drop a i, pw_succ]
    congr 2
    grind
theorem iMul_ge {a b : List Int} (ha : Dig a) (hb : Dig b) (la : a.length ≤ 50) (lb : b.length ≤ 50) (k : Nat) (hk : 5000 ≤ k) : impl_limbs_mul.f k a b = some (rep (val a * val b)) := by
  unfold impl_limbs_mul.f
  rw [w64 (x := (a.length : Int) + (b.length : Int)) (by omega) (by omega), w64 (by omega) (by omega), if_pos (by omega), if_pos (by omega), show ((a.length : Int) + (b.length : Int) + 1).toNat = a.length + b.length + 1 from by omega]
  have hz : ∀ q, (List.replicate (a.length + b.length + 1) (0 : Int)).getD q 0 = 0 := fun q => by
    rw [List.getD_eq_getElem?_getD, List.getElem?_replicate]; split <;> rfl
  have e := iMul_l0 ha hb la lb a.length 0 (by omega) k (List.replicate (a.length + b.length + 1) 0) (by omega) (dig_of_getD fun q _ => by rw [hz]; omega) (by simp) (fun q _ => hz q)
  rw [val_replicate, List.drop_zero, pw_zero] at e
  refine e.trans ?_
  congr 2
  omega
theorem bS {α β : Type} (a : α) (f : α → Option β) : (some a).bind f = f a := by have h := Option.bind_some a f; rw [h]
theorem eta3 (x : Bool × List Int × Bool) : (some x).bind (fun bt => some (bt.1, bt.2.1, bt.2.2)) = some x := rfl
end Go.Proofs.Ytdemeoncjcbojaa.Val
end
section
namespace Go.Proofs.Ytdemeoncjcbojaa.Val
open Go.RowKit Go.Proofs.Ytdemeoncjcbojaa.Pr Go.Proofs.Ytdemeoncjcbojaa.Ext Go.Proofs.Ytdemeoncjcbojaa.Jt Go.Proofs.YtdemeoncjcbojaaW.PrintWords Go.Proofs.YtdemeoncjcbojaaW.PrintLast Go.Proofs.YtdemeoncjcbojaaW.PrintMore
set_option linter.unusedVariables false
set_option linter.unusedSimpArgs false
def p10 (n : Nat) : Int := 10 ^ n
theorem p10_zero : p10 0 = 1 := rfl
theorem p10_succ (n : Nat) : p10 (n + 1) = 10 * p10 n := by unfold p10; rw [Int.pow_succ]; omega
theorem p10_pos (n : Nat) : 1 ≤ p10 n := by
  induction n with
  | zero => decide
  | succ n ih => rw [p10_succ]; omega
theorem p10_mono {m n : Nat} (h : m ≤ n) : p10 m ≤ p10 n := by
  obtain ⟨d, rfl⟩ := Nat.exists_eq_add_of_le h
  induction d with
  | zero => exact Int.le_refl _
  | succ d ih =>
    have h1 := ih (by omega)
    have h2 := p10_pos (m + d)
    rw [show m + (d + 1) = (m + d) + 1 from rfl, p10_succ]
    omega
theorem p10_63 : p10 63 = 1000000000000000000000000000000000000000000000000000000000000000 := by decide
theorem p10_lt {n : Nat} (h : n ≤ 63) : p10 n < pw 16 := by
  have := p10_mono h
  rw [p10_63] at this
  rw [pw16]; omega
theorem rep_one : ([1] : List Int) = rep 1 := is_rep (Dig.cons (by omega) (by omega) Dig.nil) (.inr (by decide)) rfl
theorem dig_ten : Dig ([10] : List Int) := Dig.cons (by omega) (by omega) Dig.nil
theorem iTen_l0 {n : Nat} (hn : n ≤ 63) : ∀ (m k i : Nat), i + m = n → 6000 + m ≤ k → impl_ten.l0 k (rep (p10 i)) (n : Int) (i : Int) = some (rep (p10 n)) := by
  intro m
  induction m with
  | zero =>
    intro k i hi hk
    obtain ⟨k, rfl⟩ : ∃ j, k = j + 1 := ⟨k - 1, by omega⟩
    rw [impl_ten.l0, if_neg (by omega), show i = n from by omega]
  | succ m ih =>
    intro k i hi hk
    obtain ⟨k, rfl⟩ : ∃ j, k = j + 1 := ⟨k - 1, by omega⟩
    have hp := p10_pos i
    have hl : (rep (p10 i)).length ≤ 16 := rep_len_le (by omega) (p10_lt (by omega))
    rw [impl_ten.l0, if_pos (by omega), iMul_ge (rep_dig _) dig_ten (by omega) (by decide) k (by omega), bS, rep_val (by omega), w64 (by omega) (by omega), show ((i : Int) + 1) = ((i + 1 : Nat) : Int) from by omega,
      show p10 i * val [10] = p10 (i + 1) from by rw [p10_succ]; simp [val]; omega]
    exact ih k (i + 1) (by omega) (by omega)
theorem iTen_ge {n : Nat} (hn : n ≤ 63) (k : Nat) (hk : 6100 ≤ k) : impl_ten.f k (n : Int) = some (rep (p10 n)) := by
  have e := iTen_l0 hn n k 0 (by omega) (by omega)
  rw [p10_zero, ← rep_one] at e
  exact e
def tenR (n : Int) : Bool × List Int × Bool := if 0 ≤ n ∧ n ≤ 63 then bigR (p10 n.toNat) else No
theorem tenR_len (n : Int) : (tenR n).2.1.length ≤ 16 := by unfold tenR; split; exact bigR_len _; simp
theorem iIn (n : Int) : impl_in.f n 0 63 = some (decide (0 ≤ n) && decide (n ≤ 63)) := by
  unfold impl_in.f
  by_cases h : n ≥ 0
  · rw [if_pos h, decide_eq_true h, Bool.true_and]
  · rw [if_neg h, decide_eq_false h, Bool.false_and]
theorem sIn (n : Int) : spec_l1In.f n 0 63 = some (decide (0 ≤ n) && decide (n ≤ 63)) := by
  unfold spec_l1In.f
  by_cases h : n ≥ 0
  · rw [if_pos h, decide_eq_true h, Bool.true_and]
  · rw [if_neg h, decide_eq_false h, Bool.false_and]
theorem iBigTen_ge (n : Int) (k : Nat) (hk : 7000 ≤ k) : impl_BigTen.f k n = some (tenR n) := by
  unfold impl_BigTen.f tenR
  rw [iIn, bS]
  by_cases h : 0 ≤ n ∧ n ≤ 63
  · obtain ⟨m, rfl⟩ := Int.eq_ofNat_of_zero_le h.1
    have hp := p10_pos m
    have hl : (rep (p10 m)).length ≤ 16 := rep_len_le (by omega) (p10_lt (by omega))
    rw [if_pos h, decide_eq_true h.1, decide_eq_true h.2, if_pos (by rfl), iTen_ge (by omega) k (by omega), bS, big_ge (rep_dig _) (by omega) _ k (by omega), sv_rep (by omega), Int.toNat_natCast]
    exact eta3 _
  · rw [if_neg h, if_neg (by simpa using h)]
theorem sTen_l1 (acc : List Int) (ha : acc.length ≤ 1000) : ∀ (m k : Nat) (x : Int), m ≤ 100 → 0 ≤ x → x * p10 m ≤ 9999 → m + 2 ≤ k → spec_l1TenAbs.l1 k (m : Int) acc x = some (acc ++ [x * p10 m]) := by
  intro m
  induction m with
  | zero =>
    intro k x hm h0 h1 hk
    obtain ⟨k, rfl⟩ : ∃ j, k = j + 1 := ⟨k - 1, by omega⟩
    rw [spec_l1TenAbs.l1, if_neg (by omega), if_pos (by omega), p10_zero, Int.mul_one]
  | succ m ih =>
    intro k x hm h0 h1 hk
    obtain ⟨k, rfl⟩ : ∃ j, k = j + 1 := ⟨k - 1, by omega⟩
    have hp := p10_pos m
    have e : x * p10 (m + 1) = (x * 10) * p10 m := by rw [p10_succ, Int.mul_assoc]
    rw [e] at h1 ⊢
    have hx : x * 10 ≤ 9999 := by
      have : (x * 10) * 1 ≤ (x * 10) * p10 m := Int.mul_le_mul_of_nonneg_left hp (by omega)
      omega
    rw [spec_l1TenAbs.l1, if_pos (by omega), w64 (x := x * 10) (by omega) (by omega), w64 (by omega) (by omega), show (((m + 1 : Nat) : Int) - 1) = (m : Int) from by omega]
    exact ih k (x * 10) (by omega) (by omega) h1 (by omega)
theorem p10_3 {m : Nat} (h : m ≤ 3) : p10 m ≤ 1000 := by have := p10_mono h; rw [show p10 3 = 1000 from by decide] at this; exact this
theorem sTen_l0 : ∀ (q k m : Nat) (acc : List Int), m < 4 * q + 4 → 4 * q ≤ m → acc.length + q ≤ 500 → Dig acc → val acc = 0 → q + 20 ≤ k → ∃ l, spec_l1TenAbs.l0 k (m : Int) acc = some l ∧ Dig l ∧ l.length ≤ 600 ∧ val l = pw acc.length * p10 m := by
  intro q
  induction q with
  | zero =>
    intro k m acc h1 h2 h3 hd hv hk
    obtain ⟨k, rfl⟩ : ∃ j, k = j + 1 := ⟨k - 1, by omega⟩
    have hp := p10_pos m
    have hp3 := p10_3 (m := m) (by omega)
    refine ⟨acc ++ [1 * p10 m], ?_, dig_push hd (by omega) (by omega), by simp; omega, by rw [val_push, hv]; simp⟩
    rw [spec_l1TenAbs.l0, if_neg (by omega), sTen_l1 acc (by omega) m k 1 (by omega) (by omega) (by omega) (by omega)]
  | succ q ih =>
    intro k m acc h1 h2 h3 hd hv hk
    obtain ⟨k, rfl⟩ : ∃ j, k = j + 1 := ⟨k - 1, by omega⟩
    obtain ⟨d, rfl⟩ : ∃ d, m = d + 4 := ⟨m - 4, by omega⟩
    obtain ⟨l, e, e2, e3, e4⟩ := ih k d (acc ++ [0]) (by omega) (by omega) (by simp; omega) (dig_push hd (by omega) (by omega)) (by rw [val_push, hv]; simp) (by omega)
    refine ⟨l, ?_, e2, e3, ?_⟩
    · rw [spec_l1TenAbs.l0, if_pos (by omega), if_pos (by omega), w64 (by omega) (by omega), show (((d + 4 : Nat) : Int) - 4) = (d : Int) from by omega]
      exact e
    · rw [e4, List.length_append, List.length_cons, List.length_nil, Nat.zero_add, pw_succ, p10_succ, p10_succ, p10_succ, p10_succ]
      grind
theorem sBigTen_ge (n : Int) (k : Nat) (hk : 7000 ≤ k) : spec_BigTen.f k n = some (tenR n) := by
  unfold spec_BigTen.f tenR
  rw [sIn, bS]
  by_cases h : 0 ≤ n ∧ n ≤ 63
  · obtain ⟨m, rfl⟩ := Int.eq_ofNat_of_zero_le h.1
    obtain ⟨l, e, e2, e3, e4⟩ := sTen_l0 (m / 4) k m [] (by omega) (by omega) (by simp; omega) Dig.nil rfl (by omega)
    rw [List.length_nil, pw_zero, Int.one_mul] at e4
    rw [if_pos h, decide_eq_true h.1, decide_eq_true h.2, if_pos (by rfl), show spec_l1TenAbs.f k (m : Int) = some l from e, bS, l1Big_ge e2 (by omega) _ k (by omega), bigv_sv, e4, Int.toNat_natCast]
    exact eta3 _
  · rw [if_neg h, if_neg (by simpa using h)]
end Go.Proofs.Ytdemeoncjcbojaa.Val
end
section
namespace Go.Proofs.Ytdemeoncjcbojaa.Val
open Go.RowKit Go.Proofs.Ytdemeoncjcbojaa.Pr Go.Proofs.Ytdemeoncjcbojaa.Ext Go.Proofs.Ytdemeoncjcbojaa.Jt Go.Proofs.YtdemeoncjcbojaaW.PrintWords Go.Proofs.YtdemeoncjcbojaaW.PrintLast Go.Proofs.YtdemeoncjcbojaaW.PrintMore
set_option linter.unusedVariables false
set_option linter.unusedSimpArgs false
theorem eqIntS_l0 {a : List Int} (hL : a.length < 100000000) : ∀ (m k i : Nat), i + m = a.length → m + 1 ≤ k → laws_eqIntS.l0 k a a (i : Int) = some true := by
  intro m
  induction m with
  | zero =>
    intro k i hi hk
    obtain ⟨k, rfl⟩ : ∃ j, k = j + 1 := ⟨k - 1, by omega⟩
    rw [laws_eqIntS.l0, if_neg (by omega)]
  | succ m ih =>
    intro k i hi hk
    obtain ⟨k, rfl⟩ : ∃ j, k = j + 1 := ⟨k - 1, by omega⟩
    rw [laws_eqIntS.l0, if_pos (by omega), if_pos (by omega), if_pos (by omega), if_pos rfl, w64 (by omega) (by omega), show ((i : Int) + 1) = ((i + 1 : Nat) : Int) from by omega]
    exact ih k (i + 1) (by omega) (by omega)
theorem eqBig_ge (n : Bool) {l : List Int} (hl : l.length < 100000000) (k : Nat) (hk : l.length + 1 ≤ k) : laws_eqBig.f k n l n l = some true := by
  unfold laws_eqBig.f laws_eqIntS.f
  rw [if_neg (by simp), if_pos rfl]
  rw [show (0 : Int) = ((0 : Nat) : Int) from rfl, eqIntS_l0 hl l.length k 0 (by omega) hk]
  rfl
end Go.Proofs.Ytdemeoncjcbojaa.Val
end
section
namespace Go.Proofs.Ytdemeoncjcbojaa.Val
open Go.RowKit Go.Proofs.Ytdemeoncjcbojaa.Pr Go.Proofs.Ytdemeoncjcbojaa.Ext Go.Proofs.Ytdemeoncjcbojaa.Jt Go.Proofs.YtdemeoncjcbojaaW.PrintWords Go.Proofs.YtdemeoncjcbojaaW.PrintLast Go.Proofs.YtdemeoncjcbojaaW.PrintMore
set_option linter.unusedVariables false
set_option linter.unusedSimpArgs false
theorem mark_l0 : ∀ (m i : Nat) (x : List Int) (a : Int), i + m = x.length → x.length ≤ 1000 → 0 ≤ a → a + m ≤ 1000000 →
    ∃ r, (∀ k, m + 1 ≤ k → laws_markIntS.l0 k x a (i : Int) = some (a + m, r)) ∧ r.length = x.length ∧ (∀ j, j < i → r.getD j 0 = x.getD j 0) ∧ (∀ j, i ≤ j → j < x.length → r.getD j 0 = a + ((j - i : Nat) : Int)) := by
  intro m
  induction m with
  | zero =>
    intro i x a hi hl h0 h1
    refine ⟨x, fun k hk => ?_, rfl, fun j _ => rfl, fun j h2 h3 => by omega⟩
    obtain ⟨k, rfl⟩ : ∃ j, k = j + 1 := ⟨k - 1, by omega⟩
    rw [laws_markIntS.l0, if_neg (by omega)]
    simp
  | succ m ih =>
    intro i x a hi hl h0 h1
    have hlt : i < x.length := by omega
    · obtain ⟨r, hr, h2, h3, h4⟩ := ih (i + 1) (x.set i a) (a + 1) (by rw [List.length_set]; omega) (by rw [List.length_set]; omega) (by omega) (by omega)
      refine ⟨r, fun k hk => ?_, by rw [h2, List.length_set], fun j hj => by rw [h3 j (by omega), getD_set_ne _ hlt (by omega)], fun j hj hj2 => ?_⟩
      · obtain ⟨k, rfl⟩ : ∃ j, k = j + 1 := ⟨k - 1, by omega⟩
        rw [laws_markIntS.l0, if_pos (by omega), if_pos (by omega), Int.toNat_natCast, w64 (by omega) (by omega), w64 (by omega) (by omega), show ((i : Int) + 1) = ((i + 1 : Nat) : Int) from by omega, hr k (by omega)]
        rw [show a + 1 + (m : Int) = a + ((m + 1 : Nat) : Int) from by omega]
      · by_cases hji : j = i
        · rw [hji, h3 i (by omega), getD_set_eq _ hlt]; omega
        · rw [h4 j (by omega) (by rw [List.length_set]; exact hj2)]; omega
theorem held_l0 : ∀ (m k i : Nat) (x : List Int) (a : Int), i + m = x.length → x.length ≤ 1000 → 0 ≤ a → a + m ≤ 1000000 → (∀ j, i ≤ j → j < x.length → x.getD j 0 = a + ((j - i : Nat) : Int)) → m + 1 ≤ k →
    laws_heldIntS.l0 k x a (i : Int) = some (a + m) := by
  intro m
  induction m with
  | zero =>
    intro k i x a hi hl h0 h1 hx hk
    obtain ⟨k, rfl⟩ : ∃ j, k = j + 1 := ⟨k - 1, by omega⟩
    rw [laws_heldIntS.l0, if_neg (by omega)]
    simp
  | succ m ih =>
    intro k i x a hi hl h0 h1 hx hk
    obtain ⟨k, rfl⟩ : ∃ j, k = j + 1 := ⟨k - 1, by omega⟩
    have e := hx i (Nat.le_refl _) (by omega)
    rw [laws_heldIntS.l0, if_pos (by omega), if_pos (by omega), rdN, if_pos (by rw [e]; simp), w64 (by omega) (by omega), w64 (by omega) (by omega), show ((i : Int) + 1) = ((i + 1 : Nat) : Int) from by omega,
      ih k (i + 1) x (a + 1) (by omega) hl (by omega) (by omega) (fun j h2 h3 => by rw [hx j (by omega) h3]; omega) (by omega)]
    rw [show a + 1 + (m : Int) = a + ((m + 1 : Nat) : Int) from by omega]
theorem mark_ge (n : Bool) (l : List Int) (hl : l.length ≤ 1000) (a : Int) (h0 : 0 ≤ a) (h1 : a ≤ 900000) : ∃ r, (∀ k, 1010 ≤ k → laws_markBig.f k n l a = some (a + l.length, r)) ∧ r.length = l.length ∧ (∀ n' k, 1010 ≤ k → laws_heldBig.f k n' r a = some (a + l.length)) := by
  obtain ⟨r, hr, h2, _, h4⟩ := mark_l0 l.length 0 l a (by omega) hl h0 (by omega)
  refine ⟨r, fun k hk => ?_, h2, fun n' k hk => ?_⟩
  · unfold laws_markBig.f laws_markIntS.f
    rw [show (0 : Int) = ((0 : Nat) : Int) from rfl, hr k (by omega)]; rfl
  · unfold laws_heldBig.f laws_heldIntS.f
    rw [show (0 : Int) = ((0 : Nat) : Int) from rfl, held_l0 r.length k 0 r a (by omega) (by omega) h0 (by omega) (fun j h5 h6 => h4 j h5 (by omega)) (by omega), Option.bind_some, h2, if_neg (by omega)]
end Go.Proofs.Ytdemeoncjcbojaa.Val
end
section
namespace Go.Proofs.Ytdemeoncjcbojaa.Pure
open Go.RowKit Go.Proofs.Ytdemeoncjcbojaa.Pr Go.Proofs.Ytdemeoncjcbojaa.Pw Go.Proofs.Ytdemeoncjcbojaa.Ext Go.Proofs.Ytdemeoncjcbojaa.Jt Go.Proofs.Ytdemeoncjcbojaa.Val Go.Proofs.YtdemeoncjcbojaaW.PrintWords Go.Proofs.YtdemeoncjcbojaaW.PrintLast Go.Proofs.YtdemeoncjcbojaaW.PrintMore
set_option linter.unusedVariables false
set_option linter.unusedSimpArgs false
theorem FnExactBigTen : laws_FnExactBigTen.Pure := by
  intro x _
  refine ⟨8000, ?_⟩
  have hx := tenR_len x
  obtain ⟨r, hr, h2, h3⟩ := mark_ge (tenR x).1 (tenR x).2.1 (by omega) 1 (by omega) (by omega)
  have h0 : ¬ (1 + ((tenR x).2.1.length : Int) < 0) := by omega
  unfold laws_FnExactBigTen.f
  rw [sBigTen_ge x 8000 (by omega)]; simp only [bS]
  rw [iBigTen_ge x 8000 (by omega)]; simp only [bS]
  rw [eqBig_ge _ (by omega) 8000 (by omega)]; simp only [bS]
  rw [if_pos trivial, if_neg (by simp), hr 8000 (by omega)]; simp only [bS]
  rw [h3 _ 8000 (by omega)]; simp only [bS]
  simp only [if_neg h0, if_true]
  simp
end Go.Proofs.Ytdemeoncjcbojaa.Pure
end
