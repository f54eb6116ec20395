/- What the claim's row needs of the contracts and words below it, and no more. -/
import Derived.Test.YtdemeoncjcbojaaQDi0
import Derived.Test.YtdemeoncjcbojaaProg
import Derived.Below
import Derived.Deep.Draws
import Derived.Deep.AppendLies
import Derived.Maps.AppendAt
import Derived.OwnWalk
import Derived.Laws.BytesArg
import Derived.Laws.MakeOwn
import Derived.Laws.OwnMore
import Derived.Deep.OwnRows
import Derived.Tactics
import Derived.Lib.ConvBytes
import Derived.Laws.Slices
import Derived.WalkKit
import Derived.KernelRfl
import Derived.RowKit3
import Derived.Deep.LoopGhost
import Derived.Deep.QuietTactic
import Derived.BigQuiet
import Derived.WideLaws
import Derived.Deep.DeepCutAuto
import Derived.Deep.CutBlock
import Derived.Deep.RegionHeld3
import Derived.Laws.Rows
import Derived.Lib.AppendStr
import Derived.ArgAppend
import Derived.Laws.IdiomCopy
import Derived.OrdersHeld
import Derived.Laws.BitsLemmas
import Derived.RowKit
import Derived.Lib.SliceRun
section
namespace Go.Proofs.Ytdemeoncjcbojaa
open Go.RowKit Go.Proofs.YtdemeoncjcbojaaW.PrintWords Go.Proofs.YtdemeoncjcbojaaW.PrintLast Go.Proofs.YtdemeoncjcbojaaW.PrintMore
/-- What the walk has drawn, made and written since lies above. -/
theorem zb {A : Prop} (p : A := by repeat (first | (with_reducible first | exact HB.out | apply below_alloc | apply pw_below_drewN | apply below_drew1 | refine below_set ?_ (Aside0.out (by assumption))) | exact HB.out)) : A := p
/-- A block stays through what is drawn, made or written elsewhere. -/
theorem zk {A B : Prop} (h : A) (p : A → B := by intro h_; (with_reducible repeat (first | exact h_ | refine blk_drewN ?_ _ | refine blk_drew ?_ | refine blk_alloc ?_ _ | refine blk_far ?_ (Aside0.out (by assumption)) _)); try exact h_) : B := p h
/-- A row stays through what is drawn and made. -/
theorem zV {A B : Prop} (h : A) (p : A → B := by intro h_; (with_reducible repeat (first | apply Kd.V_alloc | apply Kd.V_drewN | apply Kd.V_drew)); exact h_) : B := p h
/-- A row stays through what is drawn and made. -/
theorem zR {A B : Prop} (h : A) (p : A → B := by intro h_; (with_reducible repeat (first | apply Kd.R_alloc | apply Kd.R_drewN | apply Kd.R_drew)); exact h_) : B := p h
/-- A row stays through what is drawn and made. -/
theorem zC {A B : Prop} (h : A) (p : A → B := by intro h_; (with_reducible repeat (first | apply Kd.C_alloc | apply Kd.C_drewN | apply Kd.C_drew)); exact h_) : B := p h
/-- The arguments as they stand. -/
theorem za {A : Prop} (p : A := by (try simp only [List.map_toArray, List.map_cons, List.map_nil]); first | done | rfl | (simp only [List.length_drop, List.length_take]; rfl)) : A := p
/-- A row that may be written stays through what is drawn and made. -/
theorem zRW {A B : Prop} (h : A) (p : A → B := by intro h_; (with_reducible repeat (first | apply Kd.RW_alloc | apply Kd.RW_drewN | apply Kd.RW_drew)); exact h_) : B := p h
/-- Set aside. -/
theorem zm {p : Prop} (h : p) : Aside0 p := Aside0.mk h
/-- What is read stays through what is drawn and made. -/
theorem zc {A B : Prop} (h : A) (p : A → B := by intro h_; repeat (first | exact h_ | (with_reducible refine Kd.C_alloc ?_ _) | (with_reducible refine Kd.C_drewN ?_ _) | (with_reducible refine Kd.C_drew ?_))) : B := p h
/-- Cells of a frame. -/
theorem zs {α : Type} (l : List α) (i : Nat) (a : α) : l.toArray.setIfInBounds i a = (l.set i a).toArray := List.setIfInBounds_toArray ..
theorem zs0 {α : Type} (x : α) (l : List α) (a : α) : (x :: l).set 0 a = a :: l := rfl
theorem zs1 {α : Type} (x : α) (l : List α) (n : Nat) (a : α) : (x :: l).set (n + 1) a = x :: l.set n a := rfl
end Go.Proofs.Ytdemeoncjcbojaa
namespace Go.Proofs.Ytdemeoncjcbojaa.Ext
open Go.RowKit Go.Proofs.YtdemeoncjcbojaaW.PrintWords Go.Proofs.YtdemeoncjcbojaaW.PrintLast Go.Proofs.YtdemeoncjcbojaaW.PrintMore
set_option linter.unusedVariables false
set_option linter.unusedSimpArgs false
def bad (x : Int) : Bool := !(decide (0 ≤ x) && decide (x ≤ 9999))
def idx.l0 : Nat → List Int → Int → Option Int
  | 0, _, _ => none
  | k + 1, l, i => if i < (l.length : Int) then (if 0 ≤ i then (if bad (rd l i) = true then some i else idx.l0 k l (wrap64 (i + 1))) else none) else some (-1)
set_option maxHeartbeats 1000000 in
theorem lit_calls (x : Int) (b : Bool) (hb : bad x = b) (w : World) : Calls Try.prog 52 #[.int .i64 x] w fun e w' => e = .returned (.bool b) ∧ Drawn0 w w' := by
  by_cases h0 : 0 ≤ x
  · by_cases h1 : x ≤ 9999
    · obtain rfl : b = false := by rw [← hb]; simp [bad, h0, h1]
      clear hb
      have c0 : decide (0 ≤ x) = true := decide_eq_true h0
      have c1 : decide (x ≤ 9999) = true := decide_eq_true h1
      clear h0 h1
      go_enter Try.func52, Try.ntmps52
      go_wp2
      go_ret
      exact ⟨by first | rfl | (simp; done), by repeat (first | exact Drawn0.refl _ | apply Drawn0.step)⟩
    · obtain rfl : b = true := by rw [← hb]; simp [bad, h0, h1]
      clear hb
      have c0 : decide (0 ≤ x) = true := decide_eq_true h0
      have c1 : decide (x ≤ 9999) = false := decide_eq_false h1
      clear h0 h1
      go_enter Try.func52, Try.ntmps52
      go_wp2
      go_ret
      exact ⟨by first | rfl | (simp; done), by repeat (first | exact Drawn0.refl _ | apply Drawn0.step)⟩
  · obtain rfl : b = true := by rw [← hb]; simp [bad, h0]
    clear hb
    have c0 : decide (0 ≤ x) = false := decide_eq_false h0
    clear h0
    go_enter Try.func52, Try.ntmps52
    go_wp2
    go_ret
    exact ⟨by first | rfl | (simp; done), by repeat (first | exact Drawn0.refl _ | apply Drawn0.step)⟩
set_option maxHeartbeats 2000000 in
theorem idx_calls (k : Nat) (A0 : Option Addr) (c0 : Nat) (l0 : List Int) (r : Int) (w : World) (hr0 : Kd.C (Kd.int .i64) w A0 l0.length l0) (hc0 : l0.length ≤ c0) (h : idx.l0 k l0 0 = some r) :
    Calls Try.prog 81 #[.slice A0 l0.length c0, .func (.func 52) #[] #[]] w fun e w' => e = .returned (.int .i64 r) ∧ Drawn0 w w' := by
  have HR0 := Aside0.mk hr0
  have HC0 := Aside0.mk hc0
  clear hr0 hc0
  have H' := Aside0.mk h
  clear h
  go_enter Try.func81, Try.ntmps81
  go_wp2
  go_loopg [5, 8] k (fun kq v5 v8 w' => ∃ (x8 : Int), v8 = .int .i64 x8 ∧ Aside0 (idx.l0 kq l0 x8 = some r) ∧ Aside0 (kq ≤ k) ∧ Drawn0 w w')
  case atStart => exact ⟨(0), (by first | rfl | (simp; done) | (simp [*]; done)), H', ⟨Nat.le_refl _⟩, by repeat (first | exact Drawn0.refl _ | apply Drawn0.step)⟩
  case round =>
    clear H'
    obtain ⟨x8, rfl, HA, HK1, ⟨m1, rfl⟩⟩ := hrel
    cases gk with
    | zero => exact absurd HA.out (by simp [idx.l0])
    | succ k1 =>
      have H := HA.out
      clear HA
      simp only [idx.l0] at H
      by_cases c3 : x8 < (l0.length : Int)
      · rw [if_pos c3] at H
        have c3b0 : decide (x8 < (l0.length : Int)) = true := decide_eq_true c3
        clear c3
        by_cases c4 : 0 ≤ x8
        · rw [if_pos c4] at H
          have c4b0 : decide (0 ≤ x8) = true := decide_eq_true c4
          clear c4
          have p1 : 0 ≤ (x8 : Int) := of_decide_eq_true (by first | (with_reducible assumption) | assumption)
          have q1 : x8 < (l0.length : Int) := of_decide_eq_true (by first | (with_reducible assumption) | assumption)
          obtain ⟨ad1, e1, hx1⟩ := Kd.at_int HR0.out x8 p1 q1
          cases e1
          replace p1 := eq_true p1
          replace q1 := eq_true q1
          by_cases c5 : bad (rd l0 x8) = true
          · rw [if_pos c5] at H
            have C5 := Aside0.mk c5
            clear c5
            obtain rfl := Option.some.inj H
            go_wp2_with (go_at_call 52; (with_reducible refine (lit_calls (rd l0 x8) true C5.out _).mono ?_); rintro e w' ⟨rfl, ⟨nd, rfl⟩⟩)
            go_ret
            exact ⟨by first | rfl | (simp; done) | (simp [*]; done), by repeat (first | exact Drawn0.refl _ | apply Drawn0.step)⟩
          · rw [if_neg c5] at H
            have C5 := Aside0.mk (Bool.eq_false_iff.mpr c5)
            clear c5
            have H' := Aside0.mk H
            clear H
            go_wp2_with (go_at_call 52; (with_reducible refine (lit_calls (rd l0 x8) false C5.out _).mono ?_); rintro e w' ⟨rfl, ⟨nd, rfl⟩⟩)
            go_roundg k1
            case measure => have := HK1.out; omega
            case rel => exact ⟨(wrap64 (x8 + 1)), (by first | rfl | (simp; done) | (simp [*]; done)), H', ⟨by have := HK1.out; omega⟩, by repeat (first | exact Drawn0.refl _ | apply Drawn0.step)⟩
        · rw [if_neg c4] at H
          exact absurd H (by simp)
      · rw [if_neg c3] at H
        have c3b0 : decide (x8 < (l0.length : Int)) = false := decide_eq_false c3
        clear c3
        obtain rfl := Option.some.inj H
        go_wp2
        go_ret
        exact ⟨by first | rfl | (simp; done) | (simp [*]; done), by repeat (first | exact Drawn0.refl _ | apply Drawn0.step)⟩
theorem idx_l0 (l : List Int) (hl : (l.length : Int) ≤ 9223372036854775807) (d : Nat) : ∀ (k : Nat) (i : Int), 0 ≤ i → (l.length : Int) - i ≤ d → d < k → ∃ r, idx.l0 k l i = some r ∧ (0 ≤ r ↔ (l.drop i.toNat).any bad = true) := by
  induction d with
  | zero =>
    intro k i h0 h1 hk
    obtain ⟨k, rfl⟩ : ∃ m, k = m + 1 := ⟨k - 1, by omega⟩
    refine ⟨-1, ?_, ?_⟩
    · rw [idx.l0, if_neg (by omega)]
    · rw [List.drop_eq_nil_of_le (by omega)]; simp
  | succ d ih =>
    intro k i h0 h1 hk
    obtain ⟨k, rfl⟩ : ∃ m, k = m + 1 := ⟨k - 1, by omega⟩
    by_cases hlt : i < (l.length : Int)
    · have hn : i.toNat < l.length := by omega
      have e : l.drop i.toNat = rd l i :: l.drop (i.toNat + 1) := by
        rw [List.drop_eq_getElem_cons hn]
        unfold rd
        rw [List.getD_eq_getElem?_getD, List.getElem?_eq_getElem hn]; rfl
      by_cases hb : bad (rd l i) = true
      · refine ⟨i, ?_, ?_⟩
        · rw [idx.l0, if_pos hlt, if_pos h0, if_pos hb]
        · rw [e, List.any_cons, hb]; simp [h0]
      · obtain ⟨r, hr, hi⟩ := ih k (i + 1) (by omega) (by omega) (by omega)
        refine ⟨r, ?_, ?_⟩
        · rw [idx.l0, if_pos hlt, if_pos h0, if_neg hb, show wrap64 (i + 1) = i + 1 from by unfold wrap64; omega]; exact hr
        · rw [hi, e, List.any_cons, Bool.eq_false_iff.mpr hb, show (i + 1).toNat = i.toNat + 1 from by omega]; simp
    · refine ⟨-1, ?_, ?_⟩
      · rw [idx.l0, if_neg hlt]
      · rw [List.drop_eq_nil_of_le (by omega)]; simp
set_option maxHeartbeats 1000000 in
theorem contains_calls (A0 : Option Addr) (c0 : Nat) (l0 : List Int) (b : Bool) (w : World) (hr0 : Kd.C (Kd.int .i64) w A0 l0.length l0) (hc0 : l0.length ≤ c0) (hb : l0.any bad = b) :
    Calls Try.prog 51 #[.slice A0 l0.length c0, .func (.func 52) #[] #[]] w fun e w' => e = .returned (.bool b) ∧ Drawn0 w w' := by
  have hl : (l0.length : Int) ≤ 9223372036854775807 := by have := hr0.2.1; omega
  obtain ⟨r, hr, hi⟩ := idx_l0 l0 hl l0.length (l0.length + 1) 0 (by omega) (by omega) (by omega)
  rw [show (0 : Int).toNat = 0 from rfl, List.drop_zero, hb] at hi
  have HR := Aside0.mk hr
  have HR0 := Aside0.mk hr0
  have HC0 := Aside0.mk hc0
  have hd : decide (0 ≤ r) = b := by cases b <;> simp_all
  clear hr hr0 hc0 hi hb hl
  go_enter Try.func51, Try.ntmps51
  go_wp2_with (go_at_call 81; (with_reducible refine (idx_calls (l0.length + 1) A0 c0 l0 r _ HR0.out HC0.out HR.out).mono ?_); rintro e w' ⟨rfl, ⟨nd, rfl⟩⟩)
  go_ret
  exact ⟨by first | rfl | (simp [*]; done), by repeat (first | exact Drawn0.refl _ | apply Drawn0.step)⟩
end Go.Proofs.Ytdemeoncjcbojaa.Ext
namespace Go.Proofs.Ytdemeoncjcbojaa.Ext
open Go.RowKit Go.Proofs.YtdemeoncjcbojaaW.PrintWords Go.Proofs.YtdemeoncjcbojaaW.PrintLast Go.Proofs.YtdemeoncjcbojaaW.PrintMore
def containsBad.f (l0 : List Int) : Option Bool := some (l0.any bad)
theorem containsBad.calls (A0 : Option Addr) (c0 : Nat) (l0 : List Int) (r : Bool) (w : World) (hr0 : Kd.C (Kd.int .i64) w A0 l0.length l0) (hc0 : l0.length ≤ c0) (h : containsBad.f l0 = some r) :
    Calls Try.prog 51 #[.slice A0 l0.length c0, .func (.func 52) #[] #[]] w fun e w' => e = .returned (.bool r) ∧ Drawn0 w w' := contains_calls A0 c0 l0 r w hr0 hc0 (Option.some.inj h)
end Go.Proofs.Ytdemeoncjcbojaa.Ext
end
section
namespace Go.Proofs.Ytdemeoncjcbojaa.Ext
open Go.RowKit Go.Proofs.YtdemeoncjcbojaaW.PrintWords Go.Proofs.YtdemeoncjcbojaaW.PrintLast Go.Proofs.YtdemeoncjcbojaaW.PrintMore
set_option linter.unusedVariables false
set_option linter.unusedSimpArgs false
theorem info3 : (Try.prog.info? 3).map (fun i => (i.zero, i.size, i.bytes)) = some (some (.int .i64 0), 1, 8) := by kernel_rfl
def clone99.f (l0 : List Int) : Option (List Int) := if l0.length < 17592186044416 then some l0 else none
set_option maxHeartbeats 4000000 in
set_option maxRecDepth 100000 in
theorem clone99.calls (A0 : Option Addr) (c0 : Nat) (l0 : List Int) (r : List Int) (w : World) (hr0 : Kd.C (Kd.int .i64) w A0 l0.length l0) (hc0 : l0.length ≤ c0) (h : clone99.f l0 = some r) :
    Calls Try.prog 99 #[.slice A0 l0.length c0] w fun e w' => ∃ v0_ : Value, e = .returned (v0_) ∧ Kd.R (Kd.int .i64) 3 w' w.heap.size (fun _ => True) v0_ r ∧ Below w.heap.size w w' := by
  have hlim : l0.length < 17592186044416 := by unfold clone99.f at h; split at h <;> simp_all
  obtain rfl : l0 = r := by unfold clone99.f at h; rw [if_pos hlim] at h; exact Option.some.inj h
  clear h
  have hq := fun w : World => Lib.run_eql_slice_nil (P := Try.prog) w 22 3 A0 l0.length c0 0 0 Try.underlying22
  have HLIM := Aside0.mk hlim
  clear hlim
  cases A0 with
  | none =>
    have h0 : l0 = [] := by
      apply List.eq_nil_of_length_eq_zero
      apply Nat.eq_zero_of_not_pos
      intro hp
      obtain ⟨ad, e, _⟩ := hr0.2.2 hp
      cases e
    subst h0
    clear hr0 hc0
    simp only [Option.isNone_none, List.length_nil] at hq
    go_enter Try.func99, Try.ntmps99
    go_wp2
    go_ret
    exact ⟨_, rfl, Kd.R_nil _ _ _ _ _, Below.refl _ _⟩
  | some ad0 =>
    have HR0 := Aside0.mk hr0
    have HC0 := Aside0.mk hc0
    clear hr0 hc0
    simp only [Option.isNone_some] at hq
    have HB := Aside0.mk (Below.refl w.heap.size w)
    go_enter Try.func99, Try.ntmps99
    go_wp2_with (first | ((with_reducible refine gate_dst (N := 5) rfl ?_); refine Kd.R_lit (Kd.int .i64) _ 3 ?hg (N := 5) ?hd (xs := ([] : List Int)) (inner := []) (ok := fun _ => True) (okp := fun _ => True) ?hr ?hp (fun _ hk => hk) trivial (Below.refl _ _) (Nat.le_refl _) (by simp) ?_; (case hd => rfl); (case hg => rfl); (case hr => first | (go_simp; done) | (go_simp; rfl)); (case hp => exact (Reps.none _ _)); intro v1 w1 ho1 hb hg_ hnew_; clear hg_ hnew_; have n0_ := Aside0.mk (Kd.R_lower ho1 (below_size zb)); have n1_ := Aside0.mk (below_step zb hb); clear HB; have HO1 := n0_; have HB := n1_; clear n0_ n1_; clear hb ho1) | ((with_reducible refine gate_builtin (b := .append) (xs := #[.tmp 5, .tmp 6]) rfl ?_); at_builtin; refine Kd.R_append_rows (Kd.int .i64) (w0 := w) w.heap.size rfl (.tmp 5) (.tmp 6) 22 3 (.int .i64 0) 8 rfl Try.underlying22 info3 rfl (by decide) (by omega) v1 ([] : List Int) l0 _ _ _ (fun _ => True) (fun _ => False) rfl rfl ?aO ?aR (fun _ _ h => h) (fun _ h => h.elim) ?aF ?aB ?aS ?aL ?_; (case aR => (repeat (first | exact (Kd.C_below HR0.out HB.out) | (with_reducible refine Kd.C_alloc ?_ _) | (with_reducible refine Kd.C_drewN ?_ _) | (with_reducible refine Kd.C_drew ?_)))); (case aB => exact zb); (case aF => exact (fun _ _ => trivial)); (case aO => exact (zR HO1.out)); (case aS => exact (below_size zb)); (case aL => have := HLIM.out; simp only [List.length_nil]; omega); intro v2 w2 ho hb hg hat; have n0_ := Aside0.mk (hb); have n1_ := Aside0.mk (ho); clear HB; clear HO1; have HB := n0_; have HO2 := n1_; clear n0_ n1_; clear ho hb hg hat))
    go_ret
    exact ⟨_, rfl, by have := HO2.out; simp only [List.nil_append] at this; (with_reducible repeat (first | apply Kd.R_alloc | apply Kd.R_drewN | apply Kd.R_drew)); exact this, zb⟩
def clone100.f (l0 : List Int) : Option (List Int) := if l0.length < 17592186044416 then some l0 else none
set_option maxHeartbeats 4000000 in
set_option maxRecDepth 100000 in
theorem clone100.calls (A0 : Option Addr) (c0 : Nat) (l0 : List Int) (r : List Int) (w : World) (hr0 : Kd.C (Kd.int .i64) w A0 l0.length l0) (hc0 : l0.length ≤ c0) (h : clone100.f l0 = some r) :
    Calls Try.prog 100 #[.slice A0 l0.length c0] w fun e w' => ∃ v0_ : Value, e = .returned (v0_) ∧ Kd.R (Kd.int .i64) 3 w' w.heap.size (fun _ => True) v0_ r ∧ Below w.heap.size w w' := by
  have hlim : l0.length < 17592186044416 := by unfold clone100.f at h; split at h <;> simp_all
  obtain rfl : l0 = r := by unfold clone100.f at h; rw [if_pos hlim] at h; exact Option.some.inj h
  clear h
  have hq := fun w : World => Lib.run_eql_slice_nil (P := Try.prog) w 54 3 A0 l0.length c0 0 0 Try.underlying54
  have HLIM := Aside0.mk hlim
  clear hlim
  cases A0 with
  | none =>
    have h0 : l0 = [] := by
      apply List.eq_nil_of_length_eq_zero
      apply Nat.eq_zero_of_not_pos
      intro hp
      obtain ⟨ad, e, _⟩ := hr0.2.2 hp
      cases e
    subst h0
    clear hr0 hc0
    simp only [Option.isNone_none, List.length_nil] at hq
    go_enter Try.func100, Try.ntmps100
    go_wp2
    go_ret
    exact ⟨_, rfl, Kd.R_nil _ _ _ _ _, Below.refl _ _⟩
  | some ad0 =>
    have HR0 := Aside0.mk hr0
    have HC0 := Aside0.mk hc0
    clear hr0 hc0
    simp only [Option.isNone_some] at hq
    have HB := Aside0.mk (Below.refl w.heap.size w)
    go_enter Try.func100, Try.ntmps100
    go_wp2_with (first | ((with_reducible refine gate_dst (N := 5) rfl ?_); refine Kd.R_lit (Kd.int .i64) _ 3 ?hg (N := 5) ?hd (xs := ([] : List Int)) (inner := []) (ok := fun _ => True) (okp := fun _ => True) ?hr ?hp (fun _ hk => hk) trivial (Below.refl _ _) (Nat.le_refl _) (by simp) ?_; (case hd => rfl); (case hg => rfl); (case hr => first | (go_simp; done) | (go_simp; rfl)); (case hp => exact (Reps.none _ _)); intro v1 w1 ho1 hb hg_ hnew_; clear hg_ hnew_; have n0_ := Aside0.mk (Kd.R_lower ho1 (below_size zb)); have n1_ := Aside0.mk (below_step zb hb); clear HB; have HO1 := n0_; have HB := n1_; clear n0_ n1_; clear hb ho1) | ((with_reducible refine gate_builtin (b := .append) (xs := #[.tmp 5, .tmp 6]) rfl ?_); at_builtin; refine Kd.R_append_rows (Kd.int .i64) (w0 := w) w.heap.size rfl (.tmp 5) (.tmp 6) 54 3 (.int .i64 0) 8 rfl Try.underlying54 info3 rfl (by decide) (by omega) v1 ([] : List Int) l0 _ _ _ (fun _ => True) (fun _ => False) rfl rfl ?aO ?aR (fun _ _ h => h) (fun _ h => h.elim) ?aF ?aB ?aS ?aL ?_; (case aR => (repeat (first | exact (Kd.C_below HR0.out HB.out) | (with_reducible refine Kd.C_alloc ?_ _) | (with_reducible refine Kd.C_drewN ?_ _) | (with_reducible refine Kd.C_drew ?_)))); (case aB => exact zb); (case aF => exact (fun _ _ => trivial)); (case aO => exact (zR HO1.out)); (case aS => exact (below_size zb)); (case aL => have := HLIM.out; simp only [List.length_nil]; omega); intro v2 w2 ho hb hg hat; have n0_ := Aside0.mk (hb); have n1_ := Aside0.mk (ho); clear HB; clear HO1; have HB := n0_; have HO2 := n1_; clear n0_ n1_; clear ho hb hg hat))
    go_ret
    exact ⟨_, rfl, by have := HO2.out; simp only [List.nil_append] at this; (with_reducible repeat (first | apply Kd.R_alloc | apply Kd.R_drewN | apply Kd.R_drew)); exact this, zb⟩
set_option maxHeartbeats 1000000 in
theorem clip_calls (A : Option Addr) (n c : Nat) (hn : n ≤ c) (hm : n ≤ 9223372036854775807) (w : World) : Calls Try.prog 98 #[.slice A n c] w fun e w' => e = .returned (.slice A n n) ∧ Drawn0 w w' := by
  go_enter Try.func98, Try.ntmps98
  go_wp2
  go_ret
  exact ⟨by first | rfl | (simp; done), by repeat (first | exact Drawn0.refl _ | apply Drawn0.step)⟩
def impl_clone_int.f (l0 : List Int) : Option (List Int) := clone99.f l0
set_option maxHeartbeats 1000000 in
theorem impl_clone_int.calls (A0 : Option Addr) (c0 : Nat) (l0 : List Int) (r : List Int) (w : World) (hr0 : Kd.C (Kd.int .i64) w A0 l0.length l0) (hc0 : l0.length ≤ c0) (h : impl_clone_int.f l0 = some r) :
    Calls Try.prog 83 #[.slice A0 l0.length c0] w fun e w' => ∃ v0_ : Value, e = .returned (v0_) ∧ Kd.V (Kd.int .i64) 3 w' w.heap.size (fun k_ => (w.heap.size ≤ k_)) v0_ r ∧ Below w.heap.size w w' := by
  have HR0 := Aside0.mk hr0
  have HC0 := Aside0.mk hc0
  have H := Aside0.mk (show clone99.f l0 = some r from h)
  clear hr0 hc0 h
  go_enter Try.func83, Try.ntmps83
  go_wp2_with (fail)
  refine (clone99.calls A0 c0 l0 r _ HR0.out HC0.out H.out).mono ?_
  rintro e w' ⟨v, rfl, hR, hb⟩
  obtain ⟨A, c, rfl⟩ := Kd.R_slice hR
  obtain ⟨A', c', he, hle, hC⟩ := Kd.R_reads hR
  obtain ⟨rfl, rfl⟩ : A = A' ∧ c = c' := by injection he with h1 h2 h3; exact ⟨h1, h3⟩
  have hV := Kd.V_F (Kd.R_V (base' := w.heap.size) (Kd.R_newM (M := fun k_ => (w.heap.size ≤ k_)) hR (Nat.le_refl _) (fun k_ h_ => h_)))
  have HV := Aside0.mk hV
  have HB := Aside0.mk hb
  have hm : r.length ≤ 9223372036854775807 := hC.2.1
  clear hR hb he hC hV
  go_wp2_with (go_at_call 98; (with_reducible refine (clip_calls A r.length c hle hm _).mono ?_); rintro e w1 ⟨rfl, ⟨nd, rfl⟩⟩)
  go_ret
  exact ⟨_, rfl, Kd.V_mk (Nat.le_refl _) (by (with_reducible repeat (first | apply Kd.F_drewN | apply Kd.F_drew)); exact Kd.F_mono HV.out (fun _ hk => by simp_all)), by repeat (first | exact HB.out | apply pw_below_drewN | apply below_drew1)⟩
end Go.Proofs.Ytdemeoncjcbojaa.Ext
end
section
namespace Go.Proofs.Ytdemeoncjcbojaa.Pr
open Go.RowKit Go.Proofs.YtdemeoncjcbojaaW.PrintWords Go.Proofs.YtdemeoncjcbojaaW.PrintLast Go.Proofs.Ytdemeoncjcbojaa.Ext Go.Proofs.YtdemeoncjcbojaaW.PrintMore
attribute [local go_sem] max2_int min2_int max_two min_two max_three min_three max_four min_four
set_option linter.unusedVariables false
set_option linter.unusedSimpArgs false
def errW : Option Int → Value
  | none => .nilIface
  | some c => .iface 0 (.int .i64 c)
theorem errW_none : errW none = .nilIface := rfl
theorem errW_some (c : Int) : errW (some c) = .iface 0 (.int .i64 c) := rfl
theorem info3 : (Try.prog.info? 3).map (fun i => (i.zero, i.size, i.bytes)) = some (some (.int .i64 0), 1, 8) := by kernel_rfl
theorem info5 : (Try.prog.info? 5).map (fun i => (i.zero, i.size, i.bytes)) = some (some (.int .u8 0), 1, 1) := by kernel_rfl
end Go.Proofs.Ytdemeoncjcbojaa.Pr
end
section
namespace Go.Proofs.Ytdemeoncjcbojaa.Pr
open Go.RowKit Go.Proofs.YtdemeoncjcbojaaW.PrintWords Go.Proofs.YtdemeoncjcbojaaW.PrintLast Go.Proofs.Ytdemeoncjcbojaa.Ext Go.Proofs.YtdemeoncjcbojaaW.PrintMore
attribute [local go_sem] max2_int min2_int max_two min_two max_three min_three max_four min_four
set_option linter.unusedVariables false
set_option linter.unusedSimpArgs false
def laws_szIntS.f (l0 : List Int) (a1 : Int) : Option (Int) := if (wrap64 (a1 - (l0.length : Int))) < 0 then (some (-1)) else (some (wrap64 (a1 - (l0.length : Int))))
def laws_szBig.f (a0_0 : Bool) (l0_1 : List Int) (a1 : Int) : Option (Int) := (laws_szIntS.f l0_1 a1).bind fun t0a => (if t0a < 0 then (some (-1)) else (some t0a))
def laws_toIntS.l0 : Nat → List Int → List Int → Int → Option (List Int)
  | 0, _, _, _ => none
  | k + 1, x0, x3, x4 => if x4 < (x0.length : Int) then (if 0 ≤ x4 then (if x4 < (x3.length : Int) then (laws_toIntS.l0 k x0 (x3.set (x4 : Int).toNat (rd x0 x4)) (wrap64 (x4 + 1))) else (none)) else (none)) else (some x3)
def laws_toIntS.f (k : Nat) (l0 : List Int) : Option (List Int) := if 0 ≤ (l0.length : Int) then (if ((l0.length : Int) : Int).toNat ≤ 35184372088832 then (laws_toIntS.l0 k l0 (List.replicate ((l0.length : Int) : Int).toNat 0) 0) else (none)) else (none)
def laws_toBig.f (k : Nat) (a0_0 : Bool) (l0_1 : List Int) : Option (Bool × List Int) := (laws_toIntS.f k l0_1).bind fun t0b => (some (a0_0, t0b))
def laws_eqIntS.l0 : Nat → List Int → List Int → Int → Option (Bool)
  | 0, _, _, _ => none
  | k + 1, x0, x1, x5 => if x5 < (x0.length : Int) then (if 0 ≤ x5 then (if x5 < (x1.length : Int) then (if (rd x0 x5) = (rd x1 x5) then (laws_eqIntS.l0 k x0 x1 (wrap64 (x5 + 1))) else (some false)) else (none)) else (none)) else (some true)
def laws_eqIntS.f (k : Nat) (l0 : List Int) (l1 : List Int) : Option (Bool) := if (l0.length : Int) = (l1.length : Int) then (laws_eqIntS.l0 k l0 l1 0) else (some false)
def laws_eqBig.f (k : Nat) (a0_0 : Bool) (l0_1 : List Int) (a1_0 : Bool) (l1_1 : List Int) : Option (Bool) := if (a0_0 != a1_0) = true then (some false) else ((laws_eqIntS.f k l0_1 l1_1).bind fun t0c => (if t0c = true then (some true) else (some false)))
def laws_jtInts.l0 : Nat → List Int → List Int → Int → Option (Bool)
  | 0, _, _, _ => none
  | k + 1, x0, x1, x5 => if x5 < (x0.length : Int) then (if 0 ≤ x5 then (if x5 < (x1.length : Int) then (if (rd x0 x5) = (rd x1 x5) then (laws_jtInts.l0 k x0 x1 (wrap64 (x5 + 1))) else (some false)) else (none)) else (none)) else (some true)
def laws_jtInts.f (k : Nat) (l0 : List Int) (l1 : List Int) : Option (Bool) := if (l0.length : Int) = (l1.length : Int) then (laws_jtInts.l0 k l0 l1 0) else (some false)
set_option maxHeartbeats 8000000 in
set_option maxRecDepth 100000 in
theorem laws_jtInts.calls (k : Nat) (A0 : Option Addr) (c0 : Nat) (l0 : List Int) (A1 : Option Addr) (c1 : Nat) (l1 : List Int) (r : Bool) (w : World) (hr0 : Kd.C (Kd.int .i64) w A0 l0.length l0) (hc0 : l0.length ≤ c0) (hr1 : Kd.C (Kd.int .i64) w A1 l1.length l1) (hc1 : l1.length ≤ c1) (h : laws_jtInts.f k l0 l1 = some r) :
    Calls Try.prog 66 #[.slice A0 l0.length c0, .slice A1 l1.length c1] w fun e w' => e = .returned (.bool r) ∧ Drawn0 w w' := by
  have HR0 := zm hr0; have HC0 := zm hc0; clear hr0 hc0; have HR1 := zm hr1; have HC1 := zm hc1; clear hr1 hc1; have H : (if (l0.length : Int) = (l1.length : Int) then (laws_jtInts.l0 k l0 l1 0) else (some false)) = some r := h; clear h
  by_cases c3 : (l0.length : Int) = (l1.length : Int)
  · rw [if_pos c3] at H
    have c3b0 : ((l0.length : Int) == (l1.length : Int)) = true := beq_iff_eq.mpr c3; have c3b1 : ((l0.length : Int) != (l1.length : Int)) = false := bne_eq_false_iff_eq.mpr c3; (have c3b2 : (l0.length == l1.length) = true := by first | simpa using c3 | (simp at c3 ⊢; omega)); clear c3; have H' := zm H; clear H; go_enter Try.func66, Try.ntmps66
    go_wp2
    repeat (go_quiet (fail); try go_wp2)
    go_loopg [5] k (fun kq v5 w' => ∃ (x5_1 : Int), v5 = .int .i64 x5_1 ∧ Aside0 (laws_jtInts.l0 kq l0 l1 x5_1 = some r) ∧ Aside0 (kq ≤ k) ∧ Drawn0 w w')
    case atStart => exact ⟨(0), (by first | rfl | (simp; done) | (simp [*]; done)), H', ⟨Nat.le_refl _⟩, by repeat (first | exact Drawn0.refl _ | apply Drawn0.step)⟩
    case round =>
      clear H'; (try clear c1); (try clear p2); (try clear c3); (try clear c3b0); (try clear c3b1); (try clear c3b2); obtain ⟨x5_1, rfl, HA, HK1, ⟨m1, rfl⟩⟩ := hrel
      cases gk with
      | zero => exact absurd HA.out (by simp [laws_jtInts.l0])
      | succ k1 =>
        have H := HA.out; clear HA; simp only [laws_jtInts.l0] at H
        by_cases c4 : x5_1 < (l0.length : Int)
        · rw [if_pos c4] at H
          have c4b0 : decide (x5_1 < (l0.length : Int)) = true := decide_eq_true c4; clear c4
          by_cases c5 : 0 ≤ x5_1
          · rw [if_pos c5] at H
            have c5b0 : decide (0 ≤ x5_1) = true := decide_eq_true c5; clear c5
            by_cases c6 : x5_1 < (l1.length : Int)
            · rw [if_pos c6] at H
              have c6b0 : decide (x5_1 < (l1.length : Int)) = true := decide_eq_true c6; clear c6
              by_cases c7 : (rd l0 x5_1) = (rd l1 x5_1)
              · rw [if_pos c7] at H
                have c7b0 : ((rd l0 x5_1) == (rd l1 x5_1)) = true := beq_iff_eq.mpr c7; have c7b1 : ((rd l0 x5_1) != (rd l1 x5_1)) = false := bne_eq_false_iff_eq.mpr c7; clear c7; have H' := zm H; clear H; have p324 : 0 ≤ (x5_1 : Int) := of_decide_eq_true (by first | (with_reducible assumption) | assumption); have q324 : x5_1 < (l0.length : Int) := of_decide_eq_true (by first | (with_reducible assumption) | assumption); obtain ⟨ad324, e324, hx324_0⟩ := Kd.at_int HR0.out x5_1 p324 q324; cases e324; replace p324 := eq_true p324; replace q324 := eq_true q324; have p325 : 0 ≤ (x5_1 : Int) := of_decide_eq_true (by first | (with_reducible assumption) | assumption); have q325 : x5_1 < (l1.length : Int) := of_decide_eq_true (by first | (with_reducible assumption) | assumption); obtain ⟨ad325, e325, hx325_0⟩ := Kd.at_int HR1.out x5_1 p325 q325; cases e325; replace p325 := eq_true p325; replace q325 := eq_true q325
                go_wp2
                repeat (go_quiet (fail); try go_wp2)
                go_roundg k1
                case measure => have := HK1.out; omega
                case rel => exact ⟨(wrap64 (x5_1 + 1)), (by first | rfl | (simp; done) | (simp [*]; done)), H', ⟨by have := HK1.out; omega⟩, by repeat (first | exact Drawn0.refl _ | apply Drawn0.step)⟩
              · rw [if_neg c7] at H
                have c7b0 : ((rd l0 x5_1) == (rd l1 x5_1)) = false := beq_eq_false_iff_ne.mpr c7; have c7b1 : ((rd l0 x5_1) != (rd l1 x5_1)) = true := bne_iff_ne.mpr c7; obtain rfl := Option.some.inj H; have p324 : 0 ≤ (x5_1 : Int) := of_decide_eq_true (by first | (with_reducible assumption) | assumption); have q324 : x5_1 < (l0.length : Int) := of_decide_eq_true (by first | (with_reducible assumption) | assumption); obtain ⟨ad324, e324, hx324_0⟩ := Kd.at_int HR0.out x5_1 p324 q324; cases e324; replace p324 := eq_true p324; replace q324 := eq_true q324; have p325 : 0 ≤ (x5_1 : Int) := of_decide_eq_true (by first | (with_reducible assumption) | assumption); have q325 : x5_1 < (l1.length : Int) := of_decide_eq_true (by first | (with_reducible assumption) | assumption); obtain ⟨ad325, e325, hx325_0⟩ := Kd.at_int HR1.out x5_1 p325 q325; cases e325; replace p325 := eq_true p325; replace q325 := eq_true q325
                go_wp2
                repeat (go_quiet (fail); try go_wp2)
                go_ret
                exact ⟨by first | rfl | (simp; done) | (simp [*]; done), by repeat (first | exact Drawn0.refl _ | apply Drawn0.step)⟩
            · rw [if_neg c6] at H
              exact absurd H (by simp)
          · rw [if_neg c5] at H
            exact absurd H (by simp)
        · rw [if_neg c4] at H
          have c4b0 : decide (x5_1 < (l0.length : Int)) = false := decide_eq_false c4; clear c4; obtain rfl := Option.some.inj H
          go_wp2
          repeat (go_quiet (fail); try go_wp2)
          go_ret
          exact ⟨by first | rfl | (simp; done) | (simp [*]; done), by repeat (first | exact Drawn0.refl _ | apply Drawn0.step)⟩
  · rw [if_neg c3] at H
    have c3b0 : ((l0.length : Int) == (l1.length : Int)) = false := beq_eq_false_iff_ne.mpr c3; have c3b1 : ((l0.length : Int) != (l1.length : Int)) = true := bne_iff_ne.mpr c3; (have c3b2 : (l0.length == l1.length) = false := by first | simpa using c3 | (simp at c3 ⊢; omega)); obtain rfl := Option.some.inj H; go_enter Try.func66, Try.ntmps66
    go_wp2
    repeat (go_quiet (fail); try go_wp2)
    go_ret
    exact ⟨by first | rfl | (simp; done) | (simp [*]; done), by repeat (first | exact Drawn0.refl _ | apply Drawn0.step)⟩
def laws_jtBig.f (k : Nat) (a0_0 : Bool) (l0_1 : List Int) (a1_0 : Bool) (l1_1 : List Int) : Option (Bool) := if (a0_0 == a1_0) = true then ((laws_jtInts.f k l0_1 l1_1).bind fun t0f => (some t0f)) else (some false)
set_option maxHeartbeats 8000000 in
set_option maxRecDepth 100000 in
theorem laws_jtBig.calls (k : Nat) (a0_0 : Bool) (A0_1 : Option Addr) (c0_1 : Nat) (l0_1 : List Int) (a1_0 : Bool) (A1_1 : Option Addr) (c1_1 : Nat) (l1_1 : List Int) (r : Bool) (w : World) (hr0_1 : Kd.C (Kd.int .i64) w A0_1 l0_1.length l0_1) (hc0_1 : l0_1.length ≤ c0_1) (hr1_1 : Kd.C (Kd.int .i64) w A1_1 l1_1.length l1_1) (hc1_1 : l1_1.length ≤ c1_1) (h : laws_jtBig.f k a0_0 l0_1 a1_0 l1_1 = some r) :
    Calls Try.prog 31 #[.agg #[.bool a0_0, .slice A0_1 l0_1.length c0_1], .agg #[.bool a1_0, .slice A1_1 l1_1.length c1_1]] w fun e w' => e = .returned (.bool r) ∧ Below w.heap.size w w' := by
  have hu27 := Try.underlying27; have HR0_1 := zm hr0_1; have HC0_1 := zm hc0_1; clear hr0_1 hc0_1; have HR1_1 := zm hr1_1; have HC1_1 := zm hc1_1; clear hr1_1 hc1_1; have HB := zm (Below.refl w.heap.size w); have H : (if (a0_0 == a1_0) = true then ((laws_jtInts.f k l0_1 l1_1).bind fun t0f => (some t0f)) else (some false)) = some r := h; clear h
  by_cases c3 : (a0_0 == a1_0) = true
  · rw [if_pos c3] at H
    have c3b0 : (a0_0 == a1_0) = true := c3; (try (have c3b1 : decide (a0_0 = a1_0) = true := by simpa using c3)); (try (have c3b2 : (a0_0 == a1_0) = true := by simpa using c3)); clear c3; replace H := Option.bind_eq_some_iff.mp H; obtain ⟨t0f, A40, H⟩ := H; replace H : (some t0f) = some r := H; have A4 := zm A40; clear A40; obtain rfl := Option.some.inj H; go_enter Try.func31, Try.ntmps31
    go_wp2_with (first | ((with_reducible refine gate_dst (N := 2) rfl ?_); refine box_event ?hg (N := 2) ?hd (cs := #[.bool a0_0, .slice A0_1 l0_1.length c0_1]) (t := 27) ?hr ?_; (case hd => rfl); (case hg => rfl); (case hr => first | (go_simp; done) | (go_simp; rfl)); intro gb0d hg w5 hbox hb; have n0_ := zm (below_step zb hb); have n1_ := zm (hbox); have n2_ := zm ((by rw [hg]; exact (below_size zb) : w.heap.size ≤ gb0d)); have n3_ := zm ((by rw [hg]; exact (below_size zb) : w.heap.size ≤ gb0d)); clear HB; have HB := n0_; have BK0d := n1_; have GW0d := n2_; have GE0d := n3_; clear n0_ n1_ n2_ n3_; clear hb hbox hg) | ((with_reducible refine gate_dst (N := 3) rfl ?_); refine box_event ?hg (N := 3) ?hd (cs := #[.bool a1_0, .slice A1_1 l1_1.length c1_1]) (t := 27) ?hr ?_; (case hd => rfl); (case hg => rfl); (case hr => first | (go_simp; done) | (go_simp; rfl)); intro gb0e hg w6 hbox hb; have n0_ := zm (blk_below (g := gb0d) (o := .cells #[.bool a0_0, .slice A0_1 l0_1.length c0_1] 27 (0, 0)) (zk BK0d.out) hb); have n1_ := zm (below_step zb hb); have n2_ := zm (hbox); have n3_ := zm ((by rw [hg]; exact (below_size zb) : w.heap.size ≤ gb0e)); have n4_ := zm ((by rw [hg]; exact (below_size zb) : w.heap.size ≤ gb0e)); have n5_ := zm ((by rw [hg]; exact Nat.ne_of_lt (blk_lt (g := gb0d) (o := .cells #[.bool a0_0, .slice A0_1 l0_1.length c0_1] 27 (0, 0)) (zk BK0d.out)) : gb0d ≠ gb0e)); have n6_ := zm ((by rw [hg]; exact Nat.ne_of_gt (blk_lt (g := gb0d) (o := .cells #[.bool a0_0, .slice A0_1 l0_1.length c0_1] 27 (0, 0)) (zk BK0d.out)) : gb0e ≠ gb0d)); clear BK0d; clear HB; have BK0d := n0_; have HB := n1_; have BK0e := n2_; have GW0e := n3_; have GE0e := n4_; have NB0d_0e := n5_; have NB0e_0d := n6_; clear n0_ n1_ n2_ n3_ n4_ n5_ n6_; clear hb hbox hg; have hnb7 := NB0d_0e.out; have hnc7 := NB0e_0d.out; have hcz8_0 : w6.cell? ⟨gb0d, 0, none⟩ = some (.bool a0_0) := (blk_cell BK0d.out 0).trans rfl; have hcz8_1 : w6.cell? ⟨gb0d, 1, none⟩ = some (.slice A0_1 l0_1.length c0_1) := (blk_cell BK0d.out 1).trans rfl; have hfz8_0 := blk_frozen BK0d.out 0; have hfz8_1 := blk_frozen BK0d.out 1; have hcz9_0 : w6.cell? ⟨gb0e, 0, none⟩ = some (.bool a1_0) := (blk_cell BK0e.out 0).trans rfl; have hcz9_1 : w6.cell? ⟨gb0e, 1, none⟩ = some (.slice A1_1 l1_1.length c1_1) := (blk_cell BK0e.out 1).trans rfl; have hfz9_0 := blk_frozen BK0e.out 0; have hfz9_1 := blk_frozen BK0e.out 1) | (go_at_call 66; (with_reducible refine (laws_jtInts.calls k _ _ l0_1 _ _ l1_1 t0f _ ?side1 ?side2 ?side3 ?side4 A4.out).mono ?_); (case side1 => exact zc (Kd.C_below HR0_1.out HB.out)); (case side2 => exact HC0_1.out); (case side3 => exact zc (Kd.C_below HR1_1.out HB.out)); (case side4 => exact HC1_1.out); rintro e w' ⟨rfl, ⟨nd, rfl⟩⟩))
    go_ret
    exact ⟨by first | rfl | (simp [errW_none, errW_some] <;> rfl) | (simp [*, errW_none, errW_some] <;> rfl), zb⟩
  · rw [if_neg c3] at H
    (have c3b0 : (a0_0 == a1_0) = false := by simpa using c3); (try (have c3b1 : decide (a0_0 = a1_0) = false := by simpa using c3)); (try (have c3b2 : (a0_0 == a1_0) = false := by simpa using c3)); (try (have c3b3 : ¬ (a0_0 = a1_0) := by simpa using c3)); clear c3; obtain rfl := Option.some.inj H; go_enter Try.func31, Try.ntmps31
    go_wp2_with (first | ((with_reducible refine gate_dst (N := 2) rfl ?_); refine box_event ?hg (N := 2) ?hd (cs := #[.bool a0_0, .slice A0_1 l0_1.length c0_1]) (t := 27) ?hr ?_; (case hd => rfl); (case hg => rfl); (case hr => first | (go_simp; done) | (go_simp; rfl)); intro gb0d hg w10 hbox hb; have n0_ := zm (below_step zb hb); have n1_ := zm (hbox); have n2_ := zm ((by rw [hg]; exact (below_size zb) : w.heap.size ≤ gb0d)); have n3_ := zm ((by rw [hg]; exact (below_size zb) : w.heap.size ≤ gb0d)); clear HB; have HB := n0_; have BK0d := n1_; have GW0d := n2_; have GE0d := n3_; clear n0_ n1_ n2_ n3_; clear hb hbox hg) | ((with_reducible refine gate_dst (N := 3) rfl ?_); refine box_event ?hg (N := 3) ?hd (cs := #[.bool a1_0, .slice A1_1 l1_1.length c1_1]) (t := 27) ?hr ?_; (case hd => rfl); (case hg => rfl); (case hr => first | (go_simp; done) | (go_simp; rfl)); intro gb0e hg w11 hbox hb; have n0_ := zm (blk_below (g := gb0d) (o := .cells #[.bool a0_0, .slice A0_1 l0_1.length c0_1] 27 (0, 0)) (zk BK0d.out) hb); have n1_ := zm (below_step zb hb); have n2_ := zm (hbox); have n3_ := zm ((by rw [hg]; exact (below_size zb) : w.heap.size ≤ gb0e)); have n4_ := zm ((by rw [hg]; exact (below_size zb) : w.heap.size ≤ gb0e)); have n5_ := zm ((by rw [hg]; exact Nat.ne_of_lt (blk_lt (g := gb0d) (o := .cells #[.bool a0_0, .slice A0_1 l0_1.length c0_1] 27 (0, 0)) (zk BK0d.out)) : gb0d ≠ gb0e)); have n6_ := zm ((by rw [hg]; exact Nat.ne_of_gt (blk_lt (g := gb0d) (o := .cells #[.bool a0_0, .slice A0_1 l0_1.length c0_1] 27 (0, 0)) (zk BK0d.out)) : gb0e ≠ gb0d)); clear BK0d; clear HB; have BK0d := n0_; have HB := n1_; have BK0e := n2_; have GW0e := n3_; have GE0e := n4_; have NB0d_0e := n5_; have NB0e_0d := n6_; clear n0_ n1_ n2_ n3_ n4_ n5_ n6_; clear hb hbox hg; have hnb12 := NB0d_0e.out; have hnc12 := NB0e_0d.out; have hcz13_0 : w11.cell? ⟨gb0d, 0, none⟩ = some (.bool a0_0) := (blk_cell BK0d.out 0).trans rfl; have hcz13_1 : w11.cell? ⟨gb0d, 1, none⟩ = some (.slice A0_1 l0_1.length c0_1) := (blk_cell BK0d.out 1).trans rfl; have hfz13_0 := blk_frozen BK0d.out 0; have hfz13_1 := blk_frozen BK0d.out 1; have hcz14_0 : w11.cell? ⟨gb0e, 0, none⟩ = some (.bool a1_0) := (blk_cell BK0e.out 0).trans rfl; have hcz14_1 : w11.cell? ⟨gb0e, 1, none⟩ = some (.slice A1_1 l1_1.length c1_1) := (blk_cell BK0e.out 1).trans rfl; have hfz14_0 := blk_frozen BK0e.out 0; have hfz14_1 := blk_frozen BK0e.out 1))
    go_ret
    exact ⟨by first | rfl | (simp [errW_none, errW_some] <;> rfl) | (simp [*, errW_none, errW_some] <;> rfl), zb⟩
def laws_jtZero.f (a0_0 : Bool) (l0_1 : List Int) : Option (Bool) := if a0_0 = true then (some false) else (some ((l0_1.length : Int) == 0))
set_option maxHeartbeats 8000000 in
set_option maxRecDepth 100000 in
theorem laws_jtZero.calls (a0_0 : Bool) (A0_1 : Option Addr) (c0_1 : Nat) (l0_1 : List Int) (r : Bool) (w : World) (hr0_1 : Kd.C (Kd.int .i64) w A0_1 l0_1.length l0_1) (hc0_1 : l0_1.length ≤ c0_1) (h : laws_jtZero.f a0_0 l0_1 = some r) :
    Calls Try.prog 42 #[.agg #[.bool a0_0, .slice A0_1 l0_1.length c0_1]] w fun e w' => e = .returned (.bool r) ∧ Below w.heap.size w w' := by
  have hu27 := Try.underlying27; have HR0_1 := zm hr0_1; have HC0_1 := zm hc0_1; clear hr0_1 hc0_1; have HB := zm (Below.refl w.heap.size w); have H : (if a0_0 = true then (some false) else (some ((l0_1.length : Int) == 0))) = some r := h; clear h
  by_cases c2 : a0_0 = true
  · subst c2
    (have H1 : (some false) = some r := by rw [if_pos rfl] at H; exact H); clear H; have H := H1; clear H1; obtain rfl := Option.some.inj H; go_enter Try.func42, Try.ntmps42
    go_wp2_with (first | ((with_reducible refine gate_dst (N := 1) rfl ?_); (try (refine gate_guard (by rfl) ?_; dsimp only)); refine box_event ?hg (N := 1) ?hd (cs := #[.bool true, .slice A0_1 l0_1.length c0_1]) (t := 27) ?hr ?_; (case hd => rfl); (case hg => rfl); (case hr => first | (go_simp; done) | (go_simp; rfl)); intro gb0g hg w3 hbox hb; have n0_ := zm (below_step zb hb); have n1_ := zm (hbox); have n2_ := zm ((by rw [hg]; exact (below_size zb) : w.heap.size ≤ gb0g)); have n3_ := zm ((by rw [hg]; exact (below_size zb) : w.heap.size ≤ gb0g)); clear HB; have HB := n0_; have BK0g := n1_; have GW0g := n2_; have GE0g := n3_; clear n0_ n1_ n2_ n3_; clear hb hbox hg; have hcz4_0 : w3.cell? ⟨gb0g, 0, none⟩ = some (.bool true) := (blk_cell BK0g.out 0).trans rfl; have hcz4_1 : w3.cell? ⟨gb0g, 1, none⟩ = some (.slice A0_1 l0_1.length c0_1) := (blk_cell BK0g.out 1).trans rfl; have hfz4_0 := blk_frozen BK0g.out 0; have hfz4_1 := blk_frozen BK0g.out 1))
    go_ret
    exact ⟨by first | rfl | (simp [errW_none, errW_some] <;> rfl) | (simp [*, errW_none, errW_some] <;> rfl), zb⟩
  · replace c2 := Bool.eq_false_iff.mpr c2
    subst c2; (have H1 : (some ((l0_1.length : Int) == 0)) = some r := by rw [if_neg (show ¬ (false = true) by decide)] at H; exact H); clear H; have H := H1; clear H1; obtain rfl := Option.some.inj H; go_enter Try.func42, Try.ntmps42
    go_wp2_with (first | ((with_reducible refine gate_dst (N := 1) rfl ?_); (try (refine gate_guard (by rfl) ?_; dsimp only)); refine box_event ?hg (N := 1) ?hd (cs := #[.bool false, .slice A0_1 l0_1.length c0_1]) (t := 27) ?hr ?_; (case hd => rfl); (case hg => rfl); (case hr => first | (go_simp; done) | (go_simp; rfl)); intro gb0g hg w5 hbox hb; have n0_ := zm (below_step zb hb); have n1_ := zm (hbox); have n2_ := zm ((by rw [hg]; exact (below_size zb) : w.heap.size ≤ gb0g)); have n3_ := zm ((by rw [hg]; exact (below_size zb) : w.heap.size ≤ gb0g)); clear HB; have HB := n0_; have BK0g := n1_; have GW0g := n2_; have GE0g := n3_; clear n0_ n1_ n2_ n3_; clear hb hbox hg; have hcz6_0 : w5.cell? ⟨gb0g, 0, none⟩ = some (.bool false) := (blk_cell BK0g.out 0).trans rfl; have hcz6_1 : w5.cell? ⟨gb0g, 1, none⟩ = some (.slice A0_1 l0_1.length c0_1) := (blk_cell BK0g.out 1).trans rfl; have hfz6_0 := blk_frozen BK0g.out 0; have hfz6_1 := blk_frozen BK0g.out 1))
    go_ret
    exact ⟨by first | rfl | (simp [errW_none, errW_some] <;> rfl) | (simp [*, errW_none, errW_some] <;> rfl), zb⟩
end Go.Proofs.Ytdemeoncjcbojaa.Pr
end
section
namespace Go.Proofs.Ytdemeoncjcbojaa.Pr
open Go.RowKit Go.Proofs.YtdemeoncjcbojaaW.PrintWords Go.Proofs.YtdemeoncjcbojaaW.PrintLast Go.Proofs.Ytdemeoncjcbojaa.Ext Go.Proofs.YtdemeoncjcbojaaW.PrintMore
attribute [local go_sem] max2_int min2_int max_two min_two max_three min_three max_four min_four
set_option linter.unusedVariables false
set_option linter.unusedSimpArgs false
def spec_l1In.f (a0 : Int) (a1 : Int) (a2 : Int) : Option (Bool) := if a0 ≥ a1 then (some (decide (a0 ≤ a2))) else (some false)
set_option maxHeartbeats 8000000 in
set_option maxRecDepth 100000 in
theorem spec_l1In.calls (a0 : Int) (a1 : Int) (a2 : Int) (r : Bool) (w : World) (h : spec_l1In.f a0 a1 a2 = some r) :
    Calls Try.prog 59 #[.int .i64 a0, .int .i64 a1, .int .i64 a2] w fun e w' => e = .returned (.bool r) ∧ Drawn0 w w' := by
  have H : (if a0 ≥ a1 then (some (decide (a0 ≤ a2))) else (some false)) = some r := h; clear h
  by_cases c4 : a0 ≥ a1
  · rw [if_pos c4] at H
    have c4b0 : decide (a1 ≤ a0) = true := decide_eq_true c4; clear c4; obtain rfl := Option.some.inj H; go_enter Try.func59, Try.ntmps59
    go_wp2
    go_ret
    exact ⟨by first | rfl | (simp; done) | (simp [*]; done), by repeat (first | exact Drawn0.refl _ | apply Drawn0.step)⟩
  · rw [if_neg c4] at H
    have c4b0 : decide (a1 ≤ a0) = false := decide_eq_false c4; clear c4; obtain rfl := Option.some.inj H; go_enter Try.func59, Try.ntmps59
    go_wp2
    go_ret
    exact ⟨by first | rfl | (simp; done) | (simp [*]; done), by repeat (first | exact Drawn0.refl _ | apply Drawn0.step)⟩
mutual
def spec_l1Ok.j0 : Nat → Bool → Bool → List Int → Option (Bool)
  | 0, _, _, _ => none
  | k + 1, x17, x104000, x104001 => if x17 = true then (some false) else (spec_l1Ok.l0 k 0 x104000 x104001)
def spec_l1Ok.l0 : Nat → Int → Bool → List Int → Option (Bool)
  | 0, _, _, _ => none
  | k + 1, x3, x104000, x104001 => if x3 < (x104001.length : Int) then (if 0 ≤ x3 then ((spec_l1In.f (rd x104001 x3) 0 9999).bind fun t0b => (if t0b = true then (spec_l1Ok.l0 k (wrap64 (x3 + 1)) x104000 x104001) else (some false))) else (none)) else (if (x104001.length : Int) = 0 then (some true) else (if 0 ≤ (wrap64 ((x104001.length : Int) - 1)) then (if (wrap64 ((x104001.length : Int) - 1)) < (x104001.length : Int) then (some ((rd x104001 (wrap64 ((x104001.length : Int) - 1))) != 0)) else (none)) else (none)))
end
def spec_l1Ok.f (k : Nat) (a0_0 : Bool) (l0_1 : List Int) : Option (Bool) := if (l0_1.length : Int) > 16 then (spec_l1Ok.j0 k true a0_0 l0_1) else (if a0_0 = true then (spec_l1Ok.j0 k ((l0_1.length : Int) == 0) a0_0 l0_1) else (spec_l1Ok.j0 k false a0_0 l0_1))
set_option maxHeartbeats 8000000 in
set_option maxRecDepth 100000 in
theorem spec_l1Ok.calls (k : Nat) (a0_0 : Bool) (A0_1 : Option Addr) (c0_1 : Nat) (l0_1 : List Int) (r : Bool) (w : World) (hr0_1 : Kd.C (Kd.int .i64) w A0_1 l0_1.length l0_1) (hc0_1 : l0_1.length ≤ c0_1) (h : spec_l1Ok.f k a0_0 l0_1 = some r) :
    Calls Try.prog 49 #[.agg #[.bool a0_0, .slice A0_1 l0_1.length c0_1]] w fun e w' => e = .returned (.bool r) ∧ Below w.heap.size w w' := by
  have hu27 := Try.underlying27; have HR0_1 := zm hr0_1; have HC0_1 := zm hc0_1; clear hr0_1 hc0_1; have HB := zm (Below.refl w.heap.size w); have H : (if (l0_1.length : Int) > 16 then (spec_l1Ok.j0 k true a0_0 l0_1) else (if a0_0 = true then (spec_l1Ok.j0 k ((l0_1.length : Int) == 0) a0_0 l0_1) else (spec_l1Ok.j0 k false a0_0 l0_1))) = some r := h; clear h; have HC2 := zm H; clear H; go_enter Try.func49, Try.ntmps49
  go_upto_region 1 with (first | ((with_reducible refine gate_dst (N := 1) rfl ?_); (try (refine gate_guard (by rfl) ?_; dsimp only)); refine box_event ?hg (N := 1) ?hd (cs := #[.bool a0_0, .slice A0_1 l0_1.length c0_1]) (t := 27) ?hr ?_; (case hd => rfl); (case hg => rfl); (case hr => first | (go_simp; done) | (go_simp; rfl)); intro gb0a hg w3 hbox hb; have n0_ := zm (below_step zb hb); have n1_ := zm (hbox); have n2_ := zm ((by rw [hg]; exact (below_size zb) : w.heap.size ≤ gb0a)); have n3_ := zm ((by rw [hg]; exact (below_size zb) : w.heap.size ≤ gb0a)); clear HB; have HB := n0_; have BK0a := n1_; have GW0a := n2_; have GE0a := n3_; clear n0_ n1_ n2_ n3_; clear hb hbox hg))
  (try simp only [Act.put, zs, zs0, zs1])
  go_cut [17] (fun v17 wc => ∃ (kq : Nat) (x17_1 : Bool), v17 = .bool x17_1 ∧ Aside0 (spec_l1Ok.j0 kq x17_1 a0_0 l0_1 = some r) ∧ Aside0 (kq ≤ k) ∧ Aside0 (wc.heap[gb0a]? = some (.cells #[.bool a0_0, (.slice A0_1 l0_1.length c0_1)] 27 (0, 0))) ∧ Aside0 (Below w.heap.size w wc))
  case first =>
    have H := HC2.out; clear HC2
    by_cases c4 : (l0_1.length : Int) > 16
    · rw [if_pos c4] at H
      have c4b0 : decide (16 < (l0_1.length : Int)) = true := decide_eq_true c4; have c4b1 : decide (16 < l0_1.length) = true := decide_eq_true (by omega); clear c4; (first | rw [c4b0] | (simp only [i64_w, i32_w]; rw [c4b0]) | skip); have H' := zm H; clear H; have hcz5_0 : w3.cell? ⟨gb0a, 0, none⟩ = some (.bool a0_0) := (blk_cell BK0a.out 0).trans rfl; have hcz5_1 : w3.cell? ⟨gb0a, 1, none⟩ = some (.slice A0_1 l0_1.length c0_1) := (blk_cell BK0a.out 1).trans rfl; have hfz5_0 := blk_frozen BK0a.out 0; have hfz5_1 := blk_frozen BK0a.out 1
      go_wp2
      go_meet
      case rel => exact ⟨_, (true), (by first | rfl | (simp; done) | (simp [*]; done)), H', ⟨by first | omega | exact Nat.le_refl _⟩, ⟨by (with_reducible repeat (first | refine blk_drewN ?_ _ | refine blk_drew ?_ | refine blk_alloc ?_ _)); exact BK0a.out⟩, ⟨zb⟩⟩
    · rw [if_neg c4] at H
      have c4b0 : decide (16 < (l0_1.length : Int)) = false := decide_eq_false c4; have c4b1 : decide (16 < l0_1.length) = false := decide_eq_false (by omega); clear c4; (first | rw [c4b0] | (simp only [i64_w, i32_w]; rw [c4b0]) | skip)
      by_cases c6 : a0_0 = true
      · subst c6
        (have H1 : (spec_l1Ok.j0 k ((l0_1.length : Int) == 0) true l0_1) = some r := by rw [if_pos rfl] at H; exact H); clear H; have H := H1; clear H1; have H' := zm H; clear H; have hcz7_0 : w3.cell? ⟨gb0a, 0, none⟩ = some (.bool true) := (blk_cell BK0a.out 0).trans rfl; have hcz7_1 : w3.cell? ⟨gb0a, 1, none⟩ = some (.slice A0_1 l0_1.length c0_1) := (blk_cell BK0a.out 1).trans rfl; have hfz7_0 := blk_frozen BK0a.out 0; have hfz7_1 := blk_frozen BK0a.out 1
        go_wp2
        go_meet
        case rel => exact ⟨_, (((l0_1.length : Int) == 0)), (by first | rfl | (simp; done) | (simp [*]; done)), H', ⟨by first | omega | exact Nat.le_refl _⟩, ⟨by (with_reducible repeat (first | refine blk_drewN ?_ _ | refine blk_drew ?_ | refine blk_alloc ?_ _)); exact BK0a.out⟩, ⟨zb⟩⟩
      · replace c6 := Bool.eq_false_iff.mpr c6
        subst c6; (have H1 : (spec_l1Ok.j0 k false false l0_1) = some r := by rw [if_neg (show ¬ (false = true) by decide)] at H; exact H); clear H; have H := H1; clear H1; have H' := zm H; clear H; have hcz8_0 : w3.cell? ⟨gb0a, 0, none⟩ = some (.bool false) := (blk_cell BK0a.out 0).trans rfl; have hcz8_1 : w3.cell? ⟨gb0a, 1, none⟩ = some (.slice A0_1 l0_1.length c0_1) := (blk_cell BK0a.out 1).trans rfl; have hfz8_0 := blk_frozen BK0a.out 0; have hfz8_1 := blk_frozen BK0a.out 1
        go_wp2
        go_meet
        case rel => exact ⟨_, (false), (by first | rfl | (simp; done) | (simp [*]; done)), H', ⟨by first | omega | exact Nat.le_refl _⟩, ⟨by (with_reducible repeat (first | refine blk_drewN ?_ _ | refine blk_drew ?_ | refine blk_alloc ?_ _)); exact BK0a.out⟩, ⟨zb⟩⟩
  case rest =>
    clear HC2; (try clear p2); (try clear c4); (try clear c4b0); (try clear c4b1); (try clear c6); (try clear hcz5_0); (try clear hcz5_1); (try clear hcz7_0); (try clear hcz7_1); (try clear hcz8_0); (try clear hcz8_1); (try clear hfz5_0); (try clear hfz5_1); (try clear hfz7_0); (try clear hfz7_1); (try clear hfz8_0); (try clear hfz8_1); obtain ⟨kq, x17_1, rfl, HA, HJ1, BK0a, HB⟩ := hcut
    cases kq with
    | zero => exact absurd HA.out (by simp [spec_l1Ok.j0])
    | succ kj1 =>
      have H := HA.out; clear HA; simp only [spec_l1Ok.j0] at H
      by_cases c9 : x17_1 = true
      · subst c9
        (have H1 : (some false) = some r := by rw [if_pos rfl] at H; exact H); clear H; have H := H1; clear H1; obtain rfl := Option.some.inj H
        go_wp2
        go_ret
        exact ⟨by first | rfl | (simp [errW_none, errW_some] <;> rfl) | (simp [*, errW_none, errW_some] <;> rfl), zb⟩
      · replace c9 := Bool.eq_false_iff.mpr c9
        subst c9; (have H1 : (spec_l1Ok.l0 kj1 0 a0_0 l0_1) = some r := by rw [if_neg (show ¬ (false = true) by decide)] at H; exact H); clear H; have H := H1; clear H1; have H' := zm H; clear H
        go_wp2
        go_loopg [3] kj1 (fun kq v3 w' => ∃ (x3_2 : Int), v3 = .int .i64 x3_2 ∧ Aside0 (spec_l1Ok.l0 kq x3_2 a0_0 l0_1 = some r) ∧ Aside0 (kq ≤ kj1) ∧ Aside0 (w'.heap[gb0a]? = some (.cells #[.bool a0_0, (.slice A0_1 l0_1.length c0_1)] 27 (0, 0))) ∧ Aside0 (Below w.heap.size w w'))
        case atStart => exact ⟨(0), (by first | rfl | (simp; done) | (simp [*]; done)), H', ⟨Nat.le_refl _⟩, ⟨by (with_reducible repeat (first | refine blk_drewN ?_ _ | refine blk_drew ?_ | refine blk_alloc ?_ _)); exact BK0a.out⟩, ⟨zb⟩⟩
        case round =>
          clear H'; (try clear p2); (try clear c4); (try clear c4b0); (try clear c4b1); (try clear c6); (try clear c9); (try clear hcz5_0); (try clear hcz5_1); (try clear hcz7_0); (try clear hcz7_1); (try clear hcz8_0); (try clear hcz8_1); (try clear hfz5_0); (try clear hfz5_1); (try clear hfz7_0); (try clear hfz7_1); (try clear hfz8_0); (try clear hfz8_1); (try clear p2); obtain ⟨x3_2, rfl, HA, HK2, BK0a, HB⟩ := hrel
          cases gk with
          | zero => exact absurd HA.out (by simp [spec_l1Ok.l0])
          | succ k2 =>
            have H := HA.out; clear HA; simp only [spec_l1Ok.l0] at H
            by_cases c10 : x3_2 < (l0_1.length : Int)
            · rw [if_pos c10] at H
              have c10b0 : decide (x3_2 < (l0_1.length : Int)) = true := decide_eq_true c10; clear c10
              by_cases c11 : 0 ≤ x3_2
              · rw [if_pos c11] at H
                have c11b0 : decide (0 ≤ x3_2) = true := decide_eq_true c11; clear c11; replace H := Option.bind_eq_some_iff.mp H; obtain ⟨t0b, A0d, H⟩ := H; replace H : (if t0b = true then (spec_l1Ok.l0 k2 (wrap64 (x3_2 + 1)) a0_0 l0_1) else (some false)) = some r := H; have A12 := zm A0d; clear A0d
                by_cases c13 : t0b = true
                · subst c13
                  (have H1 : (spec_l1Ok.l0 k2 (wrap64 (x3_2 + 1)) a0_0 l0_1) = some r := by rw [if_pos rfl] at H; exact H); clear H; have H := H1; clear H1; have H' := zm H; clear H; have hcz14_0 : wr.cell? ⟨gb0a, 0, none⟩ = some (.bool a0_0) := (blk_cell BK0a.out 0).trans rfl; have hcz14_1 : wr.cell? ⟨gb0a, 1, none⟩ = some (.slice A0_1 l0_1.length c0_1) := (blk_cell BK0a.out 1).trans rfl; have hfz14_0 := blk_frozen BK0a.out 0; have hfz14_1 := blk_frozen BK0a.out 1; have p104 : 0 ≤ (x3_2 : Int) := of_decide_eq_true (by first | (with_reducible assumption) | assumption); have q104 : x3_2 < (l0_1.length : Int) := of_decide_eq_true (by first | (with_reducible assumption) | assumption); obtain ⟨ad104, e104, hx104_0⟩ := Kd.at_int HR0_1.out x3_2 p104 q104; cases e104; replace hx104_0 := (HB.out.cell (World.block_lt_of_cell? w _ hx104_0)).trans hx104_0; replace p104 := eq_true p104; replace q104 := eq_true q104
                  go_wp2_with (first | ((with_reducible refine gate_callee (f := 59) rfl ?_); refine goesL_ (some 30) rfl rfl Try.func59 (by kernel_rfl) rfl #[.int .i64 (rd l0_1 x3_2), .int .i64 0, .int .i64 9999] rfl za ?_; (with_reducible refine (spec_l1In.calls (rd l0_1 x3_2) 0 9999 true _ A12.out).mono ?_); rintro e w' ⟨rfl, ⟨nd, rfl⟩⟩; refine ⟨_, rfl, ?_⟩))
                  go_roundg k2
                  case measure => have := HJ1.out; have := HK2.out; omega
                  case rel => exact ⟨(wrap64 (x3_2 + 1)), (by first | rfl | (simp; done) | (simp [*]; done)), H', ⟨by have := HJ1.out; have := HK2.out; omega⟩, ⟨by (with_reducible repeat (first | refine blk_drewN ?_ _ | refine blk_drew ?_ | refine blk_alloc ?_ _)); exact BK0a.out⟩, ⟨zb⟩⟩
                · replace c13 := Bool.eq_false_iff.mpr c13
                  subst c13; (have H1 : (some false) = some r := by rw [if_neg (show ¬ (false = true) by decide)] at H; exact H); clear H; have H := H1; clear H1; obtain rfl := Option.some.inj H; have hcz15_0 : wr.cell? ⟨gb0a, 0, none⟩ = some (.bool a0_0) := (blk_cell BK0a.out 0).trans rfl; have hcz15_1 : wr.cell? ⟨gb0a, 1, none⟩ = some (.slice A0_1 l0_1.length c0_1) := (blk_cell BK0a.out 1).trans rfl; have hfz15_0 := blk_frozen BK0a.out 0; have hfz15_1 := blk_frozen BK0a.out 1; have p104 : 0 ≤ (x3_2 : Int) := of_decide_eq_true (by first | (with_reducible assumption) | assumption); have q104 : x3_2 < (l0_1.length : Int) := of_decide_eq_true (by first | (with_reducible assumption) | assumption); obtain ⟨ad104, e104, hx104_0⟩ := Kd.at_int HR0_1.out x3_2 p104 q104; cases e104; replace hx104_0 := (HB.out.cell (World.block_lt_of_cell? w _ hx104_0)).trans hx104_0; replace p104 := eq_true p104; replace q104 := eq_true q104
                  go_wp2_with (first | ((with_reducible refine gate_callee (f := 59) rfl ?_); refine goesL_ (some 30) rfl rfl Try.func59 (by kernel_rfl) rfl #[.int .i64 (rd l0_1 x3_2), .int .i64 0, .int .i64 9999] rfl za ?_; (with_reducible refine (spec_l1In.calls (rd l0_1 x3_2) 0 9999 false _ A12.out).mono ?_); rintro e w' ⟨rfl, ⟨nd, rfl⟩⟩; refine ⟨_, rfl, ?_⟩))
                  go_ret
                  exact ⟨by first | rfl | (simp [errW_none, errW_some] <;> rfl) | (simp [*, errW_none, errW_some] <;> rfl), zb⟩
              · rw [if_neg c11] at H
                exact absurd H (by simp)
            · rw [if_neg c10] at H
              have c10b0 : decide (x3_2 < (l0_1.length : Int)) = false := decide_eq_false c10; clear c10
              by_cases c16 : (l0_1.length : Int) = 0
              · rw [if_pos c16] at H
                have c16b0 : ((l0_1.length : Int) == 0) = true := beq_iff_eq.mpr c16; have c16b1 : ((l0_1.length : Int) != 0) = false := bne_eq_false_iff_eq.mpr c16; clear c16; obtain rfl := Option.some.inj H; have hcz17_0 : wr.cell? ⟨gb0a, 0, none⟩ = some (.bool a0_0) := (blk_cell BK0a.out 0).trans rfl; have hcz17_1 : wr.cell? ⟨gb0a, 1, none⟩ = some (.slice A0_1 l0_1.length c0_1) := (blk_cell BK0a.out 1).trans rfl; have hfz17_0 := blk_frozen BK0a.out 0; have hfz17_1 := blk_frozen BK0a.out 1
                go_wp2
                go_ret
                exact ⟨by first | rfl | (simp [errW_none, errW_some] <;> rfl) | (simp [*, errW_none, errW_some] <;> rfl), zb⟩
              · rw [if_neg c16] at H
                have c16b0 : ((l0_1.length : Int) == 0) = false := beq_eq_false_iff_ne.mpr c16; have c16b1 : ((l0_1.length : Int) != 0) = true := bne_iff_ne.mpr c16; (have c16b2 : ¬ (l0_1 = []) := fun h_ => c16 (by rw [h_]; rfl))
                obtain ⟨ji18, hji18⟩ : ∃ j_ : Int, (wrap64 ((l0_1.length : Int) - 1)) = j_ := ⟨_, rfl⟩
                (replace H : (if 0 ≤ (ji18) then (if (ji18) < (l0_1.length : Int) then (some ((rd l0_1 (ji18)) != 0)) else (none)) else (none)) = some r := by first | (rw [hji18] at H; exact H) | (simp only [hji18] at H ⊢; exact H)); have hji18w : (IntKind.i64.wrap ((l0_1.length : Int) - 1)) = ji18 := (i64_w _).trans hji18
                by_cases c19 : 0 ≤ (ji18)
                · rw [if_pos c19] at H
                  have c19b0 : decide (0 ≤ (ji18)) = true := decide_eq_true c19; clear c19
                  by_cases c20 : (ji18) < (l0_1.length : Int)
                  · rw [if_pos c20] at H
                    have c20b0 : decide ((ji18) < (l0_1.length : Int)) = true := decide_eq_true c20; clear c20; obtain rfl := Option.some.inj H; have hcz21_0 : wr.cell? ⟨gb0a, 0, none⟩ = some (.bool a0_0) := (blk_cell BK0a.out 0).trans rfl; have hcz21_1 : wr.cell? ⟨gb0a, 1, none⟩ = some (.slice A0_1 l0_1.length c0_1) := (blk_cell BK0a.out 1).trans rfl; have hfz21_0 := blk_frozen BK0a.out 0; have hfz21_1 := blk_frozen BK0a.out 1; have p106 : 0 ≤ ((ji18) : Int) := of_decide_eq_true (by first | (with_reducible assumption) | assumption); have q106 : (ji18) < (l0_1.length : Int) := of_decide_eq_true (by first | (with_reducible assumption) | assumption); obtain ⟨ad106, e106, hx106_0⟩ := Kd.at_int HR0_1.out (ji18) p106 q106; cases e106; replace hx106_0 := (HB.out.cell (World.block_lt_of_cell? w _ hx106_0)).trans hx106_0; replace p106 := eq_true p106; replace q106 := eq_true q106
                    go_wp2
                    go_ret
                    exact ⟨by first | rfl | (simp [errW_none, errW_some] <;> rfl) | (simp only [← hji18]; first | rfl | (simp [errW_none, errW_some] <;> rfl)) | (simp [*, errW_none, errW_some] <;> rfl), zb⟩
                  · rw [if_neg c20] at H
                    exact absurd H (by simp)
                · rw [if_neg c19] at H
                  exact absurd H (by simp)
def spec_BigOk.f (k : Nat) (a0_0 : Bool) (l0_1 : List Int) : Option (Bool) := (spec_l1Ok.f k a0_0 l0_1).bind fun t0c => (some t0c)
def spec_l1Trim.l0 : Nat → List Int → Int → Option (List Int)
  | 0, _, _ => none
  | k + 1, x0, x3 => if x3 > 0 then (if 0 ≤ (wrap64 (x3 - 1)) then (if (wrap64 (x3 - 1)) < (x0.length : Int) then (if (rd x0 (wrap64 (x3 - 1))) = 0 then (spec_l1Trim.l0 k x0 (wrap64 (x3 - 1))) else ((some (([] : List Int) : List Int)).bind fun y0e => (if 0 ≤ x3 then (if x3 ≤ (x0.length : Int) then (if y0e.length + (x0.take (x3 : Int).toNat).length < 17592186044416 then (some (y0e ++ (x0.take (x3 : Int).toNat))) else (none)) else (none)) else (none)))) else (none)) else (none)) else ((some (([] : List Int) : List Int)).bind fun y0k => (if 0 ≤ x3 then (if x3 ≤ (x0.length : Int) then (if y0k.length + (x0.take (x3 : Int).toNat).length < 17592186044416 then (some (y0k ++ (x0.take (x3 : Int).toNat))) else (none)) else (none)) else (none)))
def spec_l1Trim.f (k : Nat) (l0 : List Int) : Option (List Int) := spec_l1Trim.l0 k l0 (l0.length : Int)
set_option maxHeartbeats 8000000 in
set_option maxRecDepth 100000 in
theorem spec_l1Trim.calls (k : Nat) (A0 : Option Addr) (c0 : Nat) (l0 : List Int) (r : List Int) (w : World) (hr0 : Kd.C (Kd.int .i64) w A0 l0.length l0) (hc0 : l0.length ≤ c0) (h : spec_l1Trim.f k l0 = some r) :
    Calls Try.prog 84 #[.slice A0 l0.length c0] w fun e w' => ∃ v0_ : Value, e = .returned (v0_) ∧ Kd.R (Kd.int .i64) 3 w' w.heap.size (fun _ => True) v0_ r ∧ Below w.heap.size w w' := by
  have HR0 := zm hr0; have HC0 := zm hc0; clear hr0 hc0; have HB := zm (Below.refl w.heap.size w); have H : (spec_l1Trim.l0 k l0 (l0.length : Int)) = some r := h; clear h; have H' := zm H; clear H; go_enter Try.func84, Try.ntmps84
  go_wp2
  go_loopg [3] k (fun kq v3 w' => ∃ (x3_1 : Int), v3 = .int .i64 x3_1 ∧ Aside0 (spec_l1Trim.l0 kq l0 x3_1 = some r) ∧ Aside0 (kq ≤ k) ∧ Aside0 (Below w.heap.size w w'))
  case atStart => exact ⟨((l0.length : Int)), (by first | rfl | (simp; done) | (simp [*]; done)), H', ⟨Nat.le_refl _⟩, ⟨zb⟩⟩
  case round =>
    clear H'; obtain ⟨x3_1, rfl, HA, HK1, HB⟩ := hrel
    cases gk with
    | zero => exact absurd HA.out (by simp [spec_l1Trim.l0])
    | succ k1 =>
      have H := HA.out; clear HA; simp only [spec_l1Trim.l0] at H
      by_cases c2 : x3_1 > 0
      · rw [if_pos c2] at H
        have c2b0 : decide (0 < x3_1) = true := decide_eq_true c2; clear c2
        obtain ⟨ji3, hji3⟩ : ∃ j_ : Int, (wrap64 (x3_1 - 1)) = j_ := ⟨_, rfl⟩
        (replace H : (if 0 ≤ (ji3) then (if (ji3) < (l0.length : Int) then (if (rd l0 (ji3)) = 0 then (spec_l1Trim.l0 k1 l0 ji3) else ((some (([] : List Int) : List Int)).bind fun y0e => (if 0 ≤ x3_1 then (if x3_1 ≤ (l0.length : Int) then (if y0e.length + (l0.take (x3_1 : Int).toNat).length < 17592186044416 then (some (y0e ++ (l0.take (x3_1 : Int).toNat))) else (none)) else (none)) else (none)))) else (none)) else (none)) = some r := by first | (rw [hji3] at H; exact H) | (simp only [hji3] at H ⊢; exact H)); have hji3w : (IntKind.i64.wrap (x3_1 - 1)) = ji3 := (i64_w _).trans hji3
        by_cases c4 : 0 ≤ (ji3)
        · rw [if_pos c4] at H
          have c4b0 : decide (0 ≤ (ji3)) = true := decide_eq_true c4; clear c4
          by_cases c5 : (ji3) < (l0.length : Int)
          · rw [if_pos c5] at H
            have c5b0 : decide ((ji3) < (l0.length : Int)) = true := decide_eq_true c5; clear c5
            by_cases c6 : (rd l0 (ji3)) = 0
            · rw [if_pos c6] at H
              have c6b0 : ((rd l0 (ji3)) == 0) = true := beq_iff_eq.mpr c6; have c6b1 : ((rd l0 (ji3)) != 0) = false := bne_eq_false_iff_eq.mpr c6; clear c6; have H' := zm H; clear H; have p215 : 0 ≤ ((ji3) : Int) := of_decide_eq_true (by first | (with_reducible assumption) | assumption); have q215 : (ji3) < (l0.length : Int) := of_decide_eq_true (by first | (with_reducible assumption) | assumption); obtain ⟨ad215, e215, hx215_0⟩ := Kd.at_int HR0.out (ji3) p215 q215; cases e215; replace hx215_0 := (HB.out.cell (World.block_lt_of_cell? w _ hx215_0)).trans hx215_0; replace p215 := eq_true p215; replace q215 := eq_true q215
              go_wp2
              go_roundg k1
              case measure => have := HK1.out; omega
              case rel => exact ⟨(ji3), (by first | rfl | (simp; done) | (simp only [← hji3] <;> (first | rfl | simp)) | (simp [*]; done)), H', ⟨by have := HK1.out; omega⟩, ⟨zb⟩⟩
            · rw [if_neg c6] at H
              have c6b0 : ((rd l0 (ji3)) == 0) = false := beq_eq_false_iff_ne.mpr c6; have c6b1 : ((rd l0 (ji3)) != 0) = true := bne_iff_ne.mpr c6
              obtain ⟨y0e, hy216⟩ : ∃ y_ : List Int, y_ = (([] : List Int)) := ⟨_, rfl⟩
              (replace H : (if 0 ≤ x3_1 then (if x3_1 ≤ (l0.length : Int) then (if y0e.length + (l0.take (x3_1 : Int).toNat).length < 17592186044416 then (some (y0e ++ (l0.take (x3_1 : Int).toNat))) else (none)) else (none)) else (none)) = some r := by first | (rw [hy216]; with_reducible exact H) | (have H2_ := (Option.bind_some _ _).symm.trans H; rw [hy216]; with_reducible exact H2_) | (have H2_ := (Option.bind_some _ _).symm.trans H; with_reducible exact H2_) | with_reducible exact H | (rw [hy216]; exact H) | exact H); have Ny216 := zm hy216; clear hy216
              by_cases c7 : 0 ≤ x3_1
              · rw [if_pos c7] at H
                have c7b0 := eq_true c7; have c7b1 : decide (0 ≤ x3_1) = true := decide_eq_true c7; clear c7
                by_cases c8 : x3_1 ≤ (l0.length : Int)
                · rw [if_pos c8] at H
                  have c8b0 := eq_true c8; have c8b1 : decide (x3_1 ≤ (l0.length : Int)) = true := decide_eq_true c8; clear c8
                  by_cases c9 : y0e.length + (l0.take (x3_1 : Int).toNat).length < 17592186044416
                  · rw [if_pos c9] at H
                    have LMc9 := zm c9; clear c9
                    obtain ⟨y0h, hy220⟩ : ∃ y_ : List Int, y_ = (y0e ++ (l0.take (x3_1 : Int).toNat)) := ⟨_, rfl⟩
                    (replace H : (some y0h) = some r := by first | (rw [hy220]; with_reducible exact H) | (have H2_ := (Option.bind_some _ _).symm.trans H; rw [hy220]; with_reducible exact H2_) | (have H2_ := (Option.bind_some _ _).symm.trans H; with_reducible exact H2_) | with_reducible exact H | (rw [hy220]; exact H) | exact H); have Ny220 := zm hy220; clear hy220; obtain rfl := Option.some.inj H; have p215 : 0 ≤ ((ji3) : Int) := of_decide_eq_true (by first | (with_reducible assumption) | assumption); have q215 : (ji3) < (l0.length : Int) := of_decide_eq_true (by first | (with_reducible assumption) | assumption); obtain ⟨ad215, e215, hx215_0⟩ := Kd.at_int HR0.out (ji3) p215 q215; cases e215; replace hx215_0 := (HB.out.cell (World.block_lt_of_cell? w _ hx215_0)).trans hx215_0; replace p215 := eq_true p215; replace q215 := eq_true q215
                    go_wp2_with (first | ((with_reducible refine gate_dst (N := 18) rfl ?_); refine Kd.R_lit (Kd.int .i64) _ 3 ?hg (N := 18) ?hd (xs := ([] : List Int)) (inner := []) (ok := fun _ => True) (okp := fun _ => True) ?hr ?hp (fun _ hk => hk) trivial (Below.refl _ _) (Nat.le_refl _) (by simp) ?_; (case hd => rfl); (case hg => rfl); (case hr => first | (go_simp; done) | (go_simp; rfl)); (case hp => exact (Reps.none _ _)); intro v0f w10 ho11 hb hg_ hnew_; clear hg_ hnew_; (first | rw [← Ny216.out] at ho11 | (simp only [Int.reduceToNat] at ho11; rw [← Ny216.out] at ho11)); have n0_ := zm (Kd.R_lower ho11 (below_size zb)); have n1_ := zm (below_step zb hb); clear HB; have HO0g := n0_; have HB := n1_; clear n0_ n1_; clear hb ho11; obtain ⟨i012, hi012, _, hsz12, _⟩ := info_parts info3; obtain ⟨hcut12, hA12, hC12⟩ := print_take_of (P := Try.prog) (Value.int .i64) 0 22 3 .i64 Try.underlying22 hi012 hsz12 (some ad215) c0 l0 x3_1 (of_decide_eq_true (by first | (with_reducible assumption) | assumption)) (of_decide_eq_true (by first | (with_reducible assumption) | assumption)) HC0.out; have HR219 := zm (Kd.C_of_reads (h1 := fun _ => rfl) (hA12 _ (Kd.reads_of_C HR0.out))); have HC219 := zm hC12; clear hA12 hC12 hi012 hsz12) | ((with_reducible refine gate_builtin (b := .append) (xs := #[.tmp 18, .tmp 21]) rfl ?_); at_builtin; refine Kd.R_append_rows (Kd.int .i64) (w0 := w) w.heap.size rfl (.tmp 18) (.tmp 21) 22 3 (.int .i64 0) 8 rfl Try.underlying22 info3 rfl (by decide) (by omega) v0f y0e (l0.take (x3_1 : Int).toNat) _ _ _ (fun _ => True) (fun _ => False) rfl rfl ?aO ?aR (fun _ _ h => h) (fun _ h => h.elim) ?aF ?aB ?aS ?aL ?_; (case aR => first | (have e_ : (l0.take (x3_1 : Int).toNat).length = x3_1.toNat := (by rw [List.length_take]; have h_ : (x3_1 : Int) ≤ (l0.length : Int) := of_decide_eq_true (by first | (with_reducible assumption) | assumption); omega); (repeat (first | (with_reducible refine Kd.C_alloc ?_ _) | (with_reducible refine Kd.C_drewN ?_ _) | (with_reducible refine Kd.C_drew ?_))); have z_ := (Kd.C_below HR219.out HB.out); rw [e_] at z_; exact z_)  | (rw [← show (l0.take (x3_1 : Int).toNat).length = x3_1.toNat from (by rw [List.length_take]; have h_ : (x3_1 : Int) ≤ (l0.length : Int) := of_decide_eq_true (by first | (with_reducible assumption) | assumption); omega)]; exact zc (Kd.C_below HR219.out HB.out)) | (exact zc (Kd.C_below HR219.out HB.out))); (case aB => exact zb); (case aF => exact (fun _ _ => trivial)); (case aO => exact (zR HO0g.out)); (case aS => exact (below_size zb)); (case aL => have := LMc9.out; have hlx_ := (show (l0.take (x3_1 : Int).toNat).length = x3_1.toNat from (by rw [List.length_take]; have h_ : (x3_1 : Int) ≤ (l0.length : Int) := of_decide_eq_true (by first | (with_reducible assumption) | assumption); omega)); omega); intro v0i w13 ho hb hg hat; rw [← Ny220.out] at ho; have n0_ := zm (hb); have n1_ := zm (ho); clear HB; clear HO0g; have HB := n0_; have HO0j := n1_; clear n0_ n1_; clear ho hb hg hat))
                    go_ret
                    exact ⟨_, by first | rfl | (simp [errW_none, errW_some] <;> rfl) | (simp only [← hji3]; first | rfl | (simp [errW_none, errW_some] <;> rfl)) | (simp [*, errW_none, errW_some] <;> rfl), by (with_reducible repeat (first | apply Kd.R_alloc | apply Kd.R_drewN | apply Kd.R_drew)); exact HO0j.out, zb⟩
                  · rw [if_neg c9] at H
                    exact absurd H (by simp)
                · rw [if_neg c8] at H
                  exact absurd H (by simp)
              · rw [if_neg c7] at H
                exact absurd H (by simp)
          · rw [if_neg c5] at H
            exact absurd H (by simp)
        · rw [if_neg c4] at H
          exact absurd H (by simp)
      · rw [if_neg c2] at H
        have c2b0 : decide (0 < x3_1) = false := decide_eq_false c2; clear c2
        obtain ⟨y0k, hy223⟩ : ∃ y_ : List Int, y_ = (([] : List Int)) := ⟨_, rfl⟩
        (replace H : (if 0 ≤ x3_1 then (if x3_1 ≤ (l0.length : Int) then (if y0k.length + (l0.take (x3_1 : Int).toNat).length < 17592186044416 then (some (y0k ++ (l0.take (x3_1 : Int).toNat))) else (none)) else (none)) else (none)) = some r := by first | (rw [hy223]; with_reducible exact H) | (have H2_ := (Option.bind_some _ _).symm.trans H; rw [hy223]; with_reducible exact H2_) | (have H2_ := (Option.bind_some _ _).symm.trans H; with_reducible exact H2_) | with_reducible exact H | (rw [hy223]; exact H) | exact H); have Ny223 := zm hy223; clear hy223
        by_cases c14 : 0 ≤ x3_1
        · rw [if_pos c14] at H
          have c14b0 := eq_true c14; have c14b1 : decide (0 ≤ x3_1) = true := decide_eq_true c14; clear c14
          by_cases c15 : x3_1 ≤ (l0.length : Int)
          · rw [if_pos c15] at H
            have c15b0 := eq_true c15; have c15b1 : decide (x3_1 ≤ (l0.length : Int)) = true := decide_eq_true c15; clear c15
            by_cases c16 : y0k.length + (l0.take (x3_1 : Int).toNat).length < 17592186044416
            · rw [if_pos c16] at H
              have LMc16 := zm c16; clear c16
              obtain ⟨y0n, hy227⟩ : ∃ y_ : List Int, y_ = (y0k ++ (l0.take (x3_1 : Int).toNat)) := ⟨_, rfl⟩
              (replace H : (some y0n) = some r := by first | (rw [hy227]; with_reducible exact H) | (have H2_ := (Option.bind_some _ _).symm.trans H; rw [hy227]; with_reducible exact H2_) | (have H2_ := (Option.bind_some _ _).symm.trans H; with_reducible exact H2_) | with_reducible exact H | (rw [hy227]; exact H) | exact H); have Ny227 := zm hy227; clear hy227; obtain rfl := Option.some.inj H
              go_wp2_with (first | ((with_reducible refine gate_dst (N := 18) rfl ?_); refine Kd.R_lit (Kd.int .i64) _ 3 ?hg (N := 18) ?hd (xs := ([] : List Int)) (inner := []) (ok := fun _ => True) (okp := fun _ => True) ?hr ?hp (fun _ hk => hk) trivial (Below.refl _ _) (Nat.le_refl _) (by simp) ?_; (case hd => rfl); (case hg => rfl); (case hr => first | (go_simp; done) | (go_simp; rfl)); (case hp => exact (Reps.none _ _)); intro v0l w17 ho18 hb hg_ hnew_; clear hg_ hnew_; (first | rw [← Ny223.out] at ho18 | (simp only [Int.reduceToNat] at ho18; rw [← Ny223.out] at ho18)); have n0_ := zm (Kd.R_lower ho18 (below_size zb)); have n1_ := zm (below_step zb hb); clear HB; have HO0m := n0_; have HB := n1_; clear n0_ n1_; clear hb ho18; obtain ⟨i019, hi019, _, hsz19, _⟩ := info_parts info3; obtain ⟨hcut19, hA19, hC19⟩ := print_take_of (P := Try.prog) (Value.int .i64) 0 22 3 .i64 Try.underlying22 hi019 hsz19 A0 c0 l0 x3_1 (of_decide_eq_true (by first | (with_reducible assumption) | assumption)) (of_decide_eq_true (by first | (with_reducible assumption) | assumption)) HC0.out; have HR226 := zm (Kd.C_of_reads (h1 := fun _ => rfl) (hA19 _ (Kd.reads_of_C HR0.out))); have HC226 := zm hC19; clear hA19 hC19 hi019 hsz19) | ((with_reducible refine gate_builtin (b := .append) (xs := #[.tmp 18, .tmp 21]) rfl ?_); at_builtin; refine Kd.R_append_rows (Kd.int .i64) (w0 := w) w.heap.size rfl (.tmp 18) (.tmp 21) 22 3 (.int .i64 0) 8 rfl Try.underlying22 info3 rfl (by decide) (by omega) v0l y0k (l0.take (x3_1 : Int).toNat) _ _ _ (fun _ => True) (fun _ => False) rfl rfl ?aO ?aR (fun _ _ h => h) (fun _ h => h.elim) ?aF ?aB ?aS ?aL ?_; (case aR => first | (have e_ : (l0.take (x3_1 : Int).toNat).length = x3_1.toNat := (by rw [List.length_take]; have h_ : (x3_1 : Int) ≤ (l0.length : Int) := of_decide_eq_true (by first | (with_reducible assumption) | assumption); omega); (repeat (first | (with_reducible refine Kd.C_alloc ?_ _) | (with_reducible refine Kd.C_drewN ?_ _) | (with_reducible refine Kd.C_drew ?_))); have z_ := (Kd.C_below HR226.out HB.out); rw [e_] at z_; exact z_)  | (rw [← show (l0.take (x3_1 : Int).toNat).length = x3_1.toNat from (by rw [List.length_take]; have h_ : (x3_1 : Int) ≤ (l0.length : Int) := of_decide_eq_true (by first | (with_reducible assumption) | assumption); omega)]; exact zc (Kd.C_below HR226.out HB.out)) | (exact zc (Kd.C_below HR226.out HB.out))); (case aB => exact zb); (case aF => exact (fun _ _ => trivial)); (case aO => exact (zR HO0m.out)); (case aS => exact (below_size zb)); (case aL => have := LMc16.out; have hlx_ := (show (l0.take (x3_1 : Int).toNat).length = x3_1.toNat from (by rw [List.length_take]; have h_ : (x3_1 : Int) ≤ (l0.length : Int) := of_decide_eq_true (by first | (with_reducible assumption) | assumption); omega)); omega); intro v0o w20 ho hb hg hat; rw [← Ny227.out] at ho; have n0_ := zm (hb); have n1_ := zm (ho); clear HB; clear HO0m; have HB := n0_; have HO0p := n1_; clear n0_ n1_; clear ho hb hg hat))
              go_ret
              exact ⟨_, by first | rfl | (simp [errW_none, errW_some] <;> rfl) | (simp [*, errW_none, errW_some] <;> rfl), by (with_reducible repeat (first | apply Kd.R_alloc | apply Kd.R_drewN | apply Kd.R_drew)); exact HO0p.out, zb⟩
            · rw [if_neg c16] at H
              exact absurd H (by simp)
          · rw [if_neg c15] at H
            exact absurd H (by simp)
        · rw [if_neg c14] at H
          exact absurd H (by simp)
def spec_l1Big.f (k : Nat) (a0 : Bool) (l1 : List Int) : Option (Bool × List Int × Bool) := (spec_l1Trim.f k l1).bind fun t0r => (if (t0r.length : Int) > 16 then (some (false, ([] : List Int), false)) else (if a0 = true then (some (decide (0 < t0r.length), t0r, true)) else (some (false, t0r, true))))
set_option maxHeartbeats 8000000 in
set_option maxRecDepth 100000 in
theorem spec_l1Big.calls (k : Nat) (a0 : Bool) (A1 : Option Addr) (c1 : Nat) (l1 : List Int) (r1 : Bool) (r2 : List Int) (r3 : Bool) (w : World) (hr1 : Kd.C (Kd.int .i64) w A1 l1.length l1) (hc1 : l1.length ≤ c1) (h : spec_l1Big.f k a0 l1 = some (r1, r2, r3)) :
    Calls Try.prog 60 #[.bool a0, .slice A1 l1.length c1] w fun e w' => ∃ v1_ : Value, e = .returned (.tuple #[.agg #[.bool r1, v1_], .bool r3]) ∧ Kd.R (Kd.int .i64) 3 w' w.heap.size (fun _ => True) v1_ r2 ∧ Below w.heap.size w w' := by
  have hu27 := Try.underlying27; have HR1 := zm hr1; have HC1 := zm hc1; clear hr1 hc1; have HB := zm (Below.refl w.heap.size w); have H : ((spec_l1Trim.f k l1).bind fun t0r => (if (t0r.length : Int) > 16 then (some (false, ([] : List Int), false)) else (if a0 = true then (some (decide (0 < t0r.length), t0r, true)) else (some (false, t0r, true))))) = some (r1, r2, r3) := h; clear h; replace H := Option.bind_eq_some_iff.mp H; obtain ⟨t0r, A30, H⟩ := H; replace H : (if (t0r.length : Int) > 16 then (some (false, ([] : List Int), false)) else (if a0 = true then (some (decide (0 < t0r.length), t0r, true)) else (some (false, t0r, true)))) = some (r1, r2, r3) := H; have A3 := zm A30; clear A30
  by_cases c4 : (t0r.length : Int) > 16
  · rw [if_pos c4] at H
    have c4b0 : decide (16 < (t0r.length : Int)) = true := decide_eq_true c4; have c4b1 : decide (16 < t0r.length) = true := decide_eq_true (by omega); clear c4; simp only [Option.some.injEq, Prod.mk.injEq] at H; obtain ⟨rfl, rfl, rfl⟩ := H; go_enter Try.func60, Try.ntmps60
    go_wp2_with (first | ((with_reducible refine gate_dst (N := 4) rfl ?_); (try (refine gate_guard (by rfl) ?_; dsimp only)); refine box_event ?hg (N := 4) ?hd (cs := #[.bool false, .slice none 0 0]) (t := 27) ?hr ?_; (case hd => rfl); (case hg => rfl); (case hr => first | (go_simp; done) | (go_simp; rfl)); intro gb0q hg w5 hbox hb; have n0_ := zm (below_step zb hb); have n1_ := zm (hbox); have n2_ := zm ((by rw [hg]; exact (below_size zb) : w.heap.size ≤ gb0q)); have n3_ := zm ((by rw [hg]; exact (below_size zb) : w.heap.size ≤ gb0q)); clear HB; have HB := n0_; have BK0q := n1_; have GW0q := n2_; have GE0q := n3_; clear n0_ n1_ n2_ n3_; clear hb hbox hg) | ((with_reducible refine gate_callee (f := 84) rfl ?_); refine goesL_ (some 8) rfl rfl Try.func84 (by kernel_rfl) rfl #[.slice A1 l1.length c1] rfl za ?_; (with_reducible refine (spec_l1Trim.calls k _ _ l1 t0r _ ?side1 ?side2 A3.out).mono ?_); (case side1 => exact zc (Kd.C_below HR1.out HB.out)); (case side2 => exact HC1.out); rintro e w6 ⟨v0s, rfl, ho0, hb⟩; refine ⟨_, rfl, ?_⟩; have n0_ := zm (Kd.R_lower ho0 (below_size zb)); have n1_ := zm (blk_below (g := gb0q) (o := .cells #[.bool false, .slice none 0 0] 27 (0, 0)) (zk BK0q.out) hb); have n2_ := zm (below_step zb hb); clear BK0q; clear HB; have HO0t := n0_; have BK0q := n1_; have HB := n2_; clear n0_ n1_ n2_; (try clear hb); (try clear hb2); (try clear hk); (try clear hi); (try clear ho0); obtain ⟨Ao7, co7, eo7⟩ := Kd.R_slice HO0t.out; subst eo7; have hcz8_0 : w6.cell? ⟨gb0q, 0, none⟩ = some (.bool false) := (blk_cell BK0q.out 0).trans rfl; have hcz8_1 : w6.cell? ⟨gb0q, 1, none⟩ = some (.slice none 0 0) := (blk_cell BK0q.out 1).trans rfl; have hfz8_0 := blk_frozen BK0q.out 0; have hfz8_1 := blk_frozen BK0q.out 1))
    (refine bodyPost_ret (results_ct rfl _ _ gb0q 27 #[.bool false, .slice none 0 0] (0, 0) _ rfl (by (with_reducible repeat (first | refine blk_drewN ?_ _ | refine blk_drew ?_ | refine blk_alloc ?_ _)); refine blk_put (cs := #[.bool false, .slice none 0 0]) ?_ 1 _ rfl; (with_reducible repeat (first | refine blk_drewN ?_ _ | refine blk_drew ?_ | refine blk_alloc ?_ _)); refine blk_put (cs := #[.bool false, .slice none 0 0]) ?_ 0 _ rfl; (with_reducible repeat (first | refine blk_drewN ?_ _ | refine blk_drew ?_ | refine blk_alloc ?_ _)); exact BK0q.out) Try.underlying27 rfl (by kernel_rfl)) rfl ?_); (exact ⟨_, by first | rfl | (simp [errW_none, errW_some] <;> rfl) | (simp [*, errW_none, errW_some] <;> rfl), by first | exact Kd.R_nil _ _ _ _ _ | exact Kd.N_nil _ _ _ _ _ | exact Kd.V_nil _ _ _ _ _ | exact Kd.Q_nil _ _ _ _ _ | exact Kd.S_nil _ _ _ _ _, zb⟩)
  · rw [if_neg c4] at H
    have c4b0 : decide (16 < (t0r.length : Int)) = false := decide_eq_false c4; have c4b1 : decide (16 < t0r.length) = false := decide_eq_false (by omega); clear c4
    by_cases c9 : a0 = true
    · subst c9
      (have H1 : (some (decide (0 < t0r.length), t0r, true)) = some (r1, r2, r3) := by rw [if_pos rfl] at H; exact H); clear H; have H := H1; clear H1; simp only [Option.some.injEq, Prod.mk.injEq] at H; obtain ⟨rfl, rfl, rfl⟩ := H; go_enter Try.func60, Try.ntmps60
      go_wp2_with (first | ((with_reducible refine gate_dst (N := 4) rfl ?_); (try (refine gate_guard (by rfl) ?_; dsimp only)); refine box_event ?hg (N := 4) ?hd (cs := #[.bool false, .slice none 0 0]) (t := 27) ?hr ?_; (case hd => rfl); (case hg => rfl); (case hr => first | (go_simp; done) | (go_simp; rfl)); intro gb0q hg w10 hbox hb; have n0_ := zm (below_step zb hb); have n1_ := zm (hbox); have n2_ := zm ((by rw [hg]; exact (below_size zb) : w.heap.size ≤ gb0q)); have n3_ := zm ((by rw [hg]; exact (below_size zb) : w.heap.size ≤ gb0q)); clear HB; have HB := n0_; have BK0q := n1_; have GW0q := n2_; have GE0q := n3_; clear n0_ n1_ n2_ n3_; clear hb hbox hg) | ((with_reducible refine gate_callee (f := 84) rfl ?_); refine goesL_ (some 8) rfl rfl Try.func84 (by kernel_rfl) rfl #[.slice A1 l1.length c1] rfl za ?_; (with_reducible refine (spec_l1Trim.calls k _ _ l1 t0r _ ?side1 ?side2 A3.out).mono ?_); (case side1 => exact zc (Kd.C_below HR1.out HB.out)); (case side2 => exact HC1.out); rintro e w11 ⟨v0s, rfl, ho0, hb⟩; refine ⟨_, rfl, ?_⟩; have n0_ := zm (Kd.R_lower ho0 (below_size zb)); have n1_ := zm (blk_below (g := gb0q) (o := .cells #[.bool false, .slice none 0 0] 27 (0, 0)) (zk BK0q.out) hb); have n2_ := zm (below_step zb hb); clear BK0q; clear HB; have HO0t := n0_; have BK0q := n1_; have HB := n2_; clear n0_ n1_ n2_; (try clear hb); (try clear hb2); (try clear hk); (try clear hi); (try clear ho0); obtain ⟨Ao12, co12, eo12⟩ := Kd.R_slice HO0t.out; subst eo12; have hcz13_0 : w11.cell? ⟨gb0q, 0, none⟩ = some (.bool false) := (blk_cell BK0q.out 0).trans rfl; have hcz13_1 : w11.cell? ⟨gb0q, 1, none⟩ = some (.slice none 0 0) := (blk_cell BK0q.out 1).trans rfl; have hfz13_0 := blk_frozen BK0q.out 0; have hfz13_1 := blk_frozen BK0q.out 1))
      (refine bodyPost_ret (results_ct rfl _ _ gb0q 27 #[.bool (decide (0 < t0r.length)), .slice Ao12 t0r.length co12] (0, 0) _ rfl (by (with_reducible repeat (first | refine blk_drewN ?_ _ | refine blk_drew ?_ | refine blk_alloc ?_ _)); refine blk_put (cs := #[.bool (decide (0 < t0r.length)), .slice none 0 0]) ?_ 1 _ rfl; (with_reducible repeat (first | refine blk_drewN ?_ _ | refine blk_drew ?_ | refine blk_alloc ?_ _)); refine blk_put (cs := #[.bool false, .slice none 0 0]) ?_ 0 _ rfl; (with_reducible repeat (first | refine blk_drewN ?_ _ | refine blk_drew ?_ | refine blk_alloc ?_ _)); exact BK0q.out) Try.underlying27 rfl (by kernel_rfl)) rfl ?_); (exact ⟨_, by first | rfl | (simp [errW_none, errW_some] <;> rfl) | (simp [*, errW_none, errW_some] <;> rfl), by (with_reducible repeat (first | apply Kd.R_alloc | apply Kd.R_drewN | apply Kd.R_drew)); exact Kd.R_mono (Kd.R_far (p := ⟨gb0q, 1, none⟩) (Kd.R_far (p := ⟨gb0q, 0, none⟩) (Kd.R_types HO0t.out BK0q.out (by decide)) (fun _ hk => hk.2) (.bool (decide (0 < t0r.length)))) (fun _ hk => hk.2) (.slice Ao12 t0r.length co12)) (fun _ hk => trivial), zb⟩)
    · replace c9 := Bool.eq_false_iff.mpr c9
      subst c9; (have H1 : (some (false, t0r, true)) = some (r1, r2, r3) := by rw [if_neg (show ¬ (false = true) by decide)] at H; exact H); clear H; have H := H1; clear H1; simp only [Option.some.injEq, Prod.mk.injEq] at H; obtain ⟨rfl, rfl, rfl⟩ := H; go_enter Try.func60, Try.ntmps60
      go_wp2_with (first | ((with_reducible refine gate_dst (N := 4) rfl ?_); (try (refine gate_guard (by rfl) ?_; dsimp only)); refine box_event ?hg (N := 4) ?hd (cs := #[.bool false, .slice none 0 0]) (t := 27) ?hr ?_; (case hd => rfl); (case hg => rfl); (case hr => first | (go_simp; done) | (go_simp; rfl)); intro gb0q hg w14 hbox hb; have n0_ := zm (below_step zb hb); have n1_ := zm (hbox); have n2_ := zm ((by rw [hg]; exact (below_size zb) : w.heap.size ≤ gb0q)); have n3_ := zm ((by rw [hg]; exact (below_size zb) : w.heap.size ≤ gb0q)); clear HB; have HB := n0_; have BK0q := n1_; have GW0q := n2_; have GE0q := n3_; clear n0_ n1_ n2_ n3_; clear hb hbox hg) | ((with_reducible refine gate_callee (f := 84) rfl ?_); refine goesL_ (some 8) rfl rfl Try.func84 (by kernel_rfl) rfl #[.slice A1 l1.length c1] rfl za ?_; (with_reducible refine (spec_l1Trim.calls k _ _ l1 t0r _ ?side1 ?side2 A3.out).mono ?_); (case side1 => exact zc (Kd.C_below HR1.out HB.out)); (case side2 => exact HC1.out); rintro e w15 ⟨v0s, rfl, ho0, hb⟩; refine ⟨_, rfl, ?_⟩; have n0_ := zm (Kd.R_lower ho0 (below_size zb)); have n1_ := zm (blk_below (g := gb0q) (o := .cells #[.bool false, .slice none 0 0] 27 (0, 0)) (zk BK0q.out) hb); have n2_ := zm (below_step zb hb); clear BK0q; clear HB; have HO0t := n0_; have BK0q := n1_; have HB := n2_; clear n0_ n1_ n2_; (try clear hb); (try clear hb2); (try clear hk); (try clear hi); (try clear ho0); obtain ⟨Ao16, co16, eo16⟩ := Kd.R_slice HO0t.out; subst eo16; have hcz17_0 : w15.cell? ⟨gb0q, 0, none⟩ = some (.bool false) := (blk_cell BK0q.out 0).trans rfl; have hcz17_1 : w15.cell? ⟨gb0q, 1, none⟩ = some (.slice none 0 0) := (blk_cell BK0q.out 1).trans rfl; have hfz17_0 := blk_frozen BK0q.out 0; have hfz17_1 := blk_frozen BK0q.out 1))
      (refine bodyPost_ret (results_ct rfl _ _ gb0q 27 #[.bool false, .slice Ao16 t0r.length co16] (0, 0) _ rfl (by (with_reducible repeat (first | refine blk_drewN ?_ _ | refine blk_drew ?_ | refine blk_alloc ?_ _)); refine blk_put (cs := #[.bool false, .slice none 0 0]) ?_ 1 _ rfl; (with_reducible repeat (first | refine blk_drewN ?_ _ | refine blk_drew ?_ | refine blk_alloc ?_ _)); refine blk_put (cs := #[.bool false, .slice none 0 0]) ?_ 0 _ rfl; (with_reducible repeat (first | refine blk_drewN ?_ _ | refine blk_drew ?_ | refine blk_alloc ?_ _)); exact BK0q.out) Try.underlying27 rfl (by kernel_rfl)) rfl ?_); (exact ⟨_, by first | rfl | (simp [errW_none, errW_some] <;> rfl) | (simp [*, errW_none, errW_some] <;> rfl), by (with_reducible repeat (first | apply Kd.R_alloc | apply Kd.R_drewN | apply Kd.R_drew)); exact Kd.R_mono (Kd.R_far (p := ⟨gb0q, 1, none⟩) (Kd.R_far (p := ⟨gb0q, 0, none⟩) (Kd.R_types HO0t.out BK0q.out (by decide)) (fun _ hk => hk.2) (.bool false)) (fun _ hk => hk.2) (.slice Ao16 t0r.length co16)) (fun _ hk => trivial), zb⟩)
def spec_l1CmpAbs.l0 : Nat → List Int → List Int → Int → Option (Int)
  | 0, _, _, _ => none
  | k + 1, x0, x1, x5 => if x5 ≥ 0 then (if 0 ≤ x5 then (if x5 < (x0.length : Int) then (if x5 < (x1.length : Int) then (if (rd x0 x5) < (rd x1 x5) then (some (-1)) else (if (rd x0 x5) > (rd x1 x5) then (some 1) else (spec_l1CmpAbs.l0 k x0 x1 (wrap64 (x5 - 1))))) else (none)) else (none)) else (none)) else (some 0)
def spec_l1CmpAbs.f (k : Nat) (l0 : List Int) (l1 : List Int) : Option (Int) := if (l0.length : Int) = (l1.length : Int) then (spec_l1CmpAbs.l0 k l0 l1 (wrap64 ((l0.length : Int) - 1))) else (if (l0.length : Int) < (l1.length : Int) then (some (-1)) else (some 1))
set_option maxHeartbeats 8000000 in
set_option maxRecDepth 100000 in
theorem spec_l1CmpAbs.calls (k : Nat) (A0 : Option Addr) (c0 : Nat) (l0 : List Int) (A1 : Option Addr) (c1 : Nat) (l1 : List Int) (r : Int) (w : World) (hr0 : Kd.C (Kd.int .i64) w A0 l0.length l0) (hc0 : l0.length ≤ c0) (hr1 : Kd.C (Kd.int .i64) w A1 l1.length l1) (hc1 : l1.length ≤ c1) (h : spec_l1CmpAbs.f k l0 l1 = some r) :
    Calls Try.prog 89 #[.slice A0 l0.length c0, .slice A1 l1.length c1] w fun e w' => e = .returned (.int .i64 r) ∧ Drawn0 w w' := by
  have HR0 := zm hr0; have HC0 := zm hc0; clear hr0 hc0; have HR1 := zm hr1; have HC1 := zm hc1; clear hr1 hc1; have H : (if (l0.length : Int) = (l1.length : Int) then (spec_l1CmpAbs.l0 k l0 l1 (wrap64 ((l0.length : Int) - 1))) else (if (l0.length : Int) < (l1.length : Int) then (some (-1)) else (some 1))) = some r := h; clear h
  by_cases c3 : (l0.length : Int) = (l1.length : Int)
  · rw [if_pos c3] at H
    have c3b0 : ((l0.length : Int) == (l1.length : Int)) = true := beq_iff_eq.mpr c3; have c3b1 : ((l0.length : Int) != (l1.length : Int)) = false := bne_eq_false_iff_eq.mpr c3; (have c3b2 : (l0.length == l1.length) = true := by first | simpa using c3 | (simp at c3 ⊢; omega)); clear c3; have H' := zm H; clear H; go_enter Try.func89, Try.ntmps89
    go_wp2
    repeat (go_quiet (fail); try go_wp2)
    go_loopg [5] k (fun kq v5 w' => ∃ (x5_1 : Int), v5 = .int .i64 x5_1 ∧ Aside0 (spec_l1CmpAbs.l0 kq l0 l1 x5_1 = some r) ∧ Aside0 (kq ≤ k) ∧ Drawn0 w w')
    case atStart => exact ⟨(wrap64 ((l0.length : Int) - 1)), (by first | rfl | (simp; done) | (simp [*]; done)), H', ⟨Nat.le_refl _⟩, by repeat (first | exact Drawn0.refl _ | apply Drawn0.step)⟩
    case round =>
      clear H'; (try clear c1); (try clear p2); (try clear c3); (try clear c3b0); (try clear c3b1); (try clear c3b2); obtain ⟨x5_1, rfl, HA, HK1, ⟨m1, rfl⟩⟩ := hrel
      cases gk with
      | zero => exact absurd HA.out (by simp [spec_l1CmpAbs.l0])
      | succ k1 =>
        have H := HA.out; clear HA; simp only [spec_l1CmpAbs.l0] at H
        by_cases c4 : x5_1 ≥ 0
        · rw [if_pos c4] at H
          have c4b0 : decide (0 ≤ x5_1) = true := decide_eq_true c4; clear c4
          by_cases c5 : 0 ≤ x5_1
          · rw [if_pos c5] at H
            have c5b0 : decide (0 ≤ x5_1) = true := decide_eq_true c5; clear c5
            by_cases c6 : x5_1 < (l0.length : Int)
            · rw [if_pos c6] at H
              have c6b0 : decide (x5_1 < (l0.length : Int)) = true := decide_eq_true c6; clear c6
              by_cases c7 : x5_1 < (l1.length : Int)
              · rw [if_pos c7] at H
                have c7b0 : decide (x5_1 < (l1.length : Int)) = true := decide_eq_true c7; clear c7
                by_cases c8 : (rd l0 x5_1) < (rd l1 x5_1)
                · rw [if_pos c8] at H
                  have c8b0 : decide ((rd l0 x5_1) < (rd l1 x5_1)) = true := decide_eq_true c8; clear c8; obtain rfl := Option.some.inj H; have p481 : 0 ≤ (x5_1 : Int) := of_decide_eq_true (by first | (with_reducible assumption) | assumption); have q481 : x5_1 < (l0.length : Int) := of_decide_eq_true (by first | (with_reducible assumption) | assumption); obtain ⟨ad481, e481, hx481_0⟩ := Kd.at_int HR0.out x5_1 p481 q481; cases e481; replace p481 := eq_true p481; replace q481 := eq_true q481; have p482 : 0 ≤ (x5_1 : Int) := of_decide_eq_true (by first | (with_reducible assumption) | assumption); have q482 : x5_1 < (l1.length : Int) := of_decide_eq_true (by first | (with_reducible assumption) | assumption); obtain ⟨ad482, e482, hx482_0⟩ := Kd.at_int HR1.out x5_1 p482 q482; cases e482; replace p482 := eq_true p482; replace q482 := eq_true q482
                  go_wp2
                  repeat (go_quiet (fail); try go_wp2)
                  go_ret
                  exact ⟨by first | rfl | (simp; done) | (simp [*]; done), by repeat (first | exact Drawn0.refl _ | apply Drawn0.step)⟩
                · rw [if_neg c8] at H
                  have c8b0 : decide ((rd l0 x5_1) < (rd l1 x5_1)) = false := decide_eq_false c8; clear c8
                  by_cases c9 : (rd l0 x5_1) > (rd l1 x5_1)
                  · rw [if_pos c9] at H
                    have c9b0 : decide ((rd l1 x5_1) < (rd l0 x5_1)) = true := decide_eq_true c9; clear c9; obtain rfl := Option.some.inj H; have p481 : 0 ≤ (x5_1 : Int) := of_decide_eq_true (by first | (with_reducible assumption) | assumption); have q481 : x5_1 < (l0.length : Int) := of_decide_eq_true (by first | (with_reducible assumption) | assumption); obtain ⟨ad481, e481, hx481_0⟩ := Kd.at_int HR0.out x5_1 p481 q481; cases e481; replace p481 := eq_true p481; replace q481 := eq_true q481; have p482 : 0 ≤ (x5_1 : Int) := of_decide_eq_true (by first | (with_reducible assumption) | assumption); have q482 : x5_1 < (l1.length : Int) := of_decide_eq_true (by first | (with_reducible assumption) | assumption); obtain ⟨ad482, e482, hx482_0⟩ := Kd.at_int HR1.out x5_1 p482 q482; cases e482; replace p482 := eq_true p482; replace q482 := eq_true q482; have p483 : 0 ≤ (x5_1 : Int) := of_decide_eq_true (by first | (with_reducible assumption) | assumption); have q483 : x5_1 < (l0.length : Int) := of_decide_eq_true (by first | (with_reducible assumption) | assumption); obtain ⟨ad483, e483, hx483_0⟩ := Kd.at_int HR0.out x5_1 p483 q483
                    obtain rfl : ad481 = ad483 := (by injection e483)
                    replace p483 := eq_true p483; replace q483 := eq_true q483; have p484 : 0 ≤ (x5_1 : Int) := of_decide_eq_true (by first | (with_reducible assumption) | assumption); have q484 : x5_1 < (l1.length : Int) := of_decide_eq_true (by first | (with_reducible assumption) | assumption); obtain ⟨ad484, e484, hx484_0⟩ := Kd.at_int HR1.out x5_1 p484 q484
                    obtain rfl : ad482 = ad484 := (by injection e484)
                    replace p484 := eq_true p484; replace q484 := eq_true q484
                    go_wp2
                    repeat (go_quiet (fail); try go_wp2)
                    go_ret
                    exact ⟨by first | rfl | (simp; done) | (simp [*]; done), by repeat (first | exact Drawn0.refl _ | apply Drawn0.step)⟩
                  · rw [if_neg c9] at H
                    have c9b0 : decide ((rd l1 x5_1) < (rd l0 x5_1)) = false := decide_eq_false c9; clear c9; have H' := zm H; clear H; have p481 : 0 ≤ (x5_1 : Int) := of_decide_eq_true (by first | (with_reducible assumption) | assumption); have q481 : x5_1 < (l0.length : Int) := of_decide_eq_true (by first | (with_reducible assumption) | assumption); obtain ⟨ad481, e481, hx481_0⟩ := Kd.at_int HR0.out x5_1 p481 q481; cases e481; replace p481 := eq_true p481; replace q481 := eq_true q481; have p482 : 0 ≤ (x5_1 : Int) := of_decide_eq_true (by first | (with_reducible assumption) | assumption); have q482 : x5_1 < (l1.length : Int) := of_decide_eq_true (by first | (with_reducible assumption) | assumption); obtain ⟨ad482, e482, hx482_0⟩ := Kd.at_int HR1.out x5_1 p482 q482; cases e482; replace p482 := eq_true p482; replace q482 := eq_true q482; have p483 : 0 ≤ (x5_1 : Int) := of_decide_eq_true (by first | (with_reducible assumption) | assumption); have q483 : x5_1 < (l0.length : Int) := of_decide_eq_true (by first | (with_reducible assumption) | assumption); obtain ⟨ad483, e483, hx483_0⟩ := Kd.at_int HR0.out x5_1 p483 q483
                    obtain rfl : ad481 = ad483 := (by injection e483)
                    replace p483 := eq_true p483; replace q483 := eq_true q483; have p484 : 0 ≤ (x5_1 : Int) := of_decide_eq_true (by first | (with_reducible assumption) | assumption); have q484 : x5_1 < (l1.length : Int) := of_decide_eq_true (by first | (with_reducible assumption) | assumption); obtain ⟨ad484, e484, hx484_0⟩ := Kd.at_int HR1.out x5_1 p484 q484
                    obtain rfl : ad482 = ad484 := (by injection e484)
                    replace p484 := eq_true p484; replace q484 := eq_true q484
                    go_wp2
                    repeat (go_quiet (fail); try go_wp2)
                    go_roundg k1
                    case measure => have := HK1.out; omega
                    case rel => exact ⟨(wrap64 (x5_1 - 1)), (by first | rfl | (simp; done) | (simp [*]; done)), H', ⟨by have := HK1.out; omega⟩, by repeat (first | exact Drawn0.refl _ | apply Drawn0.step)⟩
              · rw [if_neg c7] at H
                exact absurd H (by simp)
            · rw [if_neg c6] at H
              exact absurd H (by simp)
          · rw [if_neg c5] at H
            exact absurd H (by simp)
        · rw [if_neg c4] at H
          have c4b0 : decide (0 ≤ x5_1) = false := decide_eq_false c4; clear c4; obtain rfl := Option.some.inj H
          go_wp2
          repeat (go_quiet (fail); try go_wp2)
          go_ret
          exact ⟨by first | rfl | (simp; done) | (simp [*]; done), by repeat (first | exact Drawn0.refl _ | apply Drawn0.step)⟩
  · rw [if_neg c3] at H
    have c3b0 : ((l0.length : Int) == (l1.length : Int)) = false := beq_eq_false_iff_ne.mpr c3; have c3b1 : ((l0.length : Int) != (l1.length : Int)) = true := bne_iff_ne.mpr c3; (have c3b2 : (l0.length == l1.length) = false := by first | simpa using c3 | (simp at c3 ⊢; omega))
    by_cases c10 : (l0.length : Int) < (l1.length : Int)
    · rw [if_pos c10] at H
      have c10b0 : decide ((l0.length : Int) < (l1.length : Int)) = true := decide_eq_true c10; have c10b1 : decide (l0.length < l1.length) = true := decide_eq_true (Int.ofNat_lt.mp c10); clear c10; obtain rfl := Option.some.inj H; go_enter Try.func89, Try.ntmps89
      go_wp2
      repeat (go_quiet (fail); try go_wp2)
      go_ret
      exact ⟨by first | rfl | (simp; done) | (simp [*]; done), by repeat (first | exact Drawn0.refl _ | apply Drawn0.step)⟩
    · rw [if_neg c10] at H
      have c10b0 : decide ((l0.length : Int) < (l1.length : Int)) = false := decide_eq_false c10; have c10b1 : decide (l0.length < l1.length) = false := decide_eq_false (fun h => c10 (Int.ofNat_lt.mpr h)); clear c10; obtain rfl := Option.some.inj H; go_enter Try.func89, Try.ntmps89
      go_wp2
      repeat (go_quiet (fail); try go_wp2)
      go_ret
      exact ⟨by first | rfl | (simp; done) | (simp [*]; done), by repeat (first | exact Drawn0.refl _ | apply Drawn0.step)⟩
def spec_l1Cmp.f (k : Nat) (a0_0 : Bool) (l0_1 : List Int) (a1_0 : Bool) (l1_1 : List Int) : Option (Int) := if (a0_0 != a1_0) = true then (if a0_0 = true then (some (-1)) else (some 1)) else (if a0_0 = true then ((spec_l1CmpAbs.f k l1_1 l0_1).bind fun t0u => (some t0u)) else ((spec_l1CmpAbs.f k l0_1 l1_1).bind fun t0v => (some t0v)))
def spec_l1Limb.f (l0 : List Int) (a1 : Int) : Option (Int) := if a1 < (l0.length : Int) then (if 0 ≤ a1 then (some (rd l0 a1)) else (none)) else (some 0)
set_option maxHeartbeats 8000000 in
set_option maxRecDepth 100000 in
theorem spec_l1Limb.calls (A0 : Option Addr) (c0 : Nat) (l0 : List Int) (a1 : Int) (r : Int) (w : World) (hr0 : Kd.C (Kd.int .i64) w A0 l0.length l0) (hc0 : l0.length ≤ c0) (h : spec_l1Limb.f l0 a1 = some r) :
    Calls Try.prog 90 #[.slice A0 l0.length c0, .int .i64 a1] w fun e w' => e = .returned (.int .i64 r) ∧ Drawn0 w w' := by
  have HR0 := zm hr0; have HC0 := zm hc0; clear hr0 hc0; have H : (if a1 < (l0.length : Int) then (if 0 ≤ a1 then (some (rd l0 a1)) else (none)) else (some 0)) = some r := h; clear h
  by_cases c3 : a1 < (l0.length : Int)
  · rw [if_pos c3] at H
    have c3b0 : decide (a1 < (l0.length : Int)) = true := decide_eq_true c3; clear c3
    by_cases c4 : 0 ≤ a1
    · rw [if_pos c4] at H
      have c4b0 : decide (0 ≤ a1) = true := decide_eq_true c4; clear c4; obtain rfl := Option.some.inj H; have p551 : 0 ≤ (a1 : Int) := of_decide_eq_true (by first | (with_reducible assumption) | assumption); have q551 : a1 < (l0.length : Int) := of_decide_eq_true (by first | (with_reducible assumption) | assumption); obtain ⟨ad551, e551, hx551_0⟩ := Kd.at_int HR0.out a1 p551 q551; cases e551; replace p551 := eq_true p551; replace q551 := eq_true q551; go_enter Try.func90, Try.ntmps90
      go_wp2
      go_ret
      exact ⟨by first | rfl | (simp; done) | (simp [*]; done), by repeat (first | exact Drawn0.refl _ | apply Drawn0.step)⟩
    · rw [if_neg c4] at H
      exact absurd H (by simp)
  · rw [if_neg c3] at H
    have c3b0 : decide (a1 < (l0.length : Int)) = false := decide_eq_false c3; clear c3; obtain rfl := Option.some.inj H; go_enter Try.func90, Try.ntmps90
    go_wp2
    go_ret
    exact ⟨by first | rfl | (simp; done) | (simp [*]; done), by repeat (first | exact Drawn0.refl _ | apply Drawn0.step)⟩
end Go.Proofs.Ytdemeoncjcbojaa.Pr
end
section
namespace Go.Proofs.Ytdemeoncjcbojaa.Pr
open Go.RowKit Go.Proofs.YtdemeoncjcbojaaW.PrintWords Go.Proofs.YtdemeoncjcbojaaW.PrintLast Go.Proofs.Ytdemeoncjcbojaa.Ext Go.Proofs.YtdemeoncjcbojaaW.PrintMore
attribute [local go_sem] max2_int min2_int max_two min_two max_three min_three max_four min_four
set_option linter.unusedVariables false
set_option linter.unusedSimpArgs false
def impl_BigOk.f (a0_0 : Bool) (l0_1 : List Int) : Option (Bool) := if (l0_1.length : Int) ≤ 16 then (if (l0_1.length : Int) = 0 then (if a0_0 = true then (if (l0_1.length : Int) > 0 then (if 0 ≤ (wrap64 ((l0_1.length : Int) - 1)) then (if (wrap64 ((l0_1.length : Int) - 1)) < (l0_1.length : Int) then (if (rd l0_1 (wrap64 ((l0_1.length : Int) - 1))) = 0 then (some false) else ((containsBad.f l0_1).bind fun t0b => (some (!t0b)))) else (none)) else (none)) else (some false)) else ((containsBad.f l0_1).bind fun t0c => (some (!t0c)))) else (if (l0_1.length : Int) > 0 then (if 0 ≤ (wrap64 ((l0_1.length : Int) - 1)) then (if (wrap64 ((l0_1.length : Int) - 1)) < (l0_1.length : Int) then (if (rd l0_1 (wrap64 ((l0_1.length : Int) - 1))) = 0 then (some false) else ((containsBad.f l0_1).bind fun t0d => (some (!t0d)))) else (none)) else (none)) else (some false))) else (some false)
set_option maxHeartbeats 8000000 in
set_option maxRecDepth 100000 in
theorem impl_BigOk.calls (a0_0 : Bool) (A0_1 : Option Addr) (c0_1 : Nat) (l0_1 : List Int) (r : Bool) (w : World) (hr0_1 : Kd.C (Kd.int .i64) w A0_1 l0_1.length l0_1) (hc0_1 : l0_1.length ≤ c0_1) (h : impl_BigOk.f a0_0 l0_1 = some r) :
    Calls Try.prog 22 #[.agg #[.bool a0_0, .slice A0_1 l0_1.length c0_1]] w fun e w' => e = .returned (.bool r) ∧ Below w.heap.size w w' := by
  have hu27 := Try.underlying27; have HR0_1 := zm hr0_1; have HC0_1 := zm hc0_1; clear hr0_1 hc0_1; have HB := zm (Below.refl w.heap.size w); have H : (if (l0_1.length : Int) ≤ 16 then (if (l0_1.length : Int) = 0 then (if a0_0 = true then (if (l0_1.length : Int) > 0 then (if 0 ≤ (wrap64 ((l0_1.length : Int) - 1)) then (if (wrap64 ((l0_1.length : Int) - 1)) < (l0_1.length : Int) then (if (rd l0_1 (wrap64 ((l0_1.length : Int) - 1))) = 0 then (some false) else ((containsBad.f l0_1).bind fun t0b => (some (!t0b)))) else (none)) else (none)) else (some false)) else ((containsBad.f l0_1).bind fun t0c => (some (!t0c)))) else (if (l0_1.length : Int) > 0 then (if 0 ≤ (wrap64 ((l0_1.length : Int) - 1)) then (if (wrap64 ((l0_1.length : Int) - 1)) < (l0_1.length : Int) then (if (rd l0_1 (wrap64 ((l0_1.length : Int) - 1))) = 0 then (some false) else ((containsBad.f l0_1).bind fun t0d => (some (!t0d)))) else (none)) else (none)) else (some false))) else (some false)) = some r := h; clear h
  by_cases c2 : (l0_1.length : Int) ≤ 16
  · rw [if_pos c2] at H
    have c2b0 : decide ((l0_1.length : Int) ≤ 16) = true := decide_eq_true c2; have c2b1 : decide (l0_1.length ≤ 16) = true := decide_eq_true (by omega); clear c2
    by_cases c3 : (l0_1.length : Int) = 0
    · rw [if_pos c3] at H
      have c3b0 : ((l0_1.length : Int) == 0) = true := beq_iff_eq.mpr c3; have c3b1 : ((l0_1.length : Int) != 0) = false := bne_eq_false_iff_eq.mpr c3; clear c3
      by_cases c4 : a0_0 = true
      · subst c4
        (have H1 : (if (l0_1.length : Int) > 0 then (if 0 ≤ (wrap64 ((l0_1.length : Int) - 1)) then (if (wrap64 ((l0_1.length : Int) - 1)) < (l0_1.length : Int) then (if (rd l0_1 (wrap64 ((l0_1.length : Int) - 1))) = 0 then (some false) else ((containsBad.f l0_1).bind fun t0b => (some (!t0b)))) else (none)) else (none)) else (some false)) = some r := by rw [if_pos rfl] at H; exact H); clear H; have H := H1; clear H1
        by_cases c5 : (l0_1.length : Int) > 0
        · rw [if_pos c5] at H
          have c5b0 : decide (0 < (l0_1.length : Int)) = true := decide_eq_true c5; have c5b1 : decide (0 < l0_1.length) = true := decide_eq_true (by omega); clear c5
          obtain ⟨ji6, hji6⟩ : ∃ j_ : Int, (wrap64 ((l0_1.length : Int) - 1)) = j_ := ⟨_, rfl⟩
          (replace H : (if 0 ≤ (ji6) then (if (ji6) < (l0_1.length : Int) then (if (rd l0_1 (ji6)) = 0 then (some false) else ((containsBad.f l0_1).bind fun t0b => (some (!t0b)))) else (none)) else (none)) = some r := by first | (rw [hji6] at H; exact H) | (simp only [hji6] at H ⊢; exact H)); have hji6w : (IntKind.i64.wrap ((l0_1.length : Int) - 1)) = ji6 := (i64_w _).trans hji6
          by_cases c7 : 0 ≤ (ji6)
          · rw [if_pos c7] at H
            have c7b0 : decide (0 ≤ (ji6)) = true := decide_eq_true c7; clear c7
            by_cases c8 : (ji6) < (l0_1.length : Int)
            · rw [if_pos c8] at H
              have c8b0 : decide ((ji6) < (l0_1.length : Int)) = true := decide_eq_true c8; clear c8
              by_cases c9 : (rd l0_1 (ji6)) = 0
              · rw [if_pos c9] at H
                have c9b0 : ((rd l0_1 (ji6)) == 0) = true := beq_iff_eq.mpr c9; have c9b1 : ((rd l0_1 (ji6)) != 0) = false := bne_eq_false_iff_eq.mpr c9; clear c9; obtain rfl := Option.some.inj H; go_enter Try.func22, Try.ntmps22
                go_wp2_with (first | ((with_reducible refine gate_dst (N := 1) rfl ?_); refine box_event ?hg (N := 1) ?hd (cs := #[.bool true, .slice A0_1 l0_1.length c0_1]) (t := 27) ?hr ?_; (case hd => rfl); (case hg => rfl); (case hr => first | (go_simp; done) | (go_simp; rfl)); intro gb0a hg w10 hbox hb; have n0_ := zm (below_step zb hb); have n1_ := zm (hbox); have n2_ := zm ((by rw [hg]; exact (below_size zb) : w.heap.size ≤ gb0a)); have n3_ := zm ((by rw [hg]; exact (below_size zb) : w.heap.size ≤ gb0a)); clear HB; have HB := n0_; have BK0a := n1_; have GW0a := n2_; have GE0a := n3_; clear n0_ n1_ n2_ n3_; clear hb hbox hg; have hcz11_0 : w10.cell? ⟨gb0a, 0, none⟩ = some (.bool true) := (blk_cell BK0a.out 0).trans rfl; have hcz11_1 : w10.cell? ⟨gb0a, 1, none⟩ = some (.slice A0_1 l0_1.length c0_1) := (blk_cell BK0a.out 1).trans rfl; have hfz11_0 := blk_frozen BK0a.out 0; have hfz11_1 := blk_frozen BK0a.out 1; have p121 : 0 ≤ ((ji6) : Int) := of_decide_eq_true (by first | (with_reducible assumption) | assumption); have q121 : (ji6) < (l0_1.length : Int) := of_decide_eq_true (by first | (with_reducible assumption) | assumption); obtain ⟨ad121, e121, hx121_0⟩ := Kd.at_int HR0_1.out (ji6) p121 q121; cases e121; replace hx121_0 := (HB.out.cell (World.block_lt_of_cell? w _ hx121_0)).trans hx121_0; replace p121 := eq_true p121; replace q121 := eq_true q121))
                go_ret
                exact ⟨by first | rfl | (simp [errW_none, errW_some] <;> rfl) | (simp only [← hji6]; first | rfl | (simp [errW_none, errW_some] <;> rfl)) | (simp [*, errW_none, errW_some] <;> rfl), zb⟩
              · rw [if_neg c9] at H
                have c9b0 : ((rd l0_1 (ji6)) == 0) = false := beq_eq_false_iff_ne.mpr c9; have c9b1 : ((rd l0_1 (ji6)) != 0) = true := bne_iff_ne.mpr c9; replace H := Option.bind_eq_some_iff.mp H; obtain ⟨t0b, A0a, H⟩ := H; replace H : (some (!t0b)) = some r := H; have A12 := zm A0a; clear A0a; obtain rfl := Option.some.inj H; go_enter Try.func22, Try.ntmps22
                go_wp2_with (first | ((with_reducible refine gate_dst (N := 1) rfl ?_); refine box_event ?hg (N := 1) ?hd (cs := #[.bool true, .slice A0_1 l0_1.length c0_1]) (t := 27) ?hr ?_; (case hd => rfl); (case hg => rfl); (case hr => first | (go_simp; done) | (go_simp; rfl)); intro gb0a hg w13 hbox hb; have n0_ := zm (below_step zb hb); have n1_ := zm (hbox); have n2_ := zm ((by rw [hg]; exact (below_size zb) : w.heap.size ≤ gb0a)); have n3_ := zm ((by rw [hg]; exact (below_size zb) : w.heap.size ≤ gb0a)); clear HB; have HB := n0_; have BK0a := n1_; have GW0a := n2_; have GE0a := n3_; clear n0_ n1_ n2_ n3_; clear hb hbox hg; have hcz14_0 : w13.cell? ⟨gb0a, 0, none⟩ = some (.bool true) := (blk_cell BK0a.out 0).trans rfl; have hcz14_1 : w13.cell? ⟨gb0a, 1, none⟩ = some (.slice A0_1 l0_1.length c0_1) := (blk_cell BK0a.out 1).trans rfl; have hfz14_0 := blk_frozen BK0a.out 0; have hfz14_1 := blk_frozen BK0a.out 1; have p121 : 0 ≤ ((ji6) : Int) := of_decide_eq_true (by first | (with_reducible assumption) | assumption); have q121 : (ji6) < (l0_1.length : Int) := of_decide_eq_true (by first | (with_reducible assumption) | assumption); obtain ⟨ad121, e121, hx121_0⟩ := Kd.at_int HR0_1.out (ji6) p121 q121; cases e121; replace hx121_0 := (HB.out.cell (World.block_lt_of_cell? w _ hx121_0)).trans hx121_0; replace p121 := eq_true p121; replace q121 := eq_true q121) | (go_at_call 51; (with_reducible refine (containsBad.calls _ _ l0_1 t0b _ ?side1 ?side2 A12.out).mono ?_); (case side1 => exact zc (Kd.C_below HR0_1.out HB.out)); (case side2 => exact HC0_1.out); rintro e w' ⟨rfl, ⟨nd, rfl⟩⟩))
                go_ret
                exact ⟨by first | rfl | (simp [errW_none, errW_some] <;> rfl) | (simp only [← hji6]; first | rfl | (simp [errW_none, errW_some] <;> rfl)) | (simp [*, errW_none, errW_some] <;> rfl), zb⟩
            · rw [if_neg c8] at H
              exact absurd H (by simp)
          · rw [if_neg c7] at H
            exact absurd H (by simp)
        · rw [if_neg c5] at H
          have c5b0 : decide (0 < (l0_1.length : Int)) = false := decide_eq_false c5; have c5b1 : decide (0 < l0_1.length) = false := decide_eq_false (by omega); clear c5; obtain rfl := Option.some.inj H; go_enter Try.func22, Try.ntmps22
          go_wp2_with (first | ((with_reducible refine gate_dst (N := 1) rfl ?_); refine box_event ?hg (N := 1) ?hd (cs := #[.bool true, .slice A0_1 l0_1.length c0_1]) (t := 27) ?hr ?_; (case hd => rfl); (case hg => rfl); (case hr => first | (go_simp; done) | (go_simp; rfl)); intro gb0a hg w15 hbox hb; have n0_ := zm (below_step zb hb); have n1_ := zm (hbox); have n2_ := zm ((by rw [hg]; exact (below_size zb) : w.heap.size ≤ gb0a)); have n3_ := zm ((by rw [hg]; exact (below_size zb) : w.heap.size ≤ gb0a)); clear HB; have HB := n0_; have BK0a := n1_; have GW0a := n2_; have GE0a := n3_; clear n0_ n1_ n2_ n3_; clear hb hbox hg; have hcz16_0 : w15.cell? ⟨gb0a, 0, none⟩ = some (.bool true) := (blk_cell BK0a.out 0).trans rfl; have hcz16_1 : w15.cell? ⟨gb0a, 1, none⟩ = some (.slice A0_1 l0_1.length c0_1) := (blk_cell BK0a.out 1).trans rfl; have hfz16_0 := blk_frozen BK0a.out 0; have hfz16_1 := blk_frozen BK0a.out 1))
          go_ret
          exact ⟨by first | rfl | (simp [errW_none, errW_some] <;> rfl) | (simp [*, errW_none, errW_some] <;> rfl), zb⟩
      · replace c4 := Bool.eq_false_iff.mpr c4
        subst c4; (have H1 : ((containsBad.f l0_1).bind fun t0c => (some (!t0c))) = some r := by rw [if_neg (show ¬ (false = true) by decide)] at H; exact H); clear H; have H := H1; clear H1; replace H := Option.bind_eq_some_iff.mp H; obtain ⟨t0c, A0e, H⟩ := H; replace H : (some (!t0c)) = some r := H; have A17 := zm A0e; clear A0e; obtain rfl := Option.some.inj H; go_enter Try.func22, Try.ntmps22
        go_wp2_with (first | ((with_reducible refine gate_dst (N := 1) rfl ?_); refine box_event ?hg (N := 1) ?hd (cs := #[.bool false, .slice A0_1 l0_1.length c0_1]) (t := 27) ?hr ?_; (case hd => rfl); (case hg => rfl); (case hr => first | (go_simp; done) | (go_simp; rfl)); intro gb0a hg w18 hbox hb; have n0_ := zm (below_step zb hb); have n1_ := zm (hbox); have n2_ := zm ((by rw [hg]; exact (below_size zb) : w.heap.size ≤ gb0a)); have n3_ := zm ((by rw [hg]; exact (below_size zb) : w.heap.size ≤ gb0a)); clear HB; have HB := n0_; have BK0a := n1_; have GW0a := n2_; have GE0a := n3_; clear n0_ n1_ n2_ n3_; clear hb hbox hg; have hcz19_0 : w18.cell? ⟨gb0a, 0, none⟩ = some (.bool false) := (blk_cell BK0a.out 0).trans rfl; have hcz19_1 : w18.cell? ⟨gb0a, 1, none⟩ = some (.slice A0_1 l0_1.length c0_1) := (blk_cell BK0a.out 1).trans rfl; have hfz19_0 := blk_frozen BK0a.out 0; have hfz19_1 := blk_frozen BK0a.out 1) | (go_at_call 51; (with_reducible refine (containsBad.calls _ _ l0_1 t0c _ ?side1 ?side2 A17.out).mono ?_); (case side1 => exact zc (Kd.C_below HR0_1.out HB.out)); (case side2 => exact HC0_1.out); rintro e w' ⟨rfl, ⟨nd, rfl⟩⟩))
        go_ret
        exact ⟨by first | rfl | (simp [errW_none, errW_some] <;> rfl) | (simp [*, errW_none, errW_some] <;> rfl), zb⟩
    · rw [if_neg c3] at H
      have c3b0 : ((l0_1.length : Int) == 0) = false := beq_eq_false_iff_ne.mpr c3; have c3b1 : ((l0_1.length : Int) != 0) = true := bne_iff_ne.mpr c3; (have c3b2 : ¬ (l0_1 = []) := fun h_ => c3 (by rw [h_]; rfl))
      by_cases c20 : (l0_1.length : Int) > 0
      · rw [if_pos c20] at H
        have c20b0 : decide (0 < (l0_1.length : Int)) = true := decide_eq_true c20; have c20b1 : decide (0 < l0_1.length) = true := decide_eq_true (by omega); clear c20
        obtain ⟨ji21, hji21⟩ : ∃ j_ : Int, (wrap64 ((l0_1.length : Int) - 1)) = j_ := ⟨_, rfl⟩
        (replace H : (if 0 ≤ (ji21) then (if (ji21) < (l0_1.length : Int) then (if (rd l0_1 (ji21)) = 0 then (some false) else ((containsBad.f l0_1).bind fun t0d => (some (!t0d)))) else (none)) else (none)) = some r := by first | (rw [hji21] at H; exact H) | (simp only [hji21] at H ⊢; exact H)); have hji21w : (IntKind.i64.wrap ((l0_1.length : Int) - 1)) = ji21 := (i64_w _).trans hji21
        by_cases c22 : 0 ≤ (ji21)
        · rw [if_pos c22] at H
          have c22b0 : decide (0 ≤ (ji21)) = true := decide_eq_true c22; clear c22
          by_cases c23 : (ji21) < (l0_1.length : Int)
          · rw [if_pos c23] at H
            have c23b0 : decide ((ji21) < (l0_1.length : Int)) = true := decide_eq_true c23; clear c23
            by_cases c24 : (rd l0_1 (ji21)) = 0
            · rw [if_pos c24] at H
              have c24b0 : ((rd l0_1 (ji21)) == 0) = true := beq_iff_eq.mpr c24; have c24b1 : ((rd l0_1 (ji21)) != 0) = false := bne_eq_false_iff_eq.mpr c24; clear c24; obtain rfl := Option.some.inj H; go_enter Try.func22, Try.ntmps22
              go_wp2_with (first | ((with_reducible refine gate_dst (N := 1) rfl ?_); refine box_event ?hg (N := 1) ?hd (cs := #[.bool a0_0, .slice A0_1 l0_1.length c0_1]) (t := 27) ?hr ?_; (case hd => rfl); (case hg => rfl); (case hr => first | (go_simp; done) | (go_simp; rfl)); intro gb0a hg w25 hbox hb; have n0_ := zm (below_step zb hb); have n1_ := zm (hbox); have n2_ := zm ((by rw [hg]; exact (below_size zb) : w.heap.size ≤ gb0a)); have n3_ := zm ((by rw [hg]; exact (below_size zb) : w.heap.size ≤ gb0a)); clear HB; have HB := n0_; have BK0a := n1_; have GW0a := n2_; have GE0a := n3_; clear n0_ n1_ n2_ n3_; clear hb hbox hg; have hcz26_0 : w25.cell? ⟨gb0a, 0, none⟩ = some (.bool a0_0) := (blk_cell BK0a.out 0).trans rfl; have hcz26_1 : w25.cell? ⟨gb0a, 1, none⟩ = some (.slice A0_1 l0_1.length c0_1) := (blk_cell BK0a.out 1).trans rfl; have hfz26_0 := blk_frozen BK0a.out 0; have hfz26_1 := blk_frozen BK0a.out 1; have p124 : 0 ≤ ((ji21) : Int) := of_decide_eq_true (by first | (with_reducible assumption) | assumption); have q124 : (ji21) < (l0_1.length : Int) := of_decide_eq_true (by first | (with_reducible assumption) | assumption); obtain ⟨ad124, e124, hx124_0⟩ := Kd.at_int HR0_1.out (ji21) p124 q124; cases e124; replace hx124_0 := (HB.out.cell (World.block_lt_of_cell? w _ hx124_0)).trans hx124_0; replace p124 := eq_true p124; replace q124 := eq_true q124))
              go_ret
              exact ⟨by first | rfl | (simp [errW_none, errW_some] <;> rfl) | (simp only [← hji21]; first | rfl | (simp [errW_none, errW_some] <;> rfl)) | (simp [*, errW_none, errW_some] <;> rfl), zb⟩
            · rw [if_neg c24] at H
              have c24b0 : ((rd l0_1 (ji21)) == 0) = false := beq_eq_false_iff_ne.mpr c24; have c24b1 : ((rd l0_1 (ji21)) != 0) = true := bne_iff_ne.mpr c24; replace H := Option.bind_eq_some_iff.mp H; obtain ⟨t0d, A0f, H⟩ := H; replace H : (some (!t0d)) = some r := H; have A27 := zm A0f; clear A0f; obtain rfl := Option.some.inj H; go_enter Try.func22, Try.ntmps22
              go_wp2_with (first | ((with_reducible refine gate_dst (N := 1) rfl ?_); refine box_event ?hg (N := 1) ?hd (cs := #[.bool a0_0, .slice A0_1 l0_1.length c0_1]) (t := 27) ?hr ?_; (case hd => rfl); (case hg => rfl); (case hr => first | (go_simp; done) | (go_simp; rfl)); intro gb0a hg w28 hbox hb; have n0_ := zm (below_step zb hb); have n1_ := zm (hbox); have n2_ := zm ((by rw [hg]; exact (below_size zb) : w.heap.size ≤ gb0a)); have n3_ := zm ((by rw [hg]; exact (below_size zb) : w.heap.size ≤ gb0a)); clear HB; have HB := n0_; have BK0a := n1_; have GW0a := n2_; have GE0a := n3_; clear n0_ n1_ n2_ n3_; clear hb hbox hg; have hcz29_0 : w28.cell? ⟨gb0a, 0, none⟩ = some (.bool a0_0) := (blk_cell BK0a.out 0).trans rfl; have hcz29_1 : w28.cell? ⟨gb0a, 1, none⟩ = some (.slice A0_1 l0_1.length c0_1) := (blk_cell BK0a.out 1).trans rfl; have hfz29_0 := blk_frozen BK0a.out 0; have hfz29_1 := blk_frozen BK0a.out 1; have p124 : 0 ≤ ((ji21) : Int) := of_decide_eq_true (by first | (with_reducible assumption) | assumption); have q124 : (ji21) < (l0_1.length : Int) := of_decide_eq_true (by first | (with_reducible assumption) | assumption); obtain ⟨ad124, e124, hx124_0⟩ := Kd.at_int HR0_1.out (ji21) p124 q124; cases e124; replace hx124_0 := (HB.out.cell (World.block_lt_of_cell? w _ hx124_0)).trans hx124_0; replace p124 := eq_true p124; replace q124 := eq_true q124) | (go_at_call 51; (with_reducible refine (containsBad.calls _ _ l0_1 t0d _ ?side1 ?side2 A27.out).mono ?_); (case side1 => exact zc (Kd.C_below HR0_1.out HB.out)); (case side2 => exact HC0_1.out); rintro e w' ⟨rfl, ⟨nd, rfl⟩⟩))
              go_ret
              exact ⟨by first | rfl | (simp [errW_none, errW_some] <;> rfl) | (simp only [← hji21]; first | rfl | (simp [errW_none, errW_some] <;> rfl)) | (simp [*, errW_none, errW_some] <;> rfl), zb⟩
          · rw [if_neg c23] at H
            exact absurd H (by simp)
        · rw [if_neg c22] at H
          exact absurd H (by simp)
      · rw [if_neg c20] at H
        have c20b0 : decide (0 < (l0_1.length : Int)) = false := decide_eq_false c20; have c20b1 : decide (0 < l0_1.length) = false := decide_eq_false (by omega); clear c20; obtain rfl := Option.some.inj H; go_enter Try.func22, Try.ntmps22
        go_wp2_with (first | ((with_reducible refine gate_dst (N := 1) rfl ?_); refine box_event ?hg (N := 1) ?hd (cs := #[.bool a0_0, .slice A0_1 l0_1.length c0_1]) (t := 27) ?hr ?_; (case hd => rfl); (case hg => rfl); (case hr => first | (go_simp; done) | (go_simp; rfl)); intro gb0a hg w30 hbox hb; have n0_ := zm (below_step zb hb); have n1_ := zm (hbox); have n2_ := zm ((by rw [hg]; exact (below_size zb) : w.heap.size ≤ gb0a)); have n3_ := zm ((by rw [hg]; exact (below_size zb) : w.heap.size ≤ gb0a)); clear HB; have HB := n0_; have BK0a := n1_; have GW0a := n2_; have GE0a := n3_; clear n0_ n1_ n2_ n3_; clear hb hbox hg; have hcz31_0 : w30.cell? ⟨gb0a, 0, none⟩ = some (.bool a0_0) := (blk_cell BK0a.out 0).trans rfl; have hcz31_1 : w30.cell? ⟨gb0a, 1, none⟩ = some (.slice A0_1 l0_1.length c0_1) := (blk_cell BK0a.out 1).trans rfl; have hfz31_0 := blk_frozen BK0a.out 0; have hfz31_1 := blk_frozen BK0a.out 1))
        go_ret
        exact ⟨by first | rfl | (simp [errW_none, errW_some] <;> rfl) | (simp [*, errW_none, errW_some] <;> rfl), zb⟩
  · rw [if_neg c2] at H
    have c2b0 : decide ((l0_1.length : Int) ≤ 16) = false := decide_eq_false c2; have c2b1 : decide (l0_1.length ≤ 16) = false := decide_eq_false (by omega); clear c2; obtain rfl := Option.some.inj H; go_enter Try.func22, Try.ntmps22
    go_wp2_with (first | ((with_reducible refine gate_dst (N := 1) rfl ?_); refine box_event ?hg (N := 1) ?hd (cs := #[.bool a0_0, .slice A0_1 l0_1.length c0_1]) (t := 27) ?hr ?_; (case hd => rfl); (case hg => rfl); (case hr => first | (go_simp; done) | (go_simp; rfl)); intro gb0a hg w32 hbox hb; have n0_ := zm (below_step zb hb); have n1_ := zm (hbox); have n2_ := zm ((by rw [hg]; exact (below_size zb) : w.heap.size ≤ gb0a)); have n3_ := zm ((by rw [hg]; exact (below_size zb) : w.heap.size ≤ gb0a)); clear HB; have HB := n0_; have BK0a := n1_; have GW0a := n2_; have GE0a := n3_; clear n0_ n1_ n2_ n3_; clear hb hbox hg; have hcz33_0 : w32.cell? ⟨gb0a, 0, none⟩ = some (.bool a0_0) := (blk_cell BK0a.out 0).trans rfl; have hcz33_1 : w32.cell? ⟨gb0a, 1, none⟩ = some (.slice A0_1 l0_1.length c0_1) := (blk_cell BK0a.out 1).trans rfl; have hfz33_0 := blk_frozen BK0a.out 0; have hfz33_1 := blk_frozen BK0a.out 1))
    go_ret
    exact ⟨by first | rfl | (simp [errW_none, errW_some] <;> rfl) | (simp [*, errW_none, errW_some] <;> rfl), zb⟩
def impl_in.f (a0 : Int) (a1 : Int) (a2 : Int) : Option (Bool) := if a0 ≥ a1 then (some (decide (a0 ≤ a2))) else (some false)
def impl_bigs.f (a0_0 : Bool) (l0_1 : List Int) (a1_0 : Bool) (l1_1 : List Int) : Option (Bool) := (impl_BigOk.f a0_0 l0_1).bind fun t0i => (if t0i = true then ((impl_BigOk.f a1_0 l1_1).bind fun t0j => (some t0j)) else (some false))
set_option maxHeartbeats 8000000 in
set_option maxRecDepth 100000 in
theorem impl_bigs.calls (a0_0 : Bool) (A0_1 : Option Addr) (c0_1 : Nat) (l0_1 : List Int) (a1_0 : Bool) (A1_1 : Option Addr) (c1_1 : Nat) (l1_1 : List Int) (r : Bool) (w : World) (hr0_1 : Kd.C (Kd.int .i64) w A0_1 l0_1.length l0_1) (hc0_1 : l0_1.length ≤ c0_1) (hr1_1 : Kd.C (Kd.int .i64) w A1_1 l1_1.length l1_1) (hc1_1 : l1_1.length ≤ c1_1) (h : impl_bigs.f a0_0 l0_1 a1_0 l1_1 = some r) :
    Calls Try.prog 67 #[.agg #[.bool a0_0, .slice A0_1 l0_1.length c0_1], .agg #[.bool a1_0, .slice A1_1 l1_1.length c1_1]] w fun e w' => e = .returned (.bool r) ∧ Below w.heap.size w w' := by
  have hu27 := Try.underlying27; have HR0_1 := zm hr0_1; have HC0_1 := zm hc0_1; clear hr0_1 hc0_1; have HR1_1 := zm hr1_1; have HC1_1 := zm hc1_1; clear hr1_1 hc1_1; have HB := zm (Below.refl w.heap.size w); have H : ((impl_BigOk.f a0_0 l0_1).bind fun t0i => (if t0i = true then ((impl_BigOk.f a1_0 l1_1).bind fun t0j => (some t0j)) else (some false))) = some r := h; clear h; replace H := Option.bind_eq_some_iff.mp H; obtain ⟨t0i, A30, H⟩ := H; replace H : (if t0i = true then ((impl_BigOk.f a1_0 l1_1).bind fun t0j => (some t0j)) else (some false)) = some r := H; have A3 := zm A30; clear A30
  by_cases c4 : t0i = true
  · subst c4
    (have H1 : ((impl_BigOk.f a1_0 l1_1).bind fun t0j => (some t0j)) = some r := by rw [if_pos rfl] at H; exact H); clear H; have H := H1; clear H1; replace H := Option.bind_eq_some_iff.mp H; obtain ⟨t0j, A50, H⟩ := H; replace H : (some t0j) = some r := H; have A5 := zm A50; clear A50; obtain rfl := Option.some.inj H; go_enter Try.func67, Try.ntmps67
    go_wp2_with (first | ((with_reducible refine gate_dst (N := 2) rfl ?_); refine box_event ?hg (N := 2) ?hd (cs := #[.bool a0_0, .slice A0_1 l0_1.length c0_1]) (t := 27) ?hr ?_; (case hd => rfl); (case hg => rfl); (case hr => first | (go_simp; done) | (go_simp; rfl)); intro gb0g hg w6 hbox hb; have n0_ := zm (below_step zb hb); have n1_ := zm (hbox); have n2_ := zm ((by rw [hg]; exact (below_size zb) : w.heap.size ≤ gb0g)); have n3_ := zm ((by rw [hg]; exact (below_size zb) : w.heap.size ≤ gb0g)); clear HB; have HB := n0_; have BK0g := n1_; have GW0g := n2_; have GE0g := n3_; clear n0_ n1_ n2_ n3_; clear hb hbox hg) | ((with_reducible refine gate_dst (N := 3) rfl ?_); refine box_event ?hg (N := 3) ?hd (cs := #[.bool a1_0, .slice A1_1 l1_1.length c1_1]) (t := 27) ?hr ?_; (case hd => rfl); (case hg => rfl); (case hr => first | (go_simp; done) | (go_simp; rfl)); intro gb0h hg w7 hbox hb; have n0_ := zm (blk_below (g := gb0g) (o := .cells #[.bool a0_0, .slice A0_1 l0_1.length c0_1] 27 (0, 0)) (zk BK0g.out) hb); have n1_ := zm (below_step zb hb); have n2_ := zm (hbox); have n3_ := zm ((by rw [hg]; exact (below_size zb) : w.heap.size ≤ gb0h)); have n4_ := zm ((by rw [hg]; exact (below_size zb) : w.heap.size ≤ gb0h)); have n5_ := zm ((by rw [hg]; exact Nat.ne_of_lt (blk_lt (g := gb0g) (o := .cells #[.bool a0_0, .slice A0_1 l0_1.length c0_1] 27 (0, 0)) (zk BK0g.out)) : gb0g ≠ gb0h)); have n6_ := zm ((by rw [hg]; exact Nat.ne_of_gt (blk_lt (g := gb0g) (o := .cells #[.bool a0_0, .slice A0_1 l0_1.length c0_1] 27 (0, 0)) (zk BK0g.out)) : gb0h ≠ gb0g)); clear BK0g; clear HB; have BK0g := n0_; have HB := n1_; have BK0h := n2_; have GW0h := n3_; have GE0h := n4_; have NB0g_0h := n5_; have NB0h_0g := n6_; clear n0_ n1_ n2_ n3_ n4_ n5_ n6_; clear hb hbox hg; have hnb8 := NB0g_0h.out; have hnc8 := NB0h_0g.out; have hcz9_0 : w7.cell? ⟨gb0g, 0, none⟩ = some (.bool a0_0) := (blk_cell BK0g.out 0).trans rfl; have hcz9_1 : w7.cell? ⟨gb0g, 1, none⟩ = some (.slice A0_1 l0_1.length c0_1) := (blk_cell BK0g.out 1).trans rfl; have hfz9_0 := blk_frozen BK0g.out 0; have hfz9_1 := blk_frozen BK0g.out 1) | ((with_reducible refine gate_callee (f := 22) rfl ?_); refine goesL_ (some 6) rfl rfl Try.func22 (by kernel_rfl) rfl #[.agg #[.bool a0_0, .slice A0_1 l0_1.length c0_1]] rfl za ?_; (with_reducible refine (impl_BigOk.calls a0_0 _ _ l0_1 true _ ?side1 ?side2 A3.out).mono ?_); (case side1 => exact zc (Kd.C_below HR0_1.out HB.out)); (case side2 => exact HC0_1.out); rintro e w10 ⟨rfl, hb⟩; refine ⟨_, rfl, ?_⟩; have n0_ := zm (blk_below (g := gb0g) (o := .cells #[.bool a0_0, .slice A0_1 l0_1.length c0_1] 27 (0, 0)) (zk BK0g.out) hb); have n1_ := zm (blk_below (g := gb0h) (o := .cells #[.bool a1_0, .slice A1_1 l1_1.length c1_1] 27 (0, 0)) (zk BK0h.out) hb); have n2_ := zm (below_step zb hb); clear BK0g; clear BK0h; clear HB; have BK0g := n0_; have BK0h := n1_; have HB := n2_; clear n0_ n1_ n2_; (try clear hb); (try clear hb2); (try clear hk); (try clear hi); have hcz11_0 : w10.cell? ⟨gb0h, 0, none⟩ = some (.bool a1_0) := (blk_cell BK0h.out 0).trans rfl; have hcz11_1 : w10.cell? ⟨gb0h, 1, none⟩ = some (.slice A1_1 l1_1.length c1_1) := (blk_cell BK0h.out 1).trans rfl; have hfz11_0 := blk_frozen BK0h.out 0; have hfz11_1 := blk_frozen BK0h.out 1) | (go_at_call 22; (with_reducible refine (impl_BigOk.calls a1_0 _ _ l1_1 t0j _ ?side1 ?side2 A5.out).mono ?_); (case side1 => exact zc (Kd.C_below HR1_1.out HB.out)); (case side2 => exact HC1_1.out); rintro e w12 ⟨rfl, hb⟩; have n0_ := zm (blk_below (g := gb0g) (o := .cells #[.bool a0_0, .slice A0_1 l0_1.length c0_1] 27 (0, 0)) (zk BK0g.out) hb); have n1_ := zm (blk_below (g := gb0h) (o := .cells #[.bool a1_0, .slice A1_1 l1_1.length c1_1] 27 (0, 0)) (zk BK0h.out) hb); have n2_ := zm (below_step zb hb); clear BK0g; clear BK0h; clear HB; have BK0g := n0_; have BK0h := n1_; have HB := n2_; clear n0_ n1_ n2_; (try clear hb); (try clear hb2); (try clear hk); (try clear hi)))
    go_ret
    exact ⟨by first | rfl | (simp [errW_none, errW_some] <;> rfl) | (simp [*, errW_none, errW_some] <;> rfl), zb⟩
  · replace c4 := Bool.eq_false_iff.mpr c4
    subst c4; (have H1 : (some false) = some r := by rw [if_neg (show ¬ (false = true) by decide)] at H; exact H); clear H; have H := H1; clear H1; obtain rfl := Option.some.inj H; go_enter Try.func67, Try.ntmps67
    go_wp2_with (first | ((with_reducible refine gate_dst (N := 2) rfl ?_); refine box_event ?hg (N := 2) ?hd (cs := #[.bool a0_0, .slice A0_1 l0_1.length c0_1]) (t := 27) ?hr ?_; (case hd => rfl); (case hg => rfl); (case hr => first | (go_simp; done) | (go_simp; rfl)); intro gb0g hg w13 hbox hb; have n0_ := zm (below_step zb hb); have n1_ := zm (hbox); have n2_ := zm ((by rw [hg]; exact (below_size zb) : w.heap.size ≤ gb0g)); have n3_ := zm ((by rw [hg]; exact (below_size zb) : w.heap.size ≤ gb0g)); clear HB; have HB := n0_; have BK0g := n1_; have GW0g := n2_; have GE0g := n3_; clear n0_ n1_ n2_ n3_; clear hb hbox hg) | ((with_reducible refine gate_dst (N := 3) rfl ?_); refine box_event ?hg (N := 3) ?hd (cs := #[.bool a1_0, .slice A1_1 l1_1.length c1_1]) (t := 27) ?hr ?_; (case hd => rfl); (case hg => rfl); (case hr => first | (go_simp; done) | (go_simp; rfl)); intro gb0h hg w14 hbox hb; have n0_ := zm (blk_below (g := gb0g) (o := .cells #[.bool a0_0, .slice A0_1 l0_1.length c0_1] 27 (0, 0)) (zk BK0g.out) hb); have n1_ := zm (below_step zb hb); have n2_ := zm (hbox); have n3_ := zm ((by rw [hg]; exact (below_size zb) : w.heap.size ≤ gb0h)); have n4_ := zm ((by rw [hg]; exact (below_size zb) : w.heap.size ≤ gb0h)); have n5_ := zm ((by rw [hg]; exact Nat.ne_of_lt (blk_lt (g := gb0g) (o := .cells #[.bool a0_0, .slice A0_1 l0_1.length c0_1] 27 (0, 0)) (zk BK0g.out)) : gb0g ≠ gb0h)); have n6_ := zm ((by rw [hg]; exact Nat.ne_of_gt (blk_lt (g := gb0g) (o := .cells #[.bool a0_0, .slice A0_1 l0_1.length c0_1] 27 (0, 0)) (zk BK0g.out)) : gb0h ≠ gb0g)); clear BK0g; clear HB; have BK0g := n0_; have HB := n1_; have BK0h := n2_; have GW0h := n3_; have GE0h := n4_; have NB0g_0h := n5_; have NB0h_0g := n6_; clear n0_ n1_ n2_ n3_ n4_ n5_ n6_; clear hb hbox hg; have hnb15 := NB0g_0h.out; have hnc15 := NB0h_0g.out; have hcz16_0 : w14.cell? ⟨gb0g, 0, none⟩ = some (.bool a0_0) := (blk_cell BK0g.out 0).trans rfl; have hcz16_1 : w14.cell? ⟨gb0g, 1, none⟩ = some (.slice A0_1 l0_1.length c0_1) := (blk_cell BK0g.out 1).trans rfl; have hfz16_0 := blk_frozen BK0g.out 0; have hfz16_1 := blk_frozen BK0g.out 1) | ((with_reducible refine gate_callee (f := 22) rfl ?_); refine goesL_ (some 6) rfl rfl Try.func22 (by kernel_rfl) rfl #[.agg #[.bool a0_0, .slice A0_1 l0_1.length c0_1]] rfl za ?_; (with_reducible refine (impl_BigOk.calls a0_0 _ _ l0_1 false _ ?side1 ?side2 A3.out).mono ?_); (case side1 => exact zc (Kd.C_below HR0_1.out HB.out)); (case side2 => exact HC0_1.out); rintro e w17 ⟨rfl, hb⟩; refine ⟨_, rfl, ?_⟩; have n0_ := zm (blk_below (g := gb0g) (o := .cells #[.bool a0_0, .slice A0_1 l0_1.length c0_1] 27 (0, 0)) (zk BK0g.out) hb); have n1_ := zm (blk_below (g := gb0h) (o := .cells #[.bool a1_0, .slice A1_1 l1_1.length c1_1] 27 (0, 0)) (zk BK0h.out) hb); have n2_ := zm (below_step zb hb); clear BK0g; clear BK0h; clear HB; have BK0g := n0_; have BK0h := n1_; have HB := n2_; clear n0_ n1_ n2_; (try clear hb); (try clear hb2); (try clear hk); (try clear hi)))
    go_ret
    exact ⟨by first | rfl | (simp [errW_none, errW_some] <;> rfl) | (simp [*, errW_none, errW_some] <;> rfl), zb⟩
end Go.Proofs.Ytdemeoncjcbojaa.Pr
end
section
namespace Go.Proofs.Ytdemeoncjcbojaa.Pr
open Go.RowKit Go.Proofs.YtdemeoncjcbojaaW.PrintWords Go.Proofs.YtdemeoncjcbojaaW.PrintLast Go.Proofs.Ytdemeoncjcbojaa.Ext Go.Proofs.YtdemeoncjcbojaaW.PrintMore
attribute [local go_sem] max2_int min2_int max_two min_two max_three min_three max_four min_four
set_option linter.unusedVariables false
set_option linter.unusedSimpArgs false
def spec_BigOf.l0 : Nat → Int → List Int → Int → Option (Bool × List Int)
  | 0, _, _, _ => none
  | k + 1, x0, x3, x4 => if x4 = 0 then (some (decide (x0 < 0), x3)) else (if (Int.tmod x4 10000) < 0 then (if x3.length < 17592186044416 then (spec_BigOf.l0 k x0 (x3 ++ [wrap64 (-(Int.tmod x4 10000))]) (wrap64 (Int.tdiv x4 10000))) else (none)) else (if x3.length < 17592186044416 then (spec_BigOf.l0 k x0 (x3 ++ [Int.tmod x4 10000]) (wrap64 (Int.tdiv x4 10000))) else (none)))
def spec_BigOf.f (k : Nat) (a0 : Int) : Option (Bool × List Int) := spec_BigOf.l0 k a0 (([] : List Int)) a0
mutual
def spec_l1TenAbs.l0 : Nat → Int → List Int → Option (List Int)
  | 0, _, _ => none
  | k + 1, x0, x3 => if x0 ≥ 4 then (if x3.length < 17592186044416 then (spec_l1TenAbs.l0 k (wrap64 (x0 - 4)) (x3 ++ [0])) else (none)) else (spec_l1TenAbs.l1 k x0 x3 1)
def spec_l1TenAbs.l1 : Nat → Int → List Int → Int → Option (List Int)
  | 0, _, _, _ => none
  | k + 1, x0, x3, x4 => if x0 > 0 then (spec_l1TenAbs.l1 k (wrap64 (x0 - 1)) x3 (wrap64 (x4 * 10))) else (if x3.length < 17592186044416 then (some (x3 ++ [x4])) else (none))
end
def spec_l1TenAbs.f (k : Nat) (a0 : Int) : Option (List Int) := spec_l1TenAbs.l0 k a0 (([] : List Int))
def spec_BigTen.f (k : Nat) (a0 : Int) : Option (Bool × List Int × Bool) := (spec_l1In.f a0 0 63).bind fun t0a => (if t0a = true then ((spec_l1TenAbs.f k a0).bind fun t0b => ((spec_l1Big.f k false t0b).bind fun bt0c => (some (bt0c.1, bt0c.2.1, bt0c.2.2)))) else (some (false, ([] : List Int), false)))
end Go.Proofs.Ytdemeoncjcbojaa.Pr
end
section
namespace Go.Proofs.Ytdemeoncjcbojaa.Pr
open Go.RowKit Go.Proofs.YtdemeoncjcbojaaW.PrintWords Go.Proofs.YtdemeoncjcbojaaW.PrintLast Go.Proofs.Ytdemeoncjcbojaa.Ext Go.Proofs.YtdemeoncjcbojaaW.PrintMore
attribute [local go_sem] max2_int min2_int max_two min_two max_three min_three max_four min_four
set_option linter.unusedVariables false
set_option linter.unusedSimpArgs false
def impl_limbs_trim.l0 : Nat → List Int → Option (List Int)
  | 0, _ => none
  | k + 1, x0 => if (x0.length : Int) > 0 then (if 0 ≤ (wrap64 ((x0.length : Int) - 1)) then (if (wrap64 ((x0.length : Int) - 1)) < (x0.length : Int) then (if (rd x0 (wrap64 ((x0.length : Int) - 1))) = 0 then (if (wrap64 ((x0.length : Int) - 1)) ≤ (x0.length : Int) then (impl_limbs_trim.l0 k (x0.take ((wrap64 ((x0.length : Int) - 1)) : Int).toNat)) else (none)) else (some x0)) else (none)) else (none)) else (some x0)
def impl_limbs_trim.f (k : Nat) (l0 : List Int) : Option (List Int) := impl_limbs_trim.l0 k l0
set_option maxHeartbeats 8000000 in
set_option maxRecDepth 100000 in
theorem impl_limbs_trim.calls (k : Nat) (P0_ : Nat → Prop) (A0 : Option Addr) (c0 : Nat) (l0 : List Int) (r : List Int) (w : World) (hs0 : Kd.V (Kd.int .i64) 3 w w.heap.size (fun k_ => P0_ k_) (.slice A0 l0.length c0) l0) (h : impl_limbs_trim.f k l0 = some r) :
    Calls Try.prog 82 #[.slice A0 l0.length c0] w fun e w' => ∃ v0_ : Value, e = .returned (v0_) ∧ Kd.V (Kd.int .i64) 3 w' w.heap.size (fun k_ => (P0_ k_ ∨ w.heap.size ≤ k_)) v0_ r ∧ Below w.heap.size w w' := by
  have HO0 := zm (show Kd.V (Kd.int .i64) 3 w w.heap.size (fun k_ => (P0_ k_ ∨ w.heap.size ≤ k_)) (.slice A0 l0.length c0) l0 from Kd.V_mono hs0 (fun k_ hk => .inl hk)); have HB := zm (Below.refl w.heap.size w); have H : (impl_limbs_trim.l0 k l0) = some r := h; clear h; have H' := zm H; clear H; go_enter Try.func82, Try.ntmps82
  go_wp2
  go_loopg [0] k (fun kq v0 w' => ∃ (x0_1 : List Int), Aside0 (impl_limbs_trim.l0 kq x0_1 = some r) ∧ Aside0 (kq ≤ k) ∧ Aside0 (Kd.V (Kd.int .i64) 3 w' w.heap.size (fun k_ => (P0_ k_ ∨ w.heap.size ≤ k_)) v0 x0_1) ∧ Aside0 (Below w.heap.size w w'))
  case atStart => exact ⟨(l0), H', ⟨Nat.le_refl _⟩, ⟨by (with_reducible repeat (first | apply Kd.V_alloc | apply Kd.V_drewN | apply Kd.V_drew)); exact HO0.out⟩, ⟨zb⟩⟩
  case round =>
    clear H'; obtain ⟨x0_1, HA, HK1, HO_0, HB⟩ := hrel
    cases gk with
    | zero => exact absurd HA.out (by simp [impl_limbs_trim.l0])
    | succ k1 =>
      have H := HA.out; clear HA; simp only [impl_limbs_trim.l0] at H
      by_cases c2 : (x0_1.length : Int) > 0
      · rw [if_pos c2] at H
        have c2b0 : decide (0 < (x0_1.length : Int)) = true := decide_eq_true c2; have c2b1 : decide (0 < x0_1.length) = true := decide_eq_true (by omega); clear c2
        obtain ⟨ji3, hji3⟩ : ∃ j_ : Int, (wrap64 ((x0_1.length : Int) - 1)) = j_ := ⟨_, rfl⟩
        (replace H : (if 0 ≤ (ji3) then (if (ji3) < (x0_1.length : Int) then (if (rd x0_1 (ji3)) = 0 then (if (ji3) ≤ (x0_1.length : Int) then (impl_limbs_trim.l0 k1 (x0_1.take ((ji3) : Int).toNat)) else (none)) else (some x0_1)) else (none)) else (none)) = some r := by first | (rw [hji3] at H; exact H) | (simp only [hji3] at H ⊢; exact H)); have hji3w : (IntKind.i64.wrap ((x0_1.length : Int) - 1)) = ji3 := (i64_w _).trans hji3
        by_cases c4 : 0 ≤ (ji3)
        · rw [if_pos c4] at H
          have c4b0 : decide (0 ≤ (ji3)) = true := decide_eq_true c4; clear c4
          by_cases c5 : (ji3) < (x0_1.length : Int)
          · rw [if_pos c5] at H
            have c5b0 : decide ((ji3) < (x0_1.length : Int)) = true := decide_eq_true c5; clear c5
            by_cases c6 : (rd x0_1 (ji3)) = 0
            · rw [if_pos c6] at H
              have c6b0 : ((rd x0_1 (ji3)) == 0) = true := beq_iff_eq.mpr c6; have c6b1 : ((rd x0_1 (ji3)) != 0) = false := bne_eq_false_iff_eq.mpr c6; clear c6; have c7b0 := eq_true (of_decide_eq_true (by first | (with_reducible assumption) | assumption) : 0 ≤ (ji3))
              by_cases c8 : (ji3) ≤ (x0_1.length : Int)
              · rw [if_pos c8] at H
                have c8b0 := eq_true c8; have c8b1 : decide ((ji3) ≤ (x0_1.length : Int)) = true := decide_eq_true c8; clear c8
                obtain ⟨y0b, hy160⟩ : ∃ y_ : List Int, y_ = (x0_1.take ((ji3) : Int).toNat) := ⟨_, rfl⟩
                (replace H : (impl_limbs_trim.l0 k1 y0b) = some r := by first | (rw [hy160]; with_reducible exact H) | (have H2_ := (Option.bind_some _ _).symm.trans H; rw [hy160]; with_reducible exact H2_) | (have H2_ := (Option.bind_some _ _).symm.trans H; with_reducible exact H2_) | with_reducible exact H | (rw [hy160]; exact H) | exact H); have Ny160 := zm hy160; clear hy160; have H' := zm H; clear H; obtain ⟨Ao9, co9, eo9⟩ := Kd.V_slice HO_0.out; subst eo9; have p159 : 0 ≤ ((ji3) : Int) := of_decide_eq_true (by first | (with_reducible assumption) | assumption); have q159 : (ji3) < (x0_1.length : Int) := of_decide_eq_true (by first | (with_reducible assumption) | assumption); obtain ⟨ad159, e159, hx159_0⟩ := Kd.at_int (Kd.V_reads' HO_0.out).2.2 (ji3) p159 q159; cases e159; replace p159 := eq_true p159; replace q159 := eq_true q159; have q10 : ((ji3) : Int) ≤ ((x0_1.length : Int) : Int) := of_decide_eq_true (by first | (with_reducible assumption) | assumption); obtain ⟨i010, hi010, _, hsz10, _⟩ := info_parts info3; have hroom10 : x0_1.length ≤ co9 := (Kd.V_reads' HO_0.out).2.1; have hC10 : Kd.F (Kd.int .i64) _ _ (some ad159) x0_1.length x0_1 := (Kd.V_at (base := w.heap.size) HO_0.out).2.2; have hcut10 := cut_to (P := Try.prog) 54 3 .i64 Try.underlying54 hi010 (some ad159) x0_1.length co9 (ji3) (of_decide_eq_true (by first | (with_reducible assumption) | assumption)) q10 hroom10; have hr10 := Kd.F_take (m := ((ji3) : Int).toNat) hC10 (by omega)
                have hy10 : y0b.length = ((ji3) : Int).toNat := (by rw [Ny160.out, List.length_take]; omega)
                rw [← Ny160.out] at hr10; rw [← hy10] at hcut10; have HO0c := zm (show Kd.V (Kd.int .i64) 3 _ w.heap.size _ (.slice (some ad159) y0b.length co9) y0b from Kd.V_mk (by omega) hr10); have HC164 := zm (show y0b.length ≤ co9 from by omega); clear hr10 hC10 hroom10 hi010 hsz10; have KY10 := zm hy10; clear hy10; replace q10 := eq_true q10
                go_wp2
                go_roundg k1
                case measure => have := HK1.out; omega
                case rel => exact ⟨(y0b), H', ⟨by have := HK1.out; omega⟩, ⟨by (with_reducible repeat (first | apply Kd.V_alloc | apply Kd.V_drewN | apply Kd.V_drew)); exact HO0c.out⟩, ⟨zb⟩⟩
              · rw [if_neg c8] at H
                exact absurd H (by simp)
            · rw [if_neg c6] at H
              have c6b0 : ((rd x0_1 (ji3)) == 0) = false := beq_eq_false_iff_ne.mpr c6; have c6b1 : ((rd x0_1 (ji3)) != 0) = true := bne_iff_ne.mpr c6; obtain rfl := Option.some.inj H; obtain ⟨Ao11, co11, eo11⟩ := Kd.V_slice HO_0.out; subst eo11; have p159 : 0 ≤ ((ji3) : Int) := of_decide_eq_true (by first | (with_reducible assumption) | assumption); have q159 : (ji3) < (x0_1.length : Int) := of_decide_eq_true (by first | (with_reducible assumption) | assumption); obtain ⟨ad159, e159, hx159_0⟩ := Kd.at_int (Kd.V_reads' HO_0.out).2.2 (ji3) p159 q159; cases e159; replace p159 := eq_true p159; replace q159 := eq_true q159
              go_wp2
              go_ret
              exact ⟨_, by first | rfl | (simp [errW_none, errW_some] <;> rfl) | (simp only [← hji3]; first | rfl | (simp [errW_none, errW_some] <;> rfl)) | (simp [*, errW_none, errW_some] <;> rfl), by (with_reducible repeat (first | apply Kd.V_alloc | apply Kd.V_drewN | apply Kd.V_drew)); exact HO_0.out, zb⟩
          · rw [if_neg c5] at H
            exact absurd H (by simp)
        · rw [if_neg c4] at H
          exact absurd H (by simp)
      · rw [if_neg c2] at H
        have c2b0 : decide (0 < (x0_1.length : Int)) = false := decide_eq_false c2; have c2b1 : decide (0 < x0_1.length) = false := decide_eq_false (by omega); clear c2; obtain rfl := Option.some.inj H; obtain ⟨Ao12, co12, eo12⟩ := Kd.V_slice HO_0.out; subst eo12
        go_wp2
        go_ret
        exact ⟨_, by first | rfl | (simp [errW_none, errW_some] <;> rfl) | (simp [*, errW_none, errW_some] <;> rfl), by (with_reducible repeat (first | apply Kd.V_alloc | apply Kd.V_drewN | apply Kd.V_drew)); exact HO_0.out, zb⟩
def impl_big.f (k : Nat) (a0 : Bool) (l1 : List Int) : Option (Bool × List Int × Bool) := (impl_limbs_trim.f k l1).bind fun t0e => (if (t0e.length : Int) > 16 then (some (false, ([] : List Int), false)) else (if a0 = true then ((impl_clone_int.f t0e).bind fun t0h => (some (decide (0 < t0e.length), t0h, true))) else ((impl_clone_int.f t0e).bind fun t0k => (some (false, t0k, true)))))
set_option maxHeartbeats 8000000 in
set_option maxRecDepth 100000 in
theorem impl_big.calls (k : Nat) (a0 : Bool) (P1_ : Nat → Prop) (A1 : Option Addr) (c1 : Nat) (l1 : List Int) (r1 : Bool) (r2 : List Int) (r3 : Bool) (w : World) (hs1 : Kd.V (Kd.int .i64) 3 w w.heap.size (fun k_ => P1_ k_) (.slice A1 l1.length c1) l1) (h : impl_big.f k a0 l1 = some (r1, r2, r3)) :
    Calls Try.prog 55 #[.bool a0, .slice A1 l1.length c1] w fun e w' => ∃ v1_ : Value, e = .returned (.tuple #[.agg #[.bool r1, v1_], .bool r3]) ∧ Kd.V (Kd.int .i64) 3 w' w.heap.size (fun k_ => (P1_ k_ ∨ w.heap.size ≤ k_)) v1_ r2 ∧ Below w.heap.size w w' := by
  have hu27 := Try.underlying27; have HO1 := zm (show Kd.V (Kd.int .i64) 3 w w.heap.size (fun k_ => (P1_ k_ ∨ w.heap.size ≤ k_)) (.slice A1 l1.length c1) l1 from Kd.V_mono hs1 (fun k_ hk => .inl hk)); have HB := zm (Below.refl w.heap.size w); have H : ((impl_limbs_trim.f k l1).bind fun t0e => (if (t0e.length : Int) > 16 then (some (false, ([] : List Int), false)) else (if a0 = true then ((impl_clone_int.f t0e).bind fun t0h => (some (decide (0 < t0e.length), t0h, true))) else ((impl_clone_int.f t0e).bind fun t0k => (some (false, t0k, true)))))) = some (r1, r2, r3) := h; clear h; replace H := Option.bind_eq_some_iff.mp H; obtain ⟨t0e, A30, H⟩ := H; replace H : (if (t0e.length : Int) > 16 then (some (false, ([] : List Int), false)) else (if a0 = true then ((impl_clone_int.f t0e).bind fun t0h => (some (decide (0 < t0e.length), t0h, true))) else ((impl_clone_int.f t0e).bind fun t0k => (some (false, t0k, true))))) = some (r1, r2, r3) := H; have A3 := zm A30; clear A30
  by_cases c4 : (t0e.length : Int) > 16
  · rw [if_pos c4] at H
    have c4b0 : decide (16 < (t0e.length : Int)) = true := decide_eq_true c4; have c4b1 : decide (16 < t0e.length) = true := decide_eq_true (by omega); clear c4; simp only [Option.some.injEq, Prod.mk.injEq] at H; obtain ⟨rfl, rfl, rfl⟩ := H; go_enter Try.func55, Try.ntmps55
    go_wp2_with (first | ((with_reducible refine gate_dst (N := 4) rfl ?_); (try (refine gate_guard (by rfl) ?_; dsimp only)); refine box_event ?hg (N := 4) ?hd (cs := #[.bool false, .slice none 0 0]) (t := 27) ?hr ?_; (case hd => rfl); (case hg => rfl); (case hr => first | (go_simp; done) | (go_simp; rfl)); intro gb0d hg w5 hbox hb; have n0_ := zm (Kd.V_below (Kd.V_elderB (zV HO1.out) gb0d (Nat.le_of_eq hg.symm)) hb); have n1_ := zm (below_step zb hb); have n2_ := zm (hbox); have n3_ := zm ((by rw [hg]; exact (below_size zb) : w.heap.size ≤ gb0d)); have n4_ := zm ((by rw [hg]; exact (below_size zb) : w.heap.size ≤ gb0d)); clear HO1; clear HB; have HO1 := n0_; have HB := n1_; have BK0d := n2_; have GW0d := n3_; have GE0d := n4_; clear n0_ n1_ n2_ n3_ n4_; clear hb hbox hg) | ((with_reducible refine gate_callee (f := 82) rfl ?_); refine goesL_ (some 7) rfl rfl Try.func82 (by kernel_rfl) rfl #[.slice A1 l1.length c1] rfl za ?_; (with_reducible refine (impl_limbs_trim.calls k (fun k_ => ((P1_ k_ ∨ w.heap.size ≤ k_) ∧ k_ ≠ gb0d)) _ _ l1 t0e _ ?side1 A3.out).mono ?_); (case side1 => exact HO1.out); rintro e w6 ⟨v0f, rfl, ho0, hb⟩; refine ⟨_, rfl, ?_⟩; have n0_ := zm (Kd.V_below (zV HO1.out) hb); have n1_ := zm (Kd.V_lower (Kd.V_mono (ok' := fun k_ => (P1_ k_ ∨ w.heap.size ≤ k_) ∧ k_ ≠ gb0d) ho0 (fun k_ hk_ => ⟨Or.elim hk_ (fun hs_ => hs_.1) (fun hn_ => (.inr (Nat.le_trans (below_size zb) hn_))), Or.elim hk_ (fun hs_ => hs_.2) (fun hn_ => (Kd.freshB (g := gb0d) (o := .cells #[.bool false, .slice none 0 0] 27 (0, 0)) (zk BK0d.out) k_ hn_))⟩)) (below_size zb)); have n2_ := zm (blk_below (g := gb0d) (o := .cells #[.bool false, .slice none 0 0] 27 (0, 0)) (zk BK0d.out) hb); have n3_ := zm (below_step zb hb); clear HO1; clear BK0d; clear HB; have HO1 := n0_; have HO0g := n1_; have BK0d := n2_; have HB := n3_; clear n0_ n1_ n2_ n3_; (try clear hb); (try clear hb2); (try clear hk); (try clear hi); (try clear ho0); obtain ⟨Ao7, co7, eo7⟩ := Kd.V_slice HO0g.out; subst eo7; have hcz8_0 : w6.cell? ⟨gb0d, 0, none⟩ = some (.bool false) := (blk_cell BK0d.out 0).trans rfl; have hcz8_1 : w6.cell? ⟨gb0d, 1, none⟩ = some (.slice none 0 0) := (blk_cell BK0d.out 1).trans rfl; have hfz8_0 := blk_frozen BK0d.out 0; have hfz8_1 := blk_frozen BK0d.out 1))
    (refine bodyPost_ret (results_ct rfl _ _ gb0d 27 #[.bool false, .slice none 0 0] (0, 0) _ rfl (by (with_reducible repeat (first | refine blk_drewN ?_ _ | refine blk_drew ?_ | refine blk_alloc ?_ _)); refine blk_put (cs := #[.bool false, .slice none 0 0]) ?_ 1 _ rfl; (with_reducible repeat (first | refine blk_drewN ?_ _ | refine blk_drew ?_ | refine blk_alloc ?_ _)); refine blk_put (cs := #[.bool false, .slice none 0 0]) ?_ 0 _ rfl; (with_reducible repeat (first | refine blk_drewN ?_ _ | refine blk_drew ?_ | refine blk_alloc ?_ _)); exact BK0d.out) Try.underlying27 rfl (by kernel_rfl)) rfl ?_); (exact ⟨_, by first | rfl | (simp [errW_none, errW_some] <;> rfl) | (simp [*, errW_none, errW_some] <;> rfl), Kd.V_nil _ _ _ _ _, zb⟩)
  · rw [if_neg c4] at H
    have c4b0 : decide (16 < (t0e.length : Int)) = false := decide_eq_false c4; have c4b1 : decide (16 < t0e.length) = false := decide_eq_false (by omega); clear c4
    by_cases c9 : a0 = true
    · subst c9
      (have H1 : ((impl_clone_int.f t0e).bind fun t0h => (some (decide (0 < t0e.length), t0h, true))) = some (r1, r2, r3) := by rw [if_pos rfl] at H; exact H); clear H; have H := H1; clear H1; replace H := Option.bind_eq_some_iff.mp H; obtain ⟨t0h, A0a, H⟩ := H; replace H : (some (decide (0 < t0e.length), t0h, true)) = some (r1, r2, r3) := H; have A10 := zm A0a; clear A0a; simp only [Option.some.injEq, Prod.mk.injEq] at H; obtain ⟨rfl, rfl, rfl⟩ := H; go_enter Try.func55, Try.ntmps55
      go_wp2_with (first | ((with_reducible refine gate_dst (N := 4) rfl ?_); (try (refine gate_guard (by rfl) ?_; dsimp only)); refine box_event ?hg (N := 4) ?hd (cs := #[.bool false, .slice none 0 0]) (t := 27) ?hr ?_; (case hd => rfl); (case hg => rfl); (case hr => first | (go_simp; done) | (go_simp; rfl)); intro gb0d hg w11 hbox hb; have n0_ := zm (Kd.V_below (Kd.V_elderB (zV HO1.out) gb0d (Nat.le_of_eq hg.symm)) hb); have n1_ := zm (below_step zb hb); have n2_ := zm (hbox); have n3_ := zm ((by rw [hg]; exact (below_size zb) : w.heap.size ≤ gb0d)); have n4_ := zm ((by rw [hg]; exact (below_size zb) : w.heap.size ≤ gb0d)); clear HO1; clear HB; have HO1 := n0_; have HB := n1_; have BK0d := n2_; have GW0d := n3_; have GE0d := n4_; clear n0_ n1_ n2_ n3_ n4_; clear hb hbox hg) | ((with_reducible refine gate_callee (f := 82) rfl ?_); refine goesL_ (some 7) rfl rfl Try.func82 (by kernel_rfl) rfl #[.slice A1 l1.length c1] rfl za ?_; (with_reducible refine (impl_limbs_trim.calls k (fun k_ => ((P1_ k_ ∨ w.heap.size ≤ k_) ∧ k_ ≠ gb0d)) _ _ l1 t0e _ ?side1 A3.out).mono ?_); (case side1 => exact HO1.out); rintro e w12 ⟨v0f, rfl, ho0, hb⟩; refine ⟨_, rfl, ?_⟩; have n0_ := zm (Kd.V_below (zV HO1.out) hb); have n1_ := zm (Kd.V_lower (Kd.V_mono (ok' := fun k_ => (P1_ k_ ∨ w.heap.size ≤ k_) ∧ k_ ≠ gb0d) ho0 (fun k_ hk_ => ⟨Or.elim hk_ (fun hs_ => hs_.1) (fun hn_ => (.inr (Nat.le_trans (below_size zb) hn_))), Or.elim hk_ (fun hs_ => hs_.2) (fun hn_ => (Kd.freshB (g := gb0d) (o := .cells #[.bool false, .slice none 0 0] 27 (0, 0)) (zk BK0d.out) k_ hn_))⟩)) (below_size zb)); have n2_ := zm (blk_below (g := gb0d) (o := .cells #[.bool false, .slice none 0 0] 27 (0, 0)) (zk BK0d.out) hb); have n3_ := zm (below_step zb hb); clear HO1; clear BK0d; clear HB; have HO1 := n0_; have HO0g := n1_; have BK0d := n2_; have HB := n3_; clear n0_ n1_ n2_ n3_; (try clear hb); (try clear hb2); (try clear hk); (try clear hi); (try clear ho0); obtain ⟨Ao13, co13, eo13⟩ := Kd.V_slice HO0g.out; subst eo13) | ((with_reducible refine gate_callee (f := 83) rfl ?_); refine goesL_ (some 19) rfl rfl Try.func83 (by kernel_rfl) rfl #[.slice Ao13 t0e.length co13] rfl za ?_; (with_reducible refine (impl_clone_int.calls _ _ t0e t0h _ ?side1 ?side2 A10.out).mono ?_); (case side1 => exact zc (Kd.V_reads' HO0g.out).2.2); (case side2 => exact (Kd.V_reads' HO0g.out).2.1); rintro e w14 ⟨v0i, rfl, ho0, hb⟩; refine ⟨_, rfl, ?_⟩; have n0_ := zm (Kd.V_below (zV HO1.out) hb); have n1_ := zm (Kd.V_below (zV HO0g.out) hb); have n2_ := zm (Kd.V_lower (Kd.V_mono (ok' := fun k_ => (P1_ k_ ∨ w.heap.size ≤ k_) ∧ k_ ≠ gb0d) ho0 (fun k_ hk_ => ⟨(.inr (Nat.le_trans (below_size zb) hk_)), (Kd.freshB (g := gb0d) (o := .cells #[.bool false, .slice none 0 0] 27 (0, 0)) (zk BK0d.out) k_ hk_)⟩)) (below_size zb)); have n3_ := zm (blk_below (g := gb0d) (o := .cells #[.bool false, .slice none 0 0] 27 (0, 0)) (zk BK0d.out) hb); have n4_ := zm (below_step zb hb); clear HO1; clear HO0g; clear BK0d; clear HB; have HO1 := n0_; have HO0g := n1_; have HO0j := n2_; have BK0d := n3_; have HB := n4_; clear n0_ n1_ n2_ n3_ n4_; (try clear hb); (try clear hb2); (try clear hk); (try clear hi); (try clear ho0); obtain ⟨Ao15, co15, eo15⟩ := Kd.V_slice HO0j.out; subst eo15; have hcz16_0 : w14.cell? ⟨gb0d, 0, none⟩ = some (.bool false) := (blk_cell BK0d.out 0).trans rfl; have hcz16_1 : w14.cell? ⟨gb0d, 1, none⟩ = some (.slice none 0 0) := (blk_cell BK0d.out 1).trans rfl; have hfz16_0 := blk_frozen BK0d.out 0; have hfz16_1 := blk_frozen BK0d.out 1))
      (refine bodyPost_ret (results_ct rfl _ _ gb0d 27 #[.bool (decide (0 < t0e.length)), .slice Ao15 t0h.length co15] (0, 0) _ rfl (by (with_reducible repeat (first | refine blk_drewN ?_ _ | refine blk_drew ?_ | refine blk_alloc ?_ _)); refine blk_put (cs := #[.bool (decide (0 < t0e.length)), .slice none 0 0]) ?_ 1 _ rfl; (with_reducible repeat (first | refine blk_drewN ?_ _ | refine blk_drew ?_ | refine blk_alloc ?_ _)); refine blk_put (cs := #[.bool false, .slice none 0 0]) ?_ 0 _ rfl; (with_reducible repeat (first | refine blk_drewN ?_ _ | refine blk_drew ?_ | refine blk_alloc ?_ _)); exact BK0d.out) Try.underlying27 rfl (by kernel_rfl)) rfl ?_); (exact ⟨_, by first | rfl | (simp [errW_none, errW_some] <;> rfl) | (simp [*, errW_none, errW_some] <;> rfl), by (with_reducible repeat (first | apply Kd.V_alloc | apply Kd.V_drewN | apply Kd.V_drew)); exact Kd.V_mono (Kd.V_far (p := ⟨gb0d, 1, none⟩) (Kd.V_far (p := ⟨gb0d, 0, none⟩) (Kd.V_mono HO0j.out (fun k_ hk => (⟨hk, hk.2⟩ : _ ∧ k_ ≠ gb0d))) (fun _ hk => hk.2) (.bool (decide (0 < t0e.length)))) (fun _ hk => hk.2) (.slice Ao15 t0h.length co15)) (fun _ hk => hk.1.1), zb⟩)
    · replace c9 := Bool.eq_false_iff.mpr c9
      subst c9; (have H1 : ((impl_clone_int.f t0e).bind fun t0k => (some (false, t0k, true))) = some (r1, r2, r3) := by rw [if_neg (show ¬ (false = true) by decide)] at H; exact H); clear H; have H := H1; clear H1; replace H := Option.bind_eq_some_iff.mp H; obtain ⟨t0k, A0i, H⟩ := H; replace H : (some (false, t0k, true)) = some (r1, r2, r3) := H; have A17 := zm A0i; clear A0i; simp only [Option.some.injEq, Prod.mk.injEq] at H; obtain ⟨rfl, rfl, rfl⟩ := H; go_enter Try.func55, Try.ntmps55
      go_wp2_with (first | ((with_reducible refine gate_dst (N := 4) rfl ?_); (try (refine gate_guard (by rfl) ?_; dsimp only)); refine box_event ?hg (N := 4) ?hd (cs := #[.bool false, .slice none 0 0]) (t := 27) ?hr ?_; (case hd => rfl); (case hg => rfl); (case hr => first | (go_simp; done) | (go_simp; rfl)); intro gb0d hg w18 hbox hb; have n0_ := zm (Kd.V_below (Kd.V_elderB (zV HO1.out) gb0d (Nat.le_of_eq hg.symm)) hb); have n1_ := zm (below_step zb hb); have n2_ := zm (hbox); have n3_ := zm ((by rw [hg]; exact (below_size zb) : w.heap.size ≤ gb0d)); have n4_ := zm ((by rw [hg]; exact (below_size zb) : w.heap.size ≤ gb0d)); clear HO1; clear HB; have HO1 := n0_; have HB := n1_; have BK0d := n2_; have GW0d := n3_; have GE0d := n4_; clear n0_ n1_ n2_ n3_ n4_; clear hb hbox hg) | ((with_reducible refine gate_callee (f := 82) rfl ?_); refine goesL_ (some 7) rfl rfl Try.func82 (by kernel_rfl) rfl #[.slice A1 l1.length c1] rfl za ?_; (with_reducible refine (impl_limbs_trim.calls k (fun k_ => ((P1_ k_ ∨ w.heap.size ≤ k_) ∧ k_ ≠ gb0d)) _ _ l1 t0e _ ?side1 A3.out).mono ?_); (case side1 => exact HO1.out); rintro e w19 ⟨v0f, rfl, ho0, hb⟩; refine ⟨_, rfl, ?_⟩; have n0_ := zm (Kd.V_below (zV HO1.out) hb); have n1_ := zm (Kd.V_lower (Kd.V_mono (ok' := fun k_ => (P1_ k_ ∨ w.heap.size ≤ k_) ∧ k_ ≠ gb0d) ho0 (fun k_ hk_ => ⟨Or.elim hk_ (fun hs_ => hs_.1) (fun hn_ => (.inr (Nat.le_trans (below_size zb) hn_))), Or.elim hk_ (fun hs_ => hs_.2) (fun hn_ => (Kd.freshB (g := gb0d) (o := .cells #[.bool false, .slice none 0 0] 27 (0, 0)) (zk BK0d.out) k_ hn_))⟩)) (below_size zb)); have n2_ := zm (blk_below (g := gb0d) (o := .cells #[.bool false, .slice none 0 0] 27 (0, 0)) (zk BK0d.out) hb); have n3_ := zm (below_step zb hb); clear HO1; clear BK0d; clear HB; have HO1 := n0_; have HO0g := n1_; have BK0d := n2_; have HB := n3_; clear n0_ n1_ n2_ n3_; (try clear hb); (try clear hb2); (try clear hk); (try clear hi); (try clear ho0); obtain ⟨Ao20, co20, eo20⟩ := Kd.V_slice HO0g.out; subst eo20) | ((with_reducible refine gate_callee (f := 83) rfl ?_); refine goesL_ (some 19) rfl rfl Try.func83 (by kernel_rfl) rfl #[.slice Ao20 t0e.length co20] rfl za ?_; (with_reducible refine (impl_clone_int.calls _ _ t0e t0k _ ?side1 ?side2 A17.out).mono ?_); (case side1 => exact zc (Kd.V_reads' HO0g.out).2.2); (case side2 => exact (Kd.V_reads' HO0g.out).2.1); rintro e w21 ⟨v0l, rfl, ho0, hb⟩; refine ⟨_, rfl, ?_⟩; have n0_ := zm (Kd.V_below (zV HO1.out) hb); have n1_ := zm (Kd.V_below (zV HO0g.out) hb); have n2_ := zm (Kd.V_lower (Kd.V_mono (ok' := fun k_ => (P1_ k_ ∨ w.heap.size ≤ k_) ∧ k_ ≠ gb0d) ho0 (fun k_ hk_ => ⟨(.inr (Nat.le_trans (below_size zb) hk_)), (Kd.freshB (g := gb0d) (o := .cells #[.bool false, .slice none 0 0] 27 (0, 0)) (zk BK0d.out) k_ hk_)⟩)) (below_size zb)); have n3_ := zm (blk_below (g := gb0d) (o := .cells #[.bool false, .slice none 0 0] 27 (0, 0)) (zk BK0d.out) hb); have n4_ := zm (below_step zb hb); clear HO1; clear HO0g; clear BK0d; clear HB; have HO1 := n0_; have HO0g := n1_; have HO0m := n2_; have BK0d := n3_; have HB := n4_; clear n0_ n1_ n2_ n3_ n4_; (try clear hb); (try clear hb2); (try clear hk); (try clear hi); (try clear ho0); obtain ⟨Ao22, co22, eo22⟩ := Kd.V_slice HO0m.out; subst eo22; have hcz23_0 : w21.cell? ⟨gb0d, 0, none⟩ = some (.bool false) := (blk_cell BK0d.out 0).trans rfl; have hcz23_1 : w21.cell? ⟨gb0d, 1, none⟩ = some (.slice none 0 0) := (blk_cell BK0d.out 1).trans rfl; have hfz23_0 := blk_frozen BK0d.out 0; have hfz23_1 := blk_frozen BK0d.out 1))
      (refine bodyPost_ret (results_ct rfl _ _ gb0d 27 #[.bool false, .slice Ao22 t0k.length co22] (0, 0) _ rfl (by (with_reducible repeat (first | refine blk_drewN ?_ _ | refine blk_drew ?_ | refine blk_alloc ?_ _)); refine blk_put (cs := #[.bool false, .slice none 0 0]) ?_ 1 _ rfl; (with_reducible repeat (first | refine blk_drewN ?_ _ | refine blk_drew ?_ | refine blk_alloc ?_ _)); refine blk_put (cs := #[.bool false, .slice none 0 0]) ?_ 0 _ rfl; (with_reducible repeat (first | refine blk_drewN ?_ _ | refine blk_drew ?_ | refine blk_alloc ?_ _)); exact BK0d.out) Try.underlying27 rfl (by kernel_rfl)) rfl ?_); (exact ⟨_, by first | rfl | (simp [errW_none, errW_some] <;> rfl) | (simp [*, errW_none, errW_some] <;> rfl), by (with_reducible repeat (first | apply Kd.V_alloc | apply Kd.V_drewN | apply Kd.V_drew)); exact Kd.V_mono (Kd.V_far (p := ⟨gb0d, 1, none⟩) (Kd.V_far (p := ⟨gb0d, 0, none⟩) (Kd.V_mono HO0m.out (fun k_ hk => (⟨hk, hk.2⟩ : _ ∧ k_ ≠ gb0d))) (fun _ hk => hk.2) (.bool false)) (fun _ hk => hk.2) (.slice Ao22 t0k.length co22)) (fun _ hk => hk.1.1), zb⟩)
def impl_limbsOf.l0 : Nat → Int → List Int → Option (List Int)
  | 0, _, _ => none
  | k + 1, x0, x3 => if x0 > 0 then (if x3.length < 17592186044416 then (impl_limbsOf.l0 k (IntKind.u64.wrap (Int.tdiv x0 10000)) (x3 ++ [wrap64 (Int.tmod x0 10000)])) else (none)) else (some x3)
def impl_limbsOf.f (k : Nat) (a0 : Int) : Option (List Int) := impl_limbsOf.l0 k a0 ([] : List Int)
set_option maxHeartbeats 8000000 in
set_option maxRecDepth 100000 in
theorem impl_limbsOf.calls (k : Nat) (a0 : Int) (r : List Int) (w : World) (h : impl_limbsOf.f k a0 = some r) :
    Calls Try.prog 56 #[.int .u64 a0] w fun e w' => ∃ v0_ : Value, e = .returned (v0_) ∧ Kd.R (Kd.int .i64) 3 w' w.heap.size (fun _ => True) v0_ r ∧ Below w.heap.size w w' := by
  have HB := zm (Below.refl w.heap.size w); have H : (impl_limbsOf.l0 k a0 ([] : List Int)) = some r := h; clear h; have H' := zm H; clear H; go_enter Try.func56, Try.ntmps56
  go_wp2
  go_loopg [0, 3] k (fun kq v0 v3 w' => ∃ (x0_1 : Int) (x3_1 : List Int), v0 = .int .u64 x0_1 ∧ Aside0 (impl_limbsOf.l0 kq x0_1 x3_1 = some r) ∧ Aside0 (kq ≤ k) ∧ Aside0 (Kd.R (Kd.int .i64) 3 w' w.heap.size (fun _ => True) v3 x3_1) ∧ Aside0 (Below w.heap.size w w'))
  case atStart => exact ⟨(a0), (([] : List Int)), (by first | rfl | (simp; done) | (simp [*]; done)), H', ⟨Nat.le_refl _⟩, ⟨by first | exact Kd.R_nil _ _ _ _ _ | exact Kd.N_nil _ _ _ _ _ | exact Kd.V_nil _ _ _ _ _ | exact Kd.Q_nil _ _ _ _ _ | exact Kd.S_nil _ _ _ _ _⟩, ⟨zb⟩⟩
  case round =>
    clear H'; obtain ⟨x0_1, x3_1, rfl, HA, HK1, HO_3, HB⟩ := hrel
    cases gk with
    | zero => exact absurd HA.out (by simp [impl_limbsOf.l0])
    | succ k1 =>
      have H := HA.out; clear HA; simp only [impl_limbsOf.l0] at H
      by_cases c2 : x0_1 > 0
      · rw [if_pos c2] at H
        have c2b0 : decide (0 < x0_1) = true := decide_eq_true c2; clear c2
        by_cases c3 : x3_1.length < 17592186044416
        · rw [if_pos c3] at H
          have LMc3 := zm c3; clear c3
          obtain ⟨y0n, hy175⟩ : ∃ y_ : List Int, y_ = (x3_1 ++ [wrap64 (Int.tmod x0_1 10000)]) := ⟨_, rfl⟩
          (replace H : (impl_limbsOf.l0 k1 (IntKind.u64.wrap (Int.tdiv x0_1 10000)) y0n) = some r := by first | (rw [hy175]; with_reducible exact H) | (have H2_ := (Option.bind_some _ _).symm.trans H; rw [hy175]; with_reducible exact H2_) | (have H2_ := (Option.bind_some _ _).symm.trans H; with_reducible exact H2_) | with_reducible exact H | (rw [hy175]; exact H) | exact H); have Ny175 := zm hy175; clear hy175; have H' := zm H; clear H
          go_wp2_with (first | ((with_reducible refine gate_builtin (b := .append) (xs := #[.tmp 8, .tmp 12]) rfl ?_); at_builtin; refine Kd.R_append (Kd.int .i64) (w0 := w) w.heap.size rfl (.tmp 8) (.tmp 12) 54 3 (.int .i64 0) 8 rfl Try.underlying54 info3 rfl (by decide) (by omega) u3 x3_1 (wrap64 (Int.tmod x0_1 10000)) [.int .i64 (wrap64 (Int.tmod x0_1 10000))] (fun _ => True) (fun _ => False) rfl rfl ?aP (fun _ hk => hk.elim) ?aF ?aO ?aB ?aS ?aL ?_; (case aP => exact rfl); (case aB => exact zb); (case aF => exact (fun _ _ => trivial)); (case aO => exact (zR HO_3.out)); (case aS => exact (below_size zb)); (case aL => have := LMc3.out; omega); intro v0o w4 ho hb hg hat; rw [← Ny175.out] at ho; have n0_ := zm (hb); have n1_ := zm (ho); clear HB; clear HO_3; have HB := n0_; have HO0p := n1_; clear n0_ n1_; clear ho hb hg hat))
          go_roundg k1
          case measure => have := HK1.out; omega
          case rel => exact ⟨(IntKind.u64.wrap (Int.tdiv x0_1 10000)), (y0n), (by first | rfl | (simp; done) | (simp [*]; done)), H', ⟨by have := HK1.out; omega⟩, ⟨by (with_reducible repeat (first | apply Kd.R_alloc | apply Kd.R_drewN | apply Kd.R_drew)); exact HO0p.out⟩, ⟨zb⟩⟩
        · rw [if_neg c3] at H
          exact absurd H (by simp)
      · rw [if_neg c2] at H
        have c2b0 : decide (0 < x0_1) = false := decide_eq_false c2; clear c2; obtain rfl := Option.some.inj H
        go_wp2
        go_ret
        exact ⟨_, by first | rfl | (simp [errW_none, errW_some] <;> rfl) | (simp [*, errW_none, errW_some] <;> rfl), by (with_reducible repeat (first | apply Kd.R_alloc | apply Kd.R_drewN | apply Kd.R_drew)); exact HO_3.out, zb⟩
def impl_limbs_cmp.l0 : Nat → List Int → List Int → Int → Option (Int)
  | 0, _, _, _ => none
  | k + 1, x0, x1, x5 => if x5 ≥ 0 then (if 0 ≤ x5 then (if x5 < (x0.length : Int) then (if x5 < (x1.length : Int) then (if (rd x0 x5) = (rd x1 x5) then (impl_limbs_cmp.l0 k x0 x1 (wrap64 (x5 - 1))) else (some (mx (-1) (mn 1 (wrap64 ((rd x0 x5) - (rd x1 x5))))))) else (none)) else (none)) else (none)) else (some 0)
def impl_limbs_cmp.f (k : Nat) (l0 : List Int) (l1 : List Int) : Option (Int) := if (l0.length : Int) = (l1.length : Int) then (impl_limbs_cmp.l0 k l0 l1 (wrap64 ((l0.length : Int) - 1))) else (some (mx (-1) (mn 1 (wrap64 ((l0.length : Int) - (l1.length : Int))))))
set_option maxHeartbeats 8000000 in
set_option maxRecDepth 100000 in
theorem impl_limbs_cmp.calls (k : Nat) (A0 : Option Addr) (c0 : Nat) (l0 : List Int) (A1 : Option Addr) (c1 : Nat) (l1 : List Int) (r : Int) (w : World) (hr0 : Kd.C (Kd.int .i64) w A0 l0.length l0) (hc0 : l0.length ≤ c0) (hr1 : Kd.C (Kd.int .i64) w A1 l1.length l1) (hc1 : l1.length ≤ c1) (h : impl_limbs_cmp.f k l0 l1 = some r) :
    Calls Try.prog 87 #[.slice A0 l0.length c0, .slice A1 l1.length c1] w fun e w' => e = .returned (.int .i64 r) ∧ Below w.heap.size w w' := by
  have HR0 := zm hr0; have HC0 := zm hc0; clear hr0 hc0; have HR1 := zm hr1; have HC1 := zm hc1; clear hr1 hc1; have HB := zm (Below.refl w.heap.size w); have H : (if (l0.length : Int) = (l1.length : Int) then (impl_limbs_cmp.l0 k l0 l1 (wrap64 ((l0.length : Int) - 1))) else (some (mx (-1) (mn 1 (wrap64 ((l0.length : Int) - (l1.length : Int))))))) = some r := h; clear h
  by_cases c3 : (l0.length : Int) = (l1.length : Int)
  · rw [if_pos c3] at H
    have c3b0 : ((l0.length : Int) == (l1.length : Int)) = true := beq_iff_eq.mpr c3; have c3b1 : ((l0.length : Int) != (l1.length : Int)) = false := bne_eq_false_iff_eq.mpr c3; (have c3b2 : (l0.length == l1.length) = true := by first | simpa using c3 | (simp at c3 ⊢; omega)); clear c3; have H' := zm H; clear H; go_enter Try.func87, Try.ntmps87
    go_wp2
    repeat (go_quiet (fail); try go_wp2)
    go_loopg [5] k (fun kq v5 w' => ∃ (x5_1 : Int), v5 = .int .i64 x5_1 ∧ Aside0 (impl_limbs_cmp.l0 kq l0 l1 x5_1 = some r) ∧ Aside0 (kq ≤ k) ∧ Aside0 (Below w.heap.size w w'))
    case atStart => exact ⟨(wrap64 ((l0.length : Int) - 1)), (by first | rfl | (simp; done) | (simp [*]; done)), H', ⟨Nat.le_refl _⟩, ⟨zb⟩⟩
    case round =>
      clear H'; (try clear c1); (try clear p2); (try clear c3); (try clear c3b0); (try clear c3b1); (try clear c3b2); obtain ⟨x5_1, rfl, HA, HK1, HB⟩ := hrel
      cases gk with
      | zero => exact absurd HA.out (by simp [impl_limbs_cmp.l0])
      | succ k1 =>
        have H := HA.out; clear HA; simp only [impl_limbs_cmp.l0] at H
        by_cases c4 : x5_1 ≥ 0
        · rw [if_pos c4] at H
          have c4b0 : decide (0 ≤ x5_1) = true := decide_eq_true c4; clear c4
          by_cases c5 : 0 ≤ x5_1
          · rw [if_pos c5] at H
            have c5b0 : decide (0 ≤ x5_1) = true := decide_eq_true c5; clear c5
            by_cases c6 : x5_1 < (l0.length : Int)
            · rw [if_pos c6] at H
              have c6b0 : decide (x5_1 < (l0.length : Int)) = true := decide_eq_true c6; clear c6
              by_cases c7 : x5_1 < (l1.length : Int)
              · rw [if_pos c7] at H
                have c7b0 : decide (x5_1 < (l1.length : Int)) = true := decide_eq_true c7; clear c7
                by_cases c8 : (rd l0 x5_1) = (rd l1 x5_1)
                · rw [if_pos c8] at H
                  have c8b0 : ((rd l0 x5_1) == (rd l1 x5_1)) = true := beq_iff_eq.mpr c8; have c8b1 : ((rd l0 x5_1) != (rd l1 x5_1)) = false := bne_eq_false_iff_eq.mpr c8; clear c8; have H' := zm H; clear H; have p349 : 0 ≤ (x5_1 : Int) := of_decide_eq_true (by first | (with_reducible assumption) | assumption); have q349 : x5_1 < (l0.length : Int) := of_decide_eq_true (by first | (with_reducible assumption) | assumption); obtain ⟨ad349, e349, hx349_0⟩ := Kd.at_int HR0.out x5_1 p349 q349; cases e349; replace hx349_0 := (HB.out.cell (World.block_lt_of_cell? w _ hx349_0)).trans hx349_0; replace p349 := eq_true p349; replace q349 := eq_true q349; have p350 : 0 ≤ (x5_1 : Int) := of_decide_eq_true (by first | (with_reducible assumption) | assumption); have q350 : x5_1 < (l1.length : Int) := of_decide_eq_true (by first | (with_reducible assumption) | assumption); obtain ⟨ad350, e350, hx350_0⟩ := Kd.at_int HR1.out x5_1 p350 q350; cases e350; replace hx350_0 := (HB.out.cell (World.block_lt_of_cell? w _ hx350_0)).trans hx350_0; replace p350 := eq_true p350; replace q350 := eq_true q350
                  go_wp2
                  repeat (go_quiet (fail); try go_wp2)
                  go_roundg k1
                  case measure => have := HK1.out; omega
                  case rel => exact ⟨(wrap64 (x5_1 - 1)), (by first | rfl | (simp; done) | (simp [*]; done)), H', ⟨by have := HK1.out; omega⟩, ⟨zb⟩⟩
                · rw [if_neg c8] at H
                  have c8b0 : ((rd l0 x5_1) == (rd l1 x5_1)) = false := beq_eq_false_iff_ne.mpr c8; have c8b1 : ((rd l0 x5_1) != (rd l1 x5_1)) = true := bne_iff_ne.mpr c8
                  obtain ⟨ji9, hji9⟩ : ∃ j_ : Int, (mn 1 (wrap64 ((rd l0 x5_1) - (rd l1 x5_1)))) = j_ := ⟨_, rfl⟩
                  (replace H : (some (mx (-1) (ji9))) = some r := by first | (rw [hji9] at H; exact H) | (simp only [hji9] at H ⊢; exact H)); have hji9_ : (if (wrap64 ((rd l0 x5_1) - (rd l1 x5_1))) < 1 then (wrap64 ((rd l0 x5_1) - (rd l1 x5_1))) else 1) = ji9 := hji9
                  obtain ⟨ji10, hji10⟩ : ∃ j_ : Int, (mx (-1) (ji9)) = j_ := ⟨_, rfl⟩
                  (replace H : (some ji10) = some r := by first | (rw [hji10] at H; exact H) | (simp only [hji10] at H ⊢; exact H)); have hji10_ : (if (-1) < (ji9) then (ji9) else (-1)) = ji10 := hji10; obtain rfl := Option.some.inj H; have p349 : 0 ≤ (x5_1 : Int) := of_decide_eq_true (by first | (with_reducible assumption) | assumption); have q349 : x5_1 < (l0.length : Int) := of_decide_eq_true (by first | (with_reducible assumption) | assumption); obtain ⟨ad349, e349, hx349_0⟩ := Kd.at_int HR0.out x5_1 p349 q349; cases e349; replace hx349_0 := (HB.out.cell (World.block_lt_of_cell? w _ hx349_0)).trans hx349_0; replace p349 := eq_true p349; replace q349 := eq_true q349; have p350 : 0 ≤ (x5_1 : Int) := of_decide_eq_true (by first | (with_reducible assumption) | assumption); have q350 : x5_1 < (l1.length : Int) := of_decide_eq_true (by first | (with_reducible assumption) | assumption); obtain ⟨ad350, e350, hx350_0⟩ := Kd.at_int HR1.out x5_1 p350 q350; cases e350; replace hx350_0 := (HB.out.cell (World.block_lt_of_cell? w _ hx350_0)).trans hx350_0; replace p350 := eq_true p350; replace q350 := eq_true q350; have p351 : 0 ≤ (x5_1 : Int) := of_decide_eq_true (by first | (with_reducible assumption) | assumption); have q351 : x5_1 < (l0.length : Int) := of_decide_eq_true (by first | (with_reducible assumption) | assumption); obtain ⟨ad351, e351, hx351_0⟩ := Kd.at_int HR0.out x5_1 p351 q351
                  obtain rfl : ad349 = ad351 := (by injection e351)
                  replace hx351_0 := (HB.out.cell (World.block_lt_of_cell? w _ hx351_0)).trans hx351_0; replace p351 := eq_true p351; replace q351 := eq_true q351; have p352 : 0 ≤ (x5_1 : Int) := of_decide_eq_true (by first | (with_reducible assumption) | assumption); have q352 : x5_1 < (l1.length : Int) := of_decide_eq_true (by first | (with_reducible assumption) | assumption); obtain ⟨ad352, e352, hx352_0⟩ := Kd.at_int HR1.out x5_1 p352 q352
                  obtain rfl : ad350 = ad352 := (by injection e352)
                  replace hx352_0 := (HB.out.cell (World.block_lt_of_cell? w _ hx352_0)).trans hx352_0; replace p352 := eq_true p352; replace q352 := eq_true q352
                  go_wp2
                  repeat (go_quiet (fail); try go_wp2)
                  go_ret
                  exact ⟨by first | rfl | (simp [errW_none, errW_some] <;> rfl) | (simp only [← hji9, ← hji10]; first | rfl | (simp [errW_none, errW_some] <;> rfl)) | (simp [*, errW_none, errW_some] <;> rfl), zb⟩
              · rw [if_neg c7] at H
                exact absurd H (by simp)
            · rw [if_neg c6] at H
              exact absurd H (by simp)
          · rw [if_neg c5] at H
            exact absurd H (by simp)
        · rw [if_neg c4] at H
          have c4b0 : decide (0 ≤ x5_1) = false := decide_eq_false c4; clear c4; obtain rfl := Option.some.inj H
          go_wp2
          repeat (go_quiet (fail); try go_wp2)
          go_ret
          exact ⟨by first | rfl | (simp [errW_none, errW_some] <;> rfl) | (simp [*, errW_none, errW_some] <;> rfl), zb⟩
  · rw [if_neg c3] at H
    have c3b0 : ((l0.length : Int) == (l1.length : Int)) = false := beq_eq_false_iff_ne.mpr c3; have c3b1 : ((l0.length : Int) != (l1.length : Int)) = true := bne_iff_ne.mpr c3; (have c3b2 : (l0.length == l1.length) = false := by first | simpa using c3 | (simp at c3 ⊢; omega))
    obtain ⟨ji11, hji11⟩ : ∃ j_ : Int, (mn 1 (wrap64 ((l0.length : Int) - (l1.length : Int)))) = j_ := ⟨_, rfl⟩
    (replace H : (some (mx (-1) (ji11))) = some r := by first | (rw [hji11] at H; exact H) | (simp only [hji11] at H ⊢; exact H)); (try (have hji11h : ji11 ≤ 1 := by (rw [← hji11]; unfold mn; (repeat' split) <;> omega))); (try (have hji11g : ji11 ≤ 64 := by omega)); have hji11_ : (if (wrap64 ((l0.length : Int) - (l1.length : Int))) < 1 then (wrap64 ((l0.length : Int) - (l1.length : Int))) else 1) = ji11 := hji11
    obtain ⟨ji12, hji12⟩ : ∃ j_ : Int, (mx (-1) (ji11)) = j_ := ⟨_, rfl⟩
    (replace H : (some ji12) = some r := by first | (rw [hji12] at H; exact H) | (simp only [hji12] at H ⊢; exact H)); have hji12_ : (if (-1) < (ji11) then (ji11) else (-1)) = ji12 := hji12; obtain rfl := Option.some.inj H; go_enter Try.func87, Try.ntmps87
    go_wp2
    repeat (go_quiet (fail); try go_wp2)
    go_ret
    exact ⟨by first | rfl | (simp [errW_none, errW_some] <;> rfl) | (simp only [← hji11, ← hji12]; first | rfl | (simp [errW_none, errW_some] <;> rfl)) | (simp [*, errW_none, errW_some] <;> rfl), zb⟩
end Go.Proofs.Ytdemeoncjcbojaa.Pr
end
section
namespace Go.Proofs.Ytdemeoncjcbojaa.Pr
open Go.RowKit Go.Proofs.YtdemeoncjcbojaaW.PrintWords Go.Proofs.YtdemeoncjcbojaaW.PrintLast Go.Proofs.Ytdemeoncjcbojaa.Ext Go.Proofs.YtdemeoncjcbojaaW.PrintMore
attribute [local go_sem] max2_int min2_int max_two min_two max_three min_three max_four min_four
set_option linter.unusedVariables false
set_option linter.unusedSimpArgs false
def cpy (ys xs : List Int) : List Int := ys.take (min ys.length xs.length) ++ xs.drop (min ys.length xs.length)
mutual
def impl_limbs_add.l0 : Nat → List Int → List Int → Int → Int → Option (List Int)
  | 0, _, _, _, _ => none
  | k + 1, x5, x19, x20, x21 => if x21 < x20 then (if 0 ≤ x21 then (if x21 < (x19.length : Int) then (if x21 < (x5.length : Int) then (impl_limbs_add.l0 k (x5.set (x21 : Int).toNat (wrap64 ((rd x5 x21) + (rd x19 x21)))) x19 x20 (wrap64 (x21 + 1))) else (none)) else (none)) else (none)) else (impl_limbs_add.l1 k x5 (wrap64 ((x5.length : Int) - 1)) 0)
def impl_limbs_add.l1 : Nat → List Int → Int → Int → Option (List Int)
  | 0, _, _, _ => none
  | k + 1, x5, x36, x37 => if x37 < x36 then (if 0 ≤ (wrap64 (x37 + 1)) then (if (wrap64 (x37 + 1)) < (x5.length : Int) then (if 0 ≤ x37 then (if x37 < (x5.length : Int) then ((some (x5.set ((wrap64 (x37 + 1)) : Int).toNat (wrap64 ((rd x5 (wrap64 (x37 + 1))) + (wrap64 (Int.tdiv (rd x5 x37) 10000)))) : List Int)).bind fun y0g => (impl_limbs_add.l1 k (y0g.set (x37 : Int).toNat (Int.tmod (rd y0g x37) 10000)) x36 (wrap64 (x37 + 1)))) else (none)) else (none)) else (none)) else (none)) else ((impl_limbs_trim.f k x5).bind fun t0i => (some t0i))
end
def impl_limbs_add.f (k : Nat) (l0 : List Int) (l1 : List Int) : Option (List Int) := if 0 ≤ (wrap64 ((mx (l0.length : Int) (l1.length : Int)) + 1)) then (if (wrap64 ((mx (l0.length : Int) (l1.length : Int)) + 1) : Int).toNat ≤ 35184372088832 then (impl_limbs_add.l0 k (cpy l0 (List.replicate (wrap64 ((mx (l0.length : Int) (l1.length : Int)) + 1) : Int).toNat 0)) l1 (l1.length : Int) 0) else (none)) else (none)
def impl_limbs_add.T11 : Bool × List (List Nat × List Nat) := (true, [([], []), ([], []), ([1], [1]), ([0, 2], [0, 2]), ([3], [3]), ([], []), ([], []), ([5, 6], [5, 6]), ([7], [7]), ([8], [8]), ([4, 9], [4, 9]), ([0, 2, 0, 1, 2, 3, 4, 5, 6, 7, 8, 9, 10], [0, 2]), ([11, 10, 0, 1, 2, 3, 4, 5, 6, 7, 8, 9, 10], [10, 11])])
def impl_limbs_add.B11 : List Nat := [0, 0, 2, 7, 15, 0, 0, 96, 224, 480, 1023, 2047, 4095]
theorem impl_limbs_add.tab11 : rtab .any (opsOf Try.f86 11) = impl_limbs_add.T11 := by kernel_rfl
theorem impl_limbs_add.bits11 : waitsOk impl_limbs_add.T11.2 impl_limbs_add.B11 = true := by kernel_rfl
set_option maxHeartbeats 8000000 in
set_option maxRecDepth 100000 in
theorem impl_limbs_add.calls (k : Nat) (A0 : Option Addr) (c0 : Nat) (l0 : List Int) (A1 : Option Addr) (c1 : Nat) (l1 : List Int) (r : List Int) (w : World) (hr0 : Kd.C (Kd.int .i64) w A0 l0.length l0) (hc0 : l0.length ≤ c0) (hr1 : Kd.C (Kd.int .i64) w A1 l1.length l1) (hc1 : l1.length ≤ c1) (h : impl_limbs_add.f k l0 l1 = some r) :
    Calls Try.prog 86 #[.slice A0 l0.length c0, .slice A1 l1.length c1] w fun e w' => ∃ v0_ : Value, e = .returned (v0_) ∧ Kd.V (Kd.int .i64) 3 w' w.heap.size (fun k_ => (w.heap.size ≤ k_)) v0_ r ∧ Below w.heap.size w w' := by
  have HR0 := zm hr0; have HC0 := zm hc0; clear hr0 hc0; have HR1 := zm hr1; have HC1 := zm hc1; clear hr1 hc1; have HB := zm (Below.refl w.heap.size w); have H : (if 0 ≤ (wrap64 ((mx (l0.length : Int) (l1.length : Int)) + 1)) then (if (wrap64 ((mx (l0.length : Int) (l1.length : Int)) + 1) : Int).toNat ≤ 35184372088832 then (impl_limbs_add.l0 k (cpy l0 (List.replicate (wrap64 ((mx (l0.length : Int) (l1.length : Int)) + 1) : Int).toNat 0)) l1 (l1.length : Int) 0) else (none)) else (none)) = some r := h; clear h
  obtain ⟨ji3, hji3⟩ : ∃ j_ : Int, (mx (l0.length : Int) (l1.length : Int)) = j_ := ⟨_, rfl⟩
  (replace H : (if 0 ≤ (wrap64 ((ji3) + 1)) then (if (wrap64 ((ji3) + 1) : Int).toNat ≤ 35184372088832 then (impl_limbs_add.l0 k (cpy l0 (List.replicate (wrap64 ((ji3) + 1) : Int).toNat 0)) l1 (l1.length : Int) 0) else (none)) else (none)) = some r := by first | (rw [hji3] at H; exact H) | (simp only [hji3] at H ⊢; exact H)); (try (have hji3l : 0 ≤ ji3 := by (rw [← hji3]; unfold mx; (repeat' split) <;> omega))); (try (have hji3m : 0 ≤ ji3 := by omega)); have hji3_ : (if (l0.length : Int) < (l1.length : Int) then (l1.length : Int) else (l0.length : Int)) = ji3 := hji3; (have hji3_n : (if l0.length < l1.length then (l1.length : Int) else (l0.length : Int)) = ji3 := by rw [← hji3_]; (repeat' split) <;> omega)
  obtain ⟨ji4, hji4⟩ : ∃ j_ : Int, (wrap64 ((ji3) + 1)) = j_ := ⟨_, rfl⟩
  (replace H : (if 0 ≤ (ji4) then (if (ji4 : Int).toNat ≤ 35184372088832 then (impl_limbs_add.l0 k (cpy l0 (List.replicate (ji4 : Int).toNat 0)) l1 (l1.length : Int) 0) else (none)) else (none)) = some r := by first | (rw [hji4] at H; exact H) | (simp only [hji4] at H ⊢; exact H)); have hji4w : (IntKind.i64.wrap ((ji3) + 1)) = ji4 := (i64_w _).trans hji4
  by_cases c5 : 0 ≤ (ji4)
  · rw [if_pos c5] at H
    have c5b0 := eq_true c5; have c5b1 : decide (0 ≤ (ji4)) = true := decide_eq_true c5; clear c5
    by_cases c6 : (ji4 : Int).toNat ≤ 35184372088832
    · rw [if_pos c6] at H
      have c6b0 := eq_true c6; have c6b1 : decide ((ji4 : Int).toNat ≤ 35184372088832) = true := decide_eq_true c6; clear c6
      obtain ⟨y0c, hy335⟩ : ∃ y_ : List Int, y_ = (List.replicate (ji4 : Int).toNat 0) := ⟨_, rfl⟩
      (replace H : (impl_limbs_add.l0 k (cpy l0 y0c) l1 (l1.length : Int) 0) = some r := by first | (rw [hy335]; with_reducible exact H) | (have H2_ := (Option.bind_some _ _).symm.trans H; rw [hy335]; with_reducible exact H2_) | (have H2_ := (Option.bind_some _ _).symm.trans H; with_reducible exact H2_) | with_reducible exact H | (rw [hy335]; exact H) | exact H); have Ny335 := zm hy335; clear hy335; have H' := zm H; clear H; go_enter Try.func86, Try.ntmps86
      go_wp2_with (first | ((with_reducible refine gate_dst (N := 15) rfl ?_); refine Kd.R_make (Kd.int .i64) _ 3 rfl (N := 15) rfl 54 _ _ rfl ji4 rfl rfl Try.underlying54 (.int .i64 0) 8 info3 rfl (by decide) (by omega) 0 (ok := fun _ => True) (okp := fun _ => True) rfl (fun _ hk => hk) trivial (of_decide_eq_true (by first | (with_reducible assumption) | assumption)) (Nat.le_trans (Nat.mul_le_mul_right _ (of_decide_eq_true (by first | (with_reducible assumption) | assumption) : ji4.toNat ≤ 35184372088832)) (by omega)) (Below.refl _ _) (Nat.le_refl _) ?_; intro v0d w7 ho8 hb hg_ hnew_; clear hg_ hnew_; (first | rw [← Ny335.out] at ho8 | (simp only [Int.reduceToNat] at ho8; rw [← Ny335.out] at ho8)); have n0_ := zm (Kd.R_lower (Kd.R_newM (M := fun k_ => (w.heap.size ≤ k_)) ho8 (below_size zb) (fun k_ h_ => h_)) (below_size zb)); have n1_ := zm (below_step zb hb); clear HB; have HO0e := n0_; have HB := n1_; clear n0_ n1_; clear hb ho8) | ((with_reducible refine gate_builtin (b := .copy) (xs := #[.tmp 16, .tmp 17]) rfl ?_); refine Kd.R_copy (w0 := w) (0 : Int) w.heap.size rfl (.tmp 16) (.tmp 17) 54 54 3 rfl Try.underlying54 (by rw [show (Try.prog.info? 3).map (·.size) = some 1 from by kernel_rfl]) v0d y0c l0 A0 l0.length c0 _ rfl rfl HO0e.out (Kd.C_below HR0.out HB.out) HB.out (below_size HB.out) ?_; intro w9 ho9 hb9 hg9; clear hg9 HB HO0e; have HO0e := zm ho9; have HB := zm hb9; clear ho9 hb9))
      go_loopg [21] k (fun kq v21 w' => ∃ (x5_1 : List Int) (x21_1 : Int), v21 = .int .i64 x21_1 ∧ Aside0 (impl_limbs_add.l0 kq x5_1 l1 (l1.length : Int) x21_1 = some r) ∧ Aside0 (kq ≤ k) ∧ Aside0 (Kd.R (Kd.int .i64) 3 w' w.heap.size (fun k_ => (w.heap.size ≤ k_)) v0d x5_1) ∧ Aside0 (Below w.heap.size w w'))
      case atStart => exact ⟨(cpy l0 y0c), (0), (by first | rfl | (simp; done) | (simp [*]; done)), H', ⟨Nat.le_refl _⟩, ⟨by (with_reducible repeat (first | apply Kd.R_alloc | apply Kd.R_drewN | apply Kd.R_drew)); exact Kd.R_mono HO0e.out (fun _ hk => hk.1)⟩, ⟨zb⟩⟩
      case round =>
        clear H'; (try clear c1); (try clear p2); (try clear c5); (try clear c5b0); (try clear c5b1); (try clear c6); (try clear c6b0); (try clear c6b1); (try clear p6); (try clear c8); obtain ⟨x5_1, x21_1, rfl, HA, HK1, HO_5, HB⟩ := hrel
        cases gk with
        | zero => exact absurd HA.out (by simp [impl_limbs_add.l0])
        | succ k1 =>
          have H := HA.out; clear HA; simp only [impl_limbs_add.l0] at H
          by_cases c9 : x21_1 < (l1.length : Int)
          · rw [if_pos c9] at H
            have c9b0 : decide (x21_1 < (l1.length : Int)) = true := decide_eq_true c9; clear c9
            by_cases c10 : 0 ≤ x21_1
            · rw [if_pos c10] at H
              have c10b0 : decide (0 ≤ x21_1) = true := decide_eq_true c10; clear c10
              by_cases c11 : x21_1 < (l1.length : Int)
              · rw [if_pos c11] at H
                have c11b0 : decide (x21_1 < (l1.length : Int)) = true := decide_eq_true c11; clear c11
                by_cases c12 : x21_1 < (x5_1.length : Int)
                · rw [if_pos c12] at H
                  have c12b0 : decide (x21_1 < (x5_1.length : Int)) = true := decide_eq_true c12; clear c12
                  obtain ⟨y0f, hy340⟩ : ∃ y_ : List Int, y_ = (x5_1.set (x21_1 : Int).toNat (wrap64 ((rd x5_1 x21_1) + (rd l1 x21_1)))) := ⟨_, rfl⟩
                  (replace H : (impl_limbs_add.l0 k1 y0f l1 (l1.length : Int) (wrap64 (x21_1 + 1))) = some r := by first | (rw [hy340]; with_reducible exact H) | (have H2_ := (Option.bind_some _ _).symm.trans H; rw [hy340]; with_reducible exact H2_) | (have H2_ := (Option.bind_some _ _).symm.trans H; with_reducible exact H2_) | with_reducible exact H | (rw [hy340]; exact H) | exact H); have Ny340 := zm hy340; clear hy340; have H' := zm H; clear H; have p338 : 0 ≤ (x21_1 : Int) := of_decide_eq_true (by first | (with_reducible assumption) | assumption); have q338 : x21_1 < (l1.length : Int) := of_decide_eq_true (by first | (with_reducible assumption) | assumption); obtain ⟨ad338, e338, hx338_0⟩ := Kd.at_int HR1.out x21_1 p338 q338; cases e338; replace hx338_0 := (HB.out.cell (World.block_lt_of_cell? w _ hx338_0)).trans hx338_0; replace p338 := eq_true p338; replace q338 := eq_true q338; obtain ⟨Ao14, co14, eo14⟩ := Kd.R_slice HO_5.out; subst eo14; have p339 : 0 ≤ (x21_1 : Int) := of_decide_eq_true (by first | (with_reducible assumption) | assumption); have q339 : x21_1 < (x5_1.length : Int) := of_decide_eq_true (by first | (with_reducible assumption) | assumption); obtain ⟨ad339, e339, hx339_0⟩ := Kd.at_int (Kd.R_reads' HO_5.out).2.2 x21_1 p339 q339; cases e339; replace p339 := eq_true p339; replace q339 := eq_true q339; have p13 : 0 ≤ (x21_1 : Int) := of_decide_eq_true (by first | (with_reducible assumption) | assumption); have q13 : (x21_1 : Int) < ((x5_1.length : Int) : Int) := of_decide_eq_true (by first | (with_reducible assumption) | assumption); obtain ⟨go13, co13, eo13, gb13, gl13, cl13, HG13⟩ := Kd.R_form HO_5.out (by omega); (first | cases eo13 | (injection eo13 with ea_ en_ ec_; (first | subst ea_ | (injection ea_ with ea_; subst ea_)); subst ec_; clear en_)); have GB13 := zm gb13; have GG13 := zm HG13; clear gb13 gl13 HG13; (first | simp only [add_plain] at hx339_0 | skip); obtain ⟨hx13_0, hf13_0⟩ := Kd.R_celln 0 HO_5.out (x21_1 : Int) p13 q13; replace p13 := eq_true p13; replace q13 := eq_true q13; have HP15 := Kd.R_putg HO_5.out (x21_1 : Int) (wrap64 ((rd x5_1 x21_1) + (rd l1 x21_1)))
                  go_wp2_with (first | ((with_reducible refine gate_store (t := 3) (p := 32) rfl ?_); refine store_event (t := 3) (p := 32) (v := ?vo_w16) (w1 := (wr.setCell ⟨go13, (x21_1 : Int).toNat, none⟩ (.int .i64 (wrap64 ((rd x5_1 x21_1) + (rd l1 x21_1)))))) ?hg ?ho ?hn ?hr ?_; (case ho => rfl); (case hg => rfl); (case hn => rfl); (case hr => first | (go_simp; done) | (go_simp; rfl)); intro w16 hw; have hg : wr.grownBy w16 (some go13) := (by rw [hw]; exact HP15.2); have hp_ : Kd.R (Kd.int .i64) 3 w16 w.heap.size (fun k_ => (w.heap.size ≤ k_)) (.slice (some ⟨go13, 0, none⟩) x5_1.length co14) y0f := (by rw [hw, Ny340.out]; exact HP15.1); clear HP15; have n0_ := zm (hp_); have n1_ := zm ((by rw [hw]; exact below_set (HB.out) GB13.out : Below w.heap.size w w16)); clear HO_5; clear HB; have HO_5 := n0_; have HB := n1_; clear n0_ n1_; clear hg hw hp_))
                  go_roundg k1
                  case measure => have := HK1.out; omega
                  case rel => exact ⟨(y0f), (wrap64 (x21_1 + 1)), (by first | rfl | (simp; done) | (simp [*]; done)), H', ⟨by have := HK1.out; omega⟩, ⟨by (with_reducible repeat (first | apply Kd.R_alloc | apply Kd.R_drewN | apply Kd.R_drew)); exact HO_5.out⟩, ⟨zb⟩⟩
                · rw [if_neg c12] at H
                  exact absurd H (by simp)
              · rw [if_neg c11] at H
                exact absurd H (by simp)
            · rw [if_neg c10] at H
              exact absurd H (by simp)
          · rw [if_neg c9] at H
            have c9b0 : decide (x21_1 < (l1.length : Int)) = false := decide_eq_false c9; clear c9; have H' := zm H; clear H; obtain ⟨Ao17, co17, eo17⟩ := Kd.R_slice HO_5.out; subst eo17
            go_wp2
            go_loopg [37] k1 (fun kq v37 w' => ∃ (x5_2 : List Int) (x37_2 : Int), v37 = .int .i64 x37_2 ∧ Aside0 (impl_limbs_add.l1 kq x5_2 (wrap64 ((x5_1.length : Int) - 1)) x37_2 = some r) ∧ Aside0 (kq ≤ k1) ∧ Aside0 (Kd.R (Kd.int .i64) 3 w' w.heap.size (fun k_ => (w.heap.size ≤ k_)) (.slice Ao17 x5_1.length co17) x5_2) ∧ Aside0 (Below w.heap.size w w'))
            case atStart => exact ⟨(x5_1), (0), (by first | rfl | (simp; done) | (simp [*]; done)), H', ⟨Nat.le_refl _⟩, ⟨by (with_reducible repeat (first | apply Kd.R_alloc | apply Kd.R_drewN | apply Kd.R_drew)); exact HO_5.out⟩, ⟨zb⟩⟩
            case round =>
              clear H'; (try clear c1); (try clear p1); (try clear q1); (try clear hx1); (try clear p2); (try clear p3); (try clear q3); (try clear hx3); (try clear c5); (try clear c5b0); (try clear c5b1); (try clear c6); (try clear c6b0); (try clear c6b1); (try clear p6); (try clear c8); (try clear c9); (try clear c9b0); (try clear c10); (try clear c10b0); (try clear c11); (try clear c11b0); (try clear c12); (try clear c12b0); (try clear p13); (try clear q13); (try clear hx13); (try clear hf13); (try clear hx13_0); (try clear hx338_0); (try clear hx339_0); (try clear p13); (try clear p2); (try clear p338); (try clear p339); (try clear p6); (try clear q13); (try clear q338); (try clear q339); obtain ⟨x5_2, x37_2, rfl, HA, HK2, HO_5, HB⟩ := hrel; have hl5_2 := (Kd.R_reads' HO_5.out).1; rw [hl5_2] at HO_5; (try simp only [hl5_2])
              cases gk with
              | zero => exact absurd HA.out (by simp [impl_limbs_add.l1])
              | succ k2 =>
                have H := HA.out; clear HA; simp only [impl_limbs_add.l1] at H
                by_cases c18 : x37_2 < (wrap64 ((x5_1.length : Int) - 1))
                · rw [if_pos c18] at H
                  have c18b0 : decide (x37_2 < (wrap64 ((x5_1.length : Int) - 1))) = true := decide_eq_true c18; clear c18; (try rw [hl5_2] at c18b0); (try rw [hl5_2] at c18b1)
                  obtain ⟨ji19, hji19⟩ : ∃ j_ : Int, (wrap64 (x37_2 + 1)) = j_ := ⟨_, rfl⟩
                  (replace H : (if 0 ≤ (ji19) then (if (ji19) < (x5_2.length : Int) then (if 0 ≤ x37_2 then (if x37_2 < (x5_2.length : Int) then ((some (x5_2.set ((ji19) : Int).toNat (wrap64 ((rd x5_2 (ji19)) + (wrap64 (Int.tdiv (rd x5_2 x37_2) 10000)))) : List Int)).bind fun y0g => (impl_limbs_add.l1 k2 (y0g.set (x37_2 : Int).toNat (Int.tmod (rd y0g x37_2) 10000)) (wrap64 ((x5_1.length : Int) - 1)) ji19)) else (none)) else (none)) else (none)) else (none)) = some r := by first | (rw [hji19] at H; exact H) | (simp only [hji19] at H ⊢; exact H)); have hji19w : (IntKind.i64.wrap (x37_2 + 1)) = ji19 := (i64_w _).trans hji19
                  by_cases c20 : 0 ≤ (ji19)
                  · rw [if_pos c20] at H
                    have c20b0 : decide (0 ≤ (ji19)) = true := decide_eq_true c20; clear c20
                    by_cases c21 : (ji19) < (x5_2.length : Int)
                    · rw [if_pos c21] at H
                      have c21b0 : decide ((ji19) < (x5_2.length : Int)) = true := decide_eq_true c21; clear c21
                      by_cases c22 : 0 ≤ x37_2
                      · rw [if_pos c22] at H
                        have c22b0 : decide (0 ≤ x37_2) = true := decide_eq_true c22; clear c22
                        by_cases c23 : x37_2 < (x5_2.length : Int)
                        · rw [if_pos c23] at H
                          have c23b0 : decide (x37_2 < (x5_2.length : Int)) = true := decide_eq_true c23; clear c23
                          obtain ⟨y0g, hy343⟩ : ∃ y_ : List Int, y_ = (x5_2.set ((ji19) : Int).toNat (wrap64 ((rd x5_2 (ji19)) + (wrap64 (Int.tdiv (rd x5_2 x37_2) 10000))))) := ⟨_, rfl⟩
                          (replace H : (impl_limbs_add.l1 k2 (y0g.set (x37_2 : Int).toNat (Int.tmod (rd y0g x37_2) 10000)) (wrap64 ((x5_1.length : Int) - 1)) ji19) = some r := by first | (rw [hy343]; with_reducible exact H) | (have H2_ := (Option.bind_some _ _).symm.trans H; rw [hy343]; with_reducible exact H2_) | (have H2_ := (Option.bind_some _ _).symm.trans H; with_reducible exact H2_) | with_reducible exact H | (rw [hy343]; exact H) | exact H); have Ny343 := zm hy343; clear hy343
                          obtain ⟨y0h, hy345⟩ : ∃ y_ : List Int, y_ = (y0g.set (x37_2 : Int).toNat (Int.tmod (rd y0g x37_2) 10000)) := ⟨_, rfl⟩
                          (replace H : (impl_limbs_add.l1 k2 y0h (wrap64 ((x5_1.length : Int) - 1)) ji19) = some r := by first | (rw [hy345]; with_reducible exact H) | (have H2_ := (Option.bind_some _ _).symm.trans H; rw [hy345]; with_reducible exact H2_) | (have H2_ := (Option.bind_some _ _).symm.trans H; with_reducible exact H2_) | with_reducible exact H | (rw [hy345]; exact H) | exact H); have Ny345 := zm hy345; clear hy345; have H' := zm H; clear H; (try go_wp2); have n0_ := zm (Kd.R_drew HO_5.out); have n1_ := zm (below_drew1 HB.out); clear HO_5; clear HB; have HO_5 := n0_; have HB := n1_; clear n0_ n1_; have p341 : 0 ≤ ((ji19) : Int) := of_decide_eq_true (by first | (with_reducible assumption) | assumption); have q341 : (ji19) < (x5_2.length : Int) := of_decide_eq_true (by first | (with_reducible assumption) | assumption); obtain ⟨ad341, e341, hx341_0⟩ := Kd.at_int (Kd.R_reads' HO_5.out).2.2 (ji19) p341 q341; cases e341; replace p341 := eq_true p341; replace q341 := eq_true q341; have p342 : 0 ≤ (x37_2 : Int) := of_decide_eq_true (by first | (with_reducible assumption) | assumption); have q342 : x37_2 < (x5_2.length : Int) := of_decide_eq_true (by first | (with_reducible assumption) | assumption); obtain ⟨ad342, e342, hx342_0⟩ := Kd.at_int (Kd.R_reads' HO_5.out).2.2 x37_2 p342 q342
                          obtain rfl : ad341 = ad342 := (by injection e342)
                          replace p342 := eq_true p342; replace q342 := eq_true q342; have p24 : 0 ≤ ((ji19) : Int) := of_decide_eq_true (by first | (with_reducible assumption) | assumption); have q24 : ((ji19) : Int) < ((x5_2.length : Int) : Int) := of_decide_eq_true (by first | (with_reducible assumption) | assumption); obtain ⟨go24, co24, eo24, gb24, gl24, cl24, HG24⟩ := Kd.R_form HO_5.out (by omega); (first | cases eo24 | (injection eo24 with ea_ en_ ec_; (first | subst ea_ | (injection ea_ with ea_; subst ea_)); subst ec_; clear en_)); have GB24 := zm gb24; have GG24 := zm HG24; clear gb24 gl24 HG24; (first | simp only [add_plain] at hx341_0 | skip); (first | simp only [add_plain] at hx342_0 | skip); obtain ⟨hx24_0, hf24_0⟩ := Kd.R_celln 0 HO_5.out ((ji19) : Int) p24 q24; replace p24 := eq_true p24; replace q24 := eq_true q24; have HP27 := Kd.R_putn HO_5.out ((ji19) : Int) (wrap64 ((rd x5_2 (ji19)) + (wrap64 (Int.tdiv (rd x5_2 x37_2) 10000)))); rw [← Ny343.out] at HP27; have HQ27 := zm HP27; clear HP27; (refine start_ (n := 13) (S := fun w' => w'.cell? ⟨go24, ((ji19)).toNat, none⟩ = some (.int .i64 (rd x5_2 (ji19))) ∧ w'.cell? ⟨go24, (x37_2).toNat, none⟩ = some (.int .i64 (rd x5_2 x37_2))) (ds := [12]) #[false, false, false, false, false, false, false, false, false, false, false, false, false] (by kernel_rfl) rfl rfl ⟨hx341_0, hx342_0⟩ (fun hHeld => ?_); refine with_tabW impl_limbs_add.tab11 impl_limbs_add.bits11 (fun HT_ HW_ => ?_))
                          generalize wr.drew = w26 at HO_5 HB GG24 HQ27 hf24_0 hx24_0 hx341_0 hx342_0 hHeld ⊢
                          (refine pure_ (i := 0) (N := some 40) (v := ?_) (a' := ?_) #[true, false, false, false, false, false, false, false, false, false, false, false, false] rfl rfl (any_of HT_.out (by kernel_rfl)) (fun _ _ _ h => h) (Or.inl ⟨by rfl, ?_⟩) ?_ ?_); rotate_left
                          · intro w'
                            go_simp
                            with_reducible rfl
                          rotate_left
                          · simp only [Act.put, zs, zs0, zs1, i64_w, i32_w]
                            rfl
                          (refine pure_ (i := 1) (N := some 41) (v := ?_) (a' := ?_) #[true, true, false, false, false, false, false, false, false, false, false, false, false] rfl rfl (any_of HT_.out (by kernel_rfl)) (fun _ _ _ h => h) (Or.inl ⟨by rfl, ?_⟩) ?_ ?_); rotate_left
                          · intro w'
                            go_simp
                            with_reducible rfl
                          rotate_left
                          · simp only [Act.put, zs, zs0, zs1, i64_w, i32_w]
                            rfl
                          (refine pure_ (i := 2) (N := some 42) (v := ?_) (a' := ?_) #[true, true, true, false, false, false, false, false, false, false, false, false, false] rfl rfl (any_of HT_.out (by kernel_rfl)) (fun _ _ _ h => h) (Or.inl ⟨by rfl, ?_⟩) ?_ ?_); rotate_left
                          · intro w'
                            go_simp
                            with_reducible rfl
                          rotate_left
                          · simp only [Act.put, zs, zs0, zs1, i64_w, i32_w]
                            rfl
                          (refine pure_ (i := 3) (N := some 43) (v := ?_) (a' := ?_) #[true, true, true, true, false, false, false, false, false, false, false, false, false] rfl rfl (any_of HT_.out (by kernel_rfl)) (fun _ _ _ h => h) (Or.inl ⟨by rfl, ?_⟩) ?_ ?_); rotate_left
                          · intro w'
                            go_simp
                            with_reducible rfl
                          rotate_left
                          · simp only [Act.put, zs, zs0, zs1, i64_w, i32_w]
                            rfl
                          (refine pure_ (i := 5) (N := some 45) (v := ?_) (a' := ?_) #[true, true, true, true, false, true, false, false, false, false, false, false, false] rfl rfl (any_of HT_.out (by kernel_rfl)) (fun _ _ _ h => h) (Or.inl ⟨by rfl, ?_⟩) ?_ ?_); rotate_left
                          · intro w'
                            go_simp
                            with_reducible rfl
                          rotate_left
                          · simp only [Act.put, zs, zs0, zs1, i64_w, i32_w]
                            rfl
                          (refine pure_ (i := 6) (N := some 46) (v := ?_) (a' := ?_) #[true, true, true, true, false, true, true, false, false, false, false, false, false] rfl rfl (any_of HT_.out (by kernel_rfl)) (fun _ _ _ h => h) (Or.inl ⟨by rfl, ?_⟩) ?_ ?_); rotate_left
                          · intro w'
                            go_simp
                            with_reducible rfl
                          rotate_left
                          · simp only [Act.put, zs, zs0, zs1, i64_w, i32_w]
                            rfl
                          (refine pure_ (i := 7) (N := some 47) (v := ?_) (a' := ?_) #[true, true, true, true, false, true, true, true, false, false, false, false, false] rfl rfl (any_of HT_.out (by kernel_rfl)) (fun _ _ _ h => h) (Or.inl ⟨by rfl, ?_⟩) ?_ ?_); rotate_left
                          · intro w'
                            go_simp
                            with_reducible rfl
                          rotate_left
                          · simp only [Act.put, zs, zs0, zs1, i64_w, i32_w]
                            rfl
                          (refine take_ (i := 4) (N := some 44) (v := ?_) (a' := ?_) #[true, true, true, true, true, true, true, true, false, false, false, false, false] rfl rfl (take_ofW HT_.out HW_.out (by kernel_rfl)) (fun _ _ _ h => h) (Or.inl ⟨by rfl, ?_⟩) hHeld ?_ ?_); rotate_left
                          · rintro w' ⟨s0, s1⟩
                            go_simp
                            with_reducible rfl
                          rotate_left
                          · simp only [Act.put, zs, zs0, zs1, i64_w, i32_w]
                            rfl
                          (refine take_ (i := 8) (N := some 48) (v := ?_) (a' := ?_) #[true, true, true, true, true, true, true, true, true, false, false, false, false] rfl rfl (take_ofW HT_.out HW_.out (by kernel_rfl)) (fun _ _ _ h => h) (Or.inl ⟨by rfl, ?_⟩) hHeld ?_ ?_); rotate_left
                          · rintro w' ⟨s0, s1⟩
                            go_simp
                            with_reducible rfl
                          rotate_left
                          · simp only [Act.put, zs, zs0, zs1, i64_w, i32_w]
                            rfl
                          (refine pure_ (i := 9) (N := some 49) (v := ?_) (a' := ?_) #[true, true, true, true, true, true, true, true, true, true, false, false, false] rfl rfl (any_of HT_.out (by kernel_rfl)) (fun _ _ _ h => h) (Or.inl ⟨by rfl, ?_⟩) ?_ ?_); rotate_left
                          · intro w'
                            go_simp
                            with_reducible rfl
                          rotate_left
                          · simp only [Act.put, zs, zs0, zs1, i64_w, i32_w]
                            rfl
                          (refine pure_ (i := 10) (N := some 50) (v := ?_) (a' := ?_) #[true, true, true, true, true, true, true, true, true, true, true, false, false] rfl rfl (any_of HT_.out (by kernel_rfl)) (fun _ _ _ h => h) (Or.inl ⟨by rfl, ?_⟩) ?_ ?_); rotate_left
                          · intro w'
                            go_simp
                            with_reducible rfl
                          rotate_left
                          · simp only [Act.put, zs, zs0, zs1, i64_w, i32_w]
                            rfl
                          (refine pure_ (i := 11) (N := some 51) (v := ?_) (a' := ?_) #[true, true, true, true, true, true, true, true, true, true, true, true, false] rfl rfl (any_of HT_.out (by kernel_rfl)) (fun _ _ _ h => h) (Or.inl ⟨by rfl, ?_⟩) ?_ ?_); rotate_left
                          · intro w'
                            go_simp
                            with_reducible rfl
                          rotate_left
                          · simp only [Act.put, zs, zs0, zs1, i64_w, i32_w]
                            rfl
                          (refine last_ (i := 12) (N := none) #[true, true, true, true, true, true, true, true, true, true, true, true, true] rfl rfl (one_of HT_.out (by kernel_rfl)) (by decide) (fun K hK => ?_)); (refine skip_ (w1 := ?_) (by rfl) rfl ?_ ?_); rotate_left
                          · go_simp
                            rfl
                          (refine hK.out _ _ ?_); clear hK K; (refine done_ (done_of HT_.out (by kernel_rfl)) ?_)
                          have n0_ : Aside0 (Kd.R (Kd.int .i64) 3 (w26.setCell ⟨go24, ((ji19) : Int).toNat, none⟩ (.int .i64 (wrap64 ((rd x5_2 (ji19)) + (wrap64 (Int.tdiv (rd x5_2 x37_2) 10000)))))) w.heap.size (fun k_ => (w.heap.size ≤ k_)) (.slice (some ⟨go24, 0, none⟩) x5_2.length co17) y0g) := ⟨by (with_reducible repeat (first | apply Kd.R_alloc | apply Kd.R_drewN | apply Kd.R_drew)); exact HQ27.out⟩
                          have n1_ : Aside0 (Below w.heap.size w (w26.setCell ⟨go24, ((ji19) : Int).toNat, none⟩ (.int .i64 (wrap64 ((rd x5_2 (ji19)) + (wrap64 (Int.tdiv (rd x5_2 x37_2) 10000))))))) := ⟨by repeat (first | (with_reducible first | exact HB.out | apply below_alloc | apply pw_below_drewN | apply below_drew1 | refine below_set ?_ GB24.out) | exact HB.out)⟩
                          (try clear HO_5); (try clear HB)
                          generalize (w26.setCell ⟨go24, ((ji19) : Int).toNat, none⟩ (.int .i64 (wrap64 ((rd x5_2 (ji19)) + (wrap64 (Int.tdiv (rd x5_2 x37_2) 10000)))))) = w28 at n0_ n1_ ⊢
                          have HO_5 := n0_; have HB := n1_; clear n0_ n1_; have p344 : 0 ≤ (x37_2 : Int) := of_decide_eq_true (by first | (with_reducible assumption) | assumption)
                          have q344 : x37_2 < (y0g.length : Int) := (by have h_ : (x37_2 : Int) < ((x5_2.length : Int) : Int) := of_decide_eq_true (by first | (with_reducible assumption) | assumption); first | (have e_ := (Kd.R_reads' HO_5.out).1; omega) | simpa only [Ny343.out, List.length_set] using h_)
                          have ql344 : ((x37_2 : Int) < ((x5_2.length : Int) : Int)) = True := eq_true (of_decide_eq_true (by first | (with_reducible assumption) | assumption)); obtain ⟨ad344, e344, hx344_0⟩ := Kd.at_int (Kd.R_reads' HO_5.out).2.2 x37_2 p344 q344
                          obtain rfl : (⟨go24, 0, none⟩ : Addr) = ad344 := (by injection e344)
                          (first | simp only [add_plain] at hx344_0 | simp only [add_at] at hx344_0 | simp only [Addr.add, Nat.zero_add] at hx344_0 | skip); replace p344 := eq_true p344; replace q344 := eq_true q344; have p25 : 0 ≤ (x37_2 : Int) := of_decide_eq_true (by first | (with_reducible assumption) | assumption); have q25 : (x37_2 : Int) < ((x5_2.length : Int) : Int) := of_decide_eq_true (by first | (with_reducible assumption) | assumption); obtain ⟨hx25_0, hf25_0⟩ := Kd.R_celln 0 HO_5.out (x37_2 : Int) p25 q25; replace p25 := eq_true p25; replace q25 := eq_true q25; obtain ⟨hy29_, hz29_⟩ := Kd.R_celln 0 HO_5.out (x37_2 : Int) (of_decide_eq_true (by first | (with_reducible assumption) | assumption)) (of_decide_eq_true (by first | (with_reducible assumption) | assumption)); have HP29 := Kd.R_putg HO_5.out (x37_2 : Int) (Int.tmod (rd y0g x37_2) 10000)
                          try go_wp2_with (first | ((with_reducible refine gate_store (t := 3) (p := 57) rfl ?_); refine store_event (t := 3) (p := 57) (v := ?vo_w30) (w1 := (w28.setCell ⟨go24, (x37_2 : Int).toNat, none⟩ (.int .i64 (Int.tmod (rd y0g x37_2) 10000)))) ?hg ?ho ?hn ?hr ?_; (case ho => rfl); (case hg => rfl); (case hn => rfl); (case hr => first | (go_simp; done) | (go_simp; rfl)); intro w30 hw; have hg : w28.grownBy w30 (some go24) := (by rw [hw]; exact HP29.2); have hp_ : Kd.R (Kd.int .i64) 3 w30 w.heap.size (fun k_ => (w.heap.size ≤ k_)) (.slice (some ⟨go24, 0, none⟩) x5_2.length co17) y0h := (by rw [hw, Ny345.out]; exact HP29.1); clear HP29; have n0_ := zm (hp_); have n1_ := zm ((by rw [hw]; exact below_set (HB.out) GB24.out : Below w.heap.size w w30)); clear HO_5; clear HB; have HO_5 := n0_; have HB := n1_; clear n0_ n1_; clear hg hw hp_))
                          (try simp only [← hl5_2])
                          go_roundg k2
                          case measure => have := HK1.out; have := HK2.out; omega
                          case rel => exact ⟨(y0h), (ji19), (by first | rfl | (simp; done) | (simp only [← hji19] <;> (first | rfl | simp)) | (simp [*]; done)), H', ⟨by have := HK1.out; have := HK2.out; omega⟩, ⟨by (try simp only [hl5_2]); (with_reducible repeat (first | apply Kd.R_alloc | apply Kd.R_drewN | apply Kd.R_drew)); exact HO_5.out⟩, ⟨zb⟩⟩
                        · rw [if_neg c23] at H
                          exact absurd H (by simp)
                      · rw [if_neg c22] at H
                        exact absurd H (by simp)
                    · rw [if_neg c21] at H
                      exact absurd H (by simp)
                  · rw [if_neg c20] at H
                    exact absurd H (by simp)
                · rw [if_neg c18] at H
                  have c18b0 : decide (x37_2 < (wrap64 ((x5_1.length : Int) - 1))) = false := decide_eq_false c18; clear c18; (try rw [hl5_2] at c18b0); (try rw [hl5_2] at c18b1); replace H := Option.bind_eq_some_iff.mp H; obtain ⟨t0i, A0b, H⟩ := H; replace H : (some t0i) = some r := H; have A31 := zm A0b; clear A0b; obtain rfl := Option.some.inj H
                  go_wp2_with (first | ((with_reducible refine gate_callee (f := 82) rfl ?_); refine goesL_ (some 60) rfl rfl Try.func82 (by kernel_rfl) rfl #[.slice Ao17 x5_2.length co17] rfl za ?_; (with_reducible refine (impl_limbs_trim.calls k2 (fun k_ => some k_ = (.slice Ao17 x5_2.length co17 : Value).ownBlock) _ _ x5_2 t0i _ ?side1 A31.out).mono ?_); (case side1 => exact Kd.R_V (Kd.R_tight rfl (HO_5.out))); rintro e w32 ⟨v0j, rfl, ho0, hb⟩; refine ⟨_, rfl, ?_⟩; have n0_ := zm (Kd.R_below (zR HO_5.out) hb); have n1_ := zm (Kd.V_lower (Kd.V_mono (ok' := fun k_ => (w.heap.size ≤ k_)) ho0 (fun k_ hk_ => Or.elim hk_ (fun hs_ => ((HO_5.out).1 k_ hs_.symm)) (fun hn_ => (Nat.le_trans (below_size zb) hn_)))) (below_size zb)); have n2_ := zm (below_step zb hb); clear HO_5; clear HB; have HO_5 := n0_; have HO0k := n1_; have HB := n2_; clear n0_ n1_ n2_; (try clear hb); (try clear hb2); (try clear hk); (try clear hi); (try clear ho0)))
                  go_ret
                  exact ⟨_, by first | rfl | (simp [errW_none, errW_some] <;> rfl) | (simp only [← hji3, ← hji4]; first | rfl | (simp [errW_none, errW_some] <;> rfl)) | (simp [*, errW_none, errW_some] <;> rfl), by (with_reducible repeat (first | apply Kd.V_alloc | apply Kd.V_drewN | apply Kd.V_drew)); exact HO0k.out, zb⟩
    · rw [if_neg c6] at H
      exact absurd H (by simp)
  · rw [if_neg c5] at H
    exact absurd H (by simp)
mutual
def impl_limbs_sub.l0 : Nat → List Int → List Int → Int → Int → Option (List Int)
  | 0, _, _, _, _ => none
  | k + 1, x5, x11, x12, x13 => if x13 < x12 then (if 0 ≤ x13 then (if x13 < (x11.length : Int) then (if x13 < (x5.length : Int) then (impl_limbs_sub.l0 k (x5.set (x13 : Int).toNat (wrap64 ((rd x5 x13) - (rd x11 x13)))) x11 x12 (wrap64 (x13 + 1))) else (none)) else (none)) else (none)) else (impl_limbs_sub.l1 k x5 (x5.length : Int) 0)
def impl_limbs_sub.l1 : Nat → List Int → Int → Int → Option (List Int)
  | 0, _, _, _ => none
  | k + 1, x5, x27, x28 => if x28 < x27 then (if 0 ≤ x28 then (if x28 < (x5.length : Int) then (if (rd x5 x28) < 0 then ((some (x5.set (x28 : Int).toNat (wrap64 ((rd x5 x28) + 10000)) : List Int)).bind fun y0p => (if 0 ≤ (wrap64 (x28 + 1)) then (if (wrap64 (x28 + 1)) < (x5.length : Int) then (impl_limbs_sub.l1 k (y0p.set ((wrap64 (x28 + 1)) : Int).toNat (wrap64 ((rd y0p (wrap64 (x28 + 1))) - 1))) x27 (wrap64 (x28 + 1))) else (none)) else (none))) else (impl_limbs_sub.l1 k x5 x27 (wrap64 (x28 + 1)))) else (none)) else (none)) else ((impl_limbs_trim.f k x5).bind fun t0r => (some t0r))
end
def impl_limbs_sub.f (k : Nat) (l0 : List Int) (l1 : List Int) : Option (List Int) := (clone100.f l0).bind fun t0l => (impl_limbs_sub.l0 k t0l l1 (l1.length : Int) 0)
set_option maxHeartbeats 8000000 in
set_option maxRecDepth 100000 in
theorem impl_limbs_sub.calls (k : Nat) (A0 : Option Addr) (c0 : Nat) (l0 : List Int) (A1 : Option Addr) (c1 : Nat) (l1 : List Int) (r : List Int) (w : World) (hr0 : Kd.C (Kd.int .i64) w A0 l0.length l0) (hc0 : l0.length ≤ c0) (hr1 : Kd.C (Kd.int .i64) w A1 l1.length l1) (hc1 : l1.length ≤ c1) (h : impl_limbs_sub.f k l0 l1 = some r) :
    Calls Try.prog 88 #[.slice A0 l0.length c0, .slice A1 l1.length c1] w fun e w' => ∃ v0_ : Value, e = .returned (v0_) ∧ Kd.V (Kd.int .i64) 3 w' w.heap.size (fun k_ => (w.heap.size ≤ k_)) v0_ r ∧ Below w.heap.size w w' := by
  have HR0 := zm hr0; have HC0 := zm hc0; clear hr0 hc0; have HR1 := zm hr1; have HC1 := zm hc1; clear hr1 hc1; have HB := zm (Below.refl w.heap.size w); have H : ((clone100.f l0).bind fun t0l => (impl_limbs_sub.l0 k t0l l1 (l1.length : Int) 0)) = some r := h; clear h; replace H := Option.bind_eq_some_iff.mp H; obtain ⟨t0l, A30, H⟩ := H; replace H : (impl_limbs_sub.l0 k t0l l1 (l1.length : Int) 0) = some r := H; have A3 := zm A30; clear A30; have H' := zm H; clear H; go_enter Try.func88, Try.ntmps88
  go_wp2_with (first | ((with_reducible refine gate_callee (f := 100) rfl ?_); refine goesL_ (some 10) rfl rfl Try.func100 (by kernel_rfl) rfl #[.slice A0 l0.length c0] rfl za ?_; (with_reducible refine (clone100.calls _ _ l0 t0l _ ?side1 ?side2 A3.out).mono ?_); (case side1 => exact zc (HR0.out)); (case side2 => exact HC0.out); rintro e w4 ⟨v0m, rfl, ho0, hb⟩; refine ⟨_, rfl, ?_⟩; have n0_ := zm (Kd.R_lower (Kd.R_newM (M := fun k_ => (w.heap.size ≤ k_)) ho0 (below_size zb) (fun k_ h_ => h_)) (below_size zb)); have n1_ := zm (below_step zb hb); clear HB; have HO0n := n0_; have HB := n1_; clear n0_ n1_; (try clear hb); (try clear hb2); (try clear hk); (try clear hi); (try clear ho0)))
  go_loopg [13] k (fun kq v13 w' => ∃ (x5_1 : List Int) (x13_1 : Int), v13 = .int .i64 x13_1 ∧ Aside0 (impl_limbs_sub.l0 kq x5_1 l1 (l1.length : Int) x13_1 = some r) ∧ Aside0 (kq ≤ k) ∧ Aside0 (Kd.R (Kd.int .i64) 3 w' w.heap.size (fun k_ => (w.heap.size ≤ k_)) v0m x5_1) ∧ Aside0 (Below w.heap.size w w'))
  case atStart => exact ⟨(t0l), (0), (by first | rfl | (simp; done) | (simp [*]; done)), H', ⟨Nat.le_refl _⟩, ⟨by (with_reducible repeat (first | apply Kd.R_alloc | apply Kd.R_drewN | apply Kd.R_drew)); exact Kd.R_mono HO0n.out (fun _ hk => hk.1)⟩, ⟨zb⟩⟩
  case round =>
    clear H'; (try clear c1); (try clear p2); obtain ⟨x5_1, x13_1, rfl, HA, HK1, HO_5, HB⟩ := hrel
    cases gk with
    | zero => exact absurd HA.out (by simp [impl_limbs_sub.l0])
    | succ k1 =>
      have H := HA.out; clear HA; simp only [impl_limbs_sub.l0] at H
      by_cases c5 : x13_1 < (l1.length : Int)
      · rw [if_pos c5] at H
        have c5b0 : decide (x13_1 < (l1.length : Int)) = true := decide_eq_true c5; clear c5
        by_cases c6 : 0 ≤ x13_1
        · rw [if_pos c6] at H
          have c6b0 : decide (0 ≤ x13_1) = true := decide_eq_true c6; clear c6
          by_cases c7 : x13_1 < (l1.length : Int)
          · rw [if_pos c7] at H
            have c7b0 : decide (x13_1 < (l1.length : Int)) = true := decide_eq_true c7; clear c7
            by_cases c8 : x13_1 < (x5_1.length : Int)
            · rw [if_pos c8] at H
              have c8b0 : decide (x13_1 < (x5_1.length : Int)) = true := decide_eq_true c8; clear c8
              obtain ⟨y0o, hy358⟩ : ∃ y_ : List Int, y_ = (x5_1.set (x13_1 : Int).toNat (wrap64 ((rd x5_1 x13_1) - (rd l1 x13_1)))) := ⟨_, rfl⟩
              (replace H : (impl_limbs_sub.l0 k1 y0o l1 (l1.length : Int) (wrap64 (x13_1 + 1))) = some r := by first | (rw [hy358]; with_reducible exact H) | (have H2_ := (Option.bind_some _ _).symm.trans H; rw [hy358]; with_reducible exact H2_) | (have H2_ := (Option.bind_some _ _).symm.trans H; with_reducible exact H2_) | with_reducible exact H | (rw [hy358]; exact H) | exact H); have Ny358 := zm hy358; clear hy358; have H' := zm H; clear H; have p356 : 0 ≤ (x13_1 : Int) := of_decide_eq_true (by first | (with_reducible assumption) | assumption); have q356 : x13_1 < (l1.length : Int) := of_decide_eq_true (by first | (with_reducible assumption) | assumption); obtain ⟨ad356, e356, hx356_0⟩ := Kd.at_int HR1.out x13_1 p356 q356; cases e356; replace hx356_0 := (HB.out.cell (World.block_lt_of_cell? w _ hx356_0)).trans hx356_0; replace p356 := eq_true p356; replace q356 := eq_true q356; obtain ⟨Ao10, co10, eo10⟩ := Kd.R_slice HO_5.out; subst eo10; have p357 : 0 ≤ (x13_1 : Int) := of_decide_eq_true (by first | (with_reducible assumption) | assumption); have q357 : x13_1 < (x5_1.length : Int) := of_decide_eq_true (by first | (with_reducible assumption) | assumption); obtain ⟨ad357, e357, hx357_0⟩ := Kd.at_int (Kd.R_reads' HO_5.out).2.2 x13_1 p357 q357; cases e357; replace p357 := eq_true p357; replace q357 := eq_true q357; have p9 : 0 ≤ (x13_1 : Int) := of_decide_eq_true (by first | (with_reducible assumption) | assumption); have q9 : (x13_1 : Int) < ((x5_1.length : Int) : Int) := of_decide_eq_true (by first | (with_reducible assumption) | assumption); obtain ⟨go9, co9, eo9, gb9, gl9, cl9, HG9⟩ := Kd.R_form HO_5.out (by omega); (first | cases eo9 | (injection eo9 with ea_ en_ ec_; (first | subst ea_ | (injection ea_ with ea_; subst ea_)); subst ec_; clear en_)); have GB9 := zm gb9; have GG9 := zm HG9; clear gb9 gl9 HG9; (first | simp only [add_plain] at hx357_0 | skip); obtain ⟨hx9_0, hf9_0⟩ := Kd.R_celln 0 HO_5.out (x13_1 : Int) p9 q9; replace p9 := eq_true p9; replace q9 := eq_true q9; have HP11 := Kd.R_putg HO_5.out (x13_1 : Int) (wrap64 ((rd x5_1 x13_1) - (rd l1 x13_1)))
              go_wp2_with (first | ((with_reducible refine gate_store (t := 3) (p := 24) rfl ?_); refine store_event (t := 3) (p := 24) (v := ?vo_w12) (w1 := (wr.setCell ⟨go9, (x13_1 : Int).toNat, none⟩ (.int .i64 (wrap64 ((rd x5_1 x13_1) - (rd l1 x13_1)))))) ?hg ?ho ?hn ?hr ?_; (case ho => rfl); (case hg => rfl); (case hn => rfl); (case hr => first | (go_simp; done) | (go_simp; rfl)); intro w12 hw; have hg : wr.grownBy w12 (some go9) := (by rw [hw]; exact HP11.2); have hp_ : Kd.R (Kd.int .i64) 3 w12 w.heap.size (fun k_ => (w.heap.size ≤ k_)) (.slice (some ⟨go9, 0, none⟩) x5_1.length co10) y0o := (by rw [hw, Ny358.out]; exact HP11.1); clear HP11; have n0_ := zm (hp_); have n1_ := zm ((by rw [hw]; exact below_set (HB.out) GB9.out : Below w.heap.size w w12)); clear HO_5; clear HB; have HO_5 := n0_; have HB := n1_; clear n0_ n1_; clear hg hw hp_))
              go_roundg k1
              case measure => have := HK1.out; omega
              case rel => exact ⟨(y0o), (wrap64 (x13_1 + 1)), (by first | rfl | (simp; done) | (simp [*]; done)), H', ⟨by have := HK1.out; omega⟩, ⟨by (with_reducible repeat (first | apply Kd.R_alloc | apply Kd.R_drewN | apply Kd.R_drew)); exact HO_5.out⟩, ⟨zb⟩⟩
            · rw [if_neg c8] at H
              exact absurd H (by simp)
          · rw [if_neg c7] at H
            exact absurd H (by simp)
        · rw [if_neg c6] at H
          exact absurd H (by simp)
      · rw [if_neg c5] at H
        have c5b0 : decide (x13_1 < (l1.length : Int)) = false := decide_eq_false c5; clear c5; have H' := zm H; clear H; obtain ⟨Ao13, co13, eo13⟩ := Kd.R_slice HO_5.out; subst eo13
        go_wp2
        go_loopg [28] k1 (fun kq v28 w' => ∃ (x5_2 : List Int) (x28_2 : Int), v28 = .int .i64 x28_2 ∧ Aside0 (impl_limbs_sub.l1 kq x5_2 (x5_1.length : Int) x28_2 = some r) ∧ Aside0 (kq ≤ k1) ∧ Aside0 (Kd.R (Kd.int .i64) 3 w' w.heap.size (fun k_ => (w.heap.size ≤ k_)) (.slice Ao13 x5_1.length co13) x5_2) ∧ Aside0 (Below w.heap.size w w'))
        case atStart => exact ⟨(x5_1), (0), (by first | rfl | (simp; done) | (simp [*]; done)), H', ⟨Nat.le_refl _⟩, ⟨by (with_reducible repeat (first | apply Kd.R_alloc | apply Kd.R_drewN | apply Kd.R_drew)); exact HO_5.out⟩, ⟨zb⟩⟩
        case round =>
          clear H'; (try clear c1); (try clear p2); (try clear p3); (try clear q3); (try clear hx3); (try clear c5); (try clear c5b0); (try clear c6); (try clear c6b0); (try clear p6); (try clear c7); (try clear c7b0); (try clear c8); (try clear c8b0); (try clear p9); (try clear q9); (try clear hx9); (try clear hf9); (try clear c10); (try clear hx356_0); (try clear hx357_0); (try clear hx9_0); (try clear p2); (try clear p356); (try clear p357); (try clear p9); (try clear q356); (try clear q357); (try clear q9); obtain ⟨x5_2, x28_2, rfl, HA, HK2, HO_5, HB⟩ := hrel; have hl5_2 := (Kd.R_reads' HO_5.out).1; rw [hl5_2] at HO_5; (try simp only [hl5_2])
          cases gk with
          | zero => exact absurd HA.out (by simp [impl_limbs_sub.l1])
          | succ k2 =>
            have H := HA.out; clear HA; simp only [impl_limbs_sub.l1] at H
            by_cases c14 : x28_2 < (x5_1.length : Int)
            · rw [if_pos c14] at H
              have c14b0 : decide (x28_2 < (x5_1.length : Int)) = true := decide_eq_true c14; clear c14; (try rw [hl5_2] at c14b0); (try rw [hl5_2] at c14b1)
              by_cases c15 : 0 ≤ x28_2
              · rw [if_pos c15] at H
                have c15b0 : decide (0 ≤ x28_2) = true := decide_eq_true c15; clear c15
                by_cases c16 : x28_2 < (x5_2.length : Int)
                · rw [if_pos c16] at H
                  have c16b0 : decide (x28_2 < (x5_2.length : Int)) = true := decide_eq_true c16; clear c16
                  by_cases c17 : (rd x5_2 x28_2) < 0
                  · rw [if_pos c17] at H
                    have c17b0 : decide ((rd x5_2 x28_2) < 0) = true := decide_eq_true c17; clear c17
                    obtain ⟨y0p, hy361⟩ : ∃ y_ : List Int, y_ = (x5_2.set (x28_2 : Int).toNat (wrap64 ((rd x5_2 x28_2) + 10000))) := ⟨_, rfl⟩
                    (replace H : (if 0 ≤ (wrap64 (x28_2 + 1)) then (if (wrap64 (x28_2 + 1)) < (x5_2.length : Int) then (impl_limbs_sub.l1 k2 (y0p.set ((wrap64 (x28_2 + 1)) : Int).toNat (wrap64 ((rd y0p (wrap64 (x28_2 + 1))) - 1))) (x5_1.length : Int) (wrap64 (x28_2 + 1))) else (none)) else (none)) = some r := by first | (rw [hy361]; with_reducible exact H) | (have H2_ := (Option.bind_some _ _).symm.trans H; rw [hy361]; with_reducible exact H2_) | (have H2_ := (Option.bind_some _ _).symm.trans H; with_reducible exact H2_) | with_reducible exact H | (rw [hy361]; exact H) | exact H); have Ny361 := zm hy361; clear hy361
                    obtain ⟨ji19, hji19⟩ : ∃ j_ : Int, (wrap64 (x28_2 + 1)) = j_ := ⟨_, rfl⟩
                    (replace H : (if 0 ≤ (ji19) then (if (ji19) < (x5_2.length : Int) then (impl_limbs_sub.l1 k2 (y0p.set ((ji19) : Int).toNat (wrap64 ((rd y0p (ji19)) - 1))) (x5_1.length : Int) ji19) else (none)) else (none)) = some r := by first | (rw [hji19] at H; exact H) | (simp only [hji19] at H ⊢; exact H)); have hji19w : (IntKind.i64.wrap (x28_2 + 1)) = ji19 := (i64_w _).trans hji19
                    by_cases c20 : 0 ≤ (ji19)
                    · rw [if_pos c20] at H
                      have c20b0 : decide (0 ≤ (ji19)) = true := decide_eq_true c20; clear c20
                      by_cases c21 : (ji19) < (x5_2.length : Int)
                      · rw [if_pos c21] at H
                        have c21b0 : decide ((ji19) < (x5_2.length : Int)) = true := decide_eq_true c21; clear c21
                        obtain ⟨y0q, hy363⟩ : ∃ y_ : List Int, y_ = (y0p.set ((ji19) : Int).toNat (wrap64 ((rd y0p (ji19)) - 1))) := ⟨_, rfl⟩
                        (replace H : (impl_limbs_sub.l1 k2 y0q (x5_1.length : Int) ji19) = some r := by first | (rw [hy363]; with_reducible exact H) | (have H2_ := (Option.bind_some _ _).symm.trans H; rw [hy363]; with_reducible exact H2_) | (have H2_ := (Option.bind_some _ _).symm.trans H; with_reducible exact H2_) | with_reducible exact H | (rw [hy363]; exact H) | exact H); have Ny363 := zm hy363; clear hy363; have H' := zm H; clear H; have p359 : 0 ≤ (x28_2 : Int) := of_decide_eq_true (by first | (with_reducible assumption) | assumption); have q359 : x28_2 < (x5_2.length : Int) := of_decide_eq_true (by first | (with_reducible assumption) | assumption); obtain ⟨ad359, e359, hx359_0⟩ := Kd.at_int (Kd.R_reads' HO_5.out).2.2 x28_2 p359 q359; cases e359; replace p359 := eq_true p359; replace q359 := eq_true q359; have p360 : 0 ≤ (x28_2 : Int) := of_decide_eq_true (by first | (with_reducible assumption) | assumption); have q360 : x28_2 < (x5_2.length : Int) := of_decide_eq_true (by first | (with_reducible assumption) | assumption); obtain ⟨ad360, e360, hx360_0⟩ := Kd.at_int (Kd.R_reads' HO_5.out).2.2 x28_2 p360 q360
                        obtain rfl : ad359 = ad360 := (by injection e360)
                        replace p360 := eq_true p360; replace q360 := eq_true q360; have p18 : 0 ≤ (x28_2 : Int) := of_decide_eq_true (by first | (with_reducible assumption) | assumption); have q18 : (x28_2 : Int) < ((x5_2.length : Int) : Int) := of_decide_eq_true (by first | (with_reducible assumption) | assumption); obtain ⟨go18, co18, eo18, gb18, gl18, cl18, HG18⟩ := Kd.R_form HO_5.out (by omega); (first | cases eo18 | (injection eo18 with ea_ en_ ec_; (first | subst ea_ | (injection ea_ with ea_; subst ea_)); subst ec_; clear en_)); have GB18 := zm gb18; have GG18 := zm HG18; clear gb18 gl18 HG18; (first | simp only [add_plain] at hx359_0 | skip); (first | simp only [add_plain] at hx360_0 | skip); obtain ⟨hx18_0, hf18_0⟩ := Kd.R_celln 0 HO_5.out (x28_2 : Int) p18 q18; replace p18 := eq_true p18; replace q18 := eq_true q18; have HP23 := Kd.R_putg HO_5.out (x28_2 : Int) (wrap64 ((rd x5_2 x28_2) + 10000))
                        go_wp2_with (first | ((with_reducible refine gate_store (t := 3) (p := 41) rfl ?_); refine store_event (t := 3) (p := 41) (v := ?vo_w24) (w1 := (wr.setCell ⟨go18, (x28_2 : Int).toNat, none⟩ (.int .i64 (wrap64 ((rd x5_2 x28_2) + 10000))))) ?hg ?ho ?hn ?hr ?_; (case ho => rfl); (case hg => rfl); (case hn => rfl); (case hr => first | (go_simp; done) | (go_simp; rfl)); intro w24 hw; have hg : wr.grownBy w24 (some go18) := (by rw [hw]; exact HP23.2); have hp_ : Kd.R (Kd.int .i64) 3 w24 w.heap.size (fun k_ => (w.heap.size ≤ k_)) (.slice (some ⟨go18, 0, none⟩) x5_2.length co13) y0p := (by rw [hw, Ny361.out]; exact HP23.1); clear HP23; have n0_ := zm (hp_); have n1_ := zm ((by rw [hw]; exact below_set (HB.out) GB18.out : Below w.heap.size w w24)); clear HO_5; clear HB; have HO_5 := n0_; have HB := n1_; clear n0_ n1_; clear hg hw hp_; have p362 : 0 ≤ ((ji19) : Int) := of_decide_eq_true (by first | (with_reducible assumption) | assumption); have q362 : (ji19) < (y0p.length : Int) := (by have h_ : ((ji19) : Int) < ((x5_2.length : Int) : Int) := of_decide_eq_true (by first | (with_reducible assumption) | assumption); first | (have e_ := (Kd.R_reads' HO_5.out).1; omega) | simpa only [Ny361.out, List.length_set] using h_); have ql362 : (((ji19) : Int) < ((x5_2.length : Int) : Int)) = True := eq_true (of_decide_eq_true (by first | (with_reducible assumption) | assumption)); obtain ⟨ad362, e362, hx362_0⟩ := Kd.at_int (Kd.R_reads' HO_5.out).2.2 (ji19) p362 q362; obtain rfl : (⟨go18, 0, none⟩ : Addr) = ad362 := (by injection e362); (first | simp only [add_plain] at hx362_0 | simp only [add_at] at hx362_0 | simp only [Addr.add, Nat.zero_add] at hx362_0 | skip); replace p362 := eq_true p362; replace q362 := eq_true q362; have p22 : 0 ≤ ((ji19) : Int) := of_decide_eq_true (by first | (with_reducible assumption) | assumption); have q22 : ((ji19) : Int) < ((x5_2.length : Int) : Int) := of_decide_eq_true (by first | (with_reducible assumption) | assumption); obtain ⟨hx22_0, hf22_0⟩ := Kd.R_celln 0 HO_5.out ((ji19) : Int) p22 q22; replace p22 := eq_true p22; replace q22 := eq_true q22; obtain ⟨hy25_, hz25_⟩ := Kd.R_celln 0 HO_5.out ((ji19) : Int) (of_decide_eq_true (by first | (with_reducible assumption) | assumption)) (of_decide_eq_true (by first | (with_reducible assumption) | assumption)); have HP25 := Kd.R_putg HO_5.out ((ji19) : Int) (wrap64 ((rd y0p (ji19)) - 1))) | ((with_reducible refine gate_store (t := 3) (p := 48) rfl ?_); refine store_event (t := 3) (p := 48) (v := ?vo_w26) (w1 := (w24.setCell ⟨go18, ((ji19) : Int).toNat, none⟩ (.int .i64 (wrap64 ((rd y0p (ji19)) - 1))))) ?hg ?ho ?hn ?hr ?_; (case ho => rfl); (case hg => rfl); (case hn => rfl); (case hr => first | (go_simp; done) | (go_simp; rfl)); intro w26 hw; have hg : w24.grownBy w26 (some go18) := (by rw [hw]; exact HP25.2); have hp_ : Kd.R (Kd.int .i64) 3 w26 w.heap.size (fun k_ => (w.heap.size ≤ k_)) (.slice (some ⟨go18, 0, none⟩) x5_2.length co13) y0q := (by rw [hw, Ny363.out]; exact HP25.1); clear HP25; have n0_ := zm (hp_); have n1_ := zm ((by rw [hw]; exact below_set (HB.out) GB18.out : Below w.heap.size w w26)); clear HO_5; clear HB; have HO_5 := n0_; have HB := n1_; clear n0_ n1_; clear hg hw hp_))
                        (try simp only [← hl5_2])
                        go_roundg k2
                        case measure => have := HK1.out; have := HK2.out; omega
                        case rel => exact ⟨(y0q), (ji19), (by first | rfl | (simp; done) | (simp only [← hji19] <;> (first | rfl | simp)) | (simp [*]; done)), H', ⟨by have := HK1.out; have := HK2.out; omega⟩, ⟨by (try simp only [hl5_2]); (with_reducible repeat (first | apply Kd.R_alloc | apply Kd.R_drewN | apply Kd.R_drew)); exact HO_5.out⟩, ⟨zb⟩⟩
                      · rw [if_neg c21] at H
                        exact absurd H (by simp)
                    · rw [if_neg c20] at H
                      exact absurd H (by simp)
                  · rw [if_neg c17] at H
                    have c17b0 : decide ((rd x5_2 x28_2) < 0) = false := decide_eq_false c17; clear c17; have H' := zm H; clear H; have p359 : 0 ≤ (x28_2 : Int) := of_decide_eq_true (by first | (with_reducible assumption) | assumption); have q359 : x28_2 < (x5_2.length : Int) := of_decide_eq_true (by first | (with_reducible assumption) | assumption); obtain ⟨ad359, e359, hx359_0⟩ := Kd.at_int (Kd.R_reads' HO_5.out).2.2 x28_2 p359 q359; cases e359; replace p359 := eq_true p359; replace q359 := eq_true q359
                    go_wp2
                    (try simp only [← hl5_2])
                    go_roundg k2
                    case measure => have := HK1.out; have := HK2.out; omega
                    case rel => exact ⟨(x5_2), (wrap64 (x28_2 + 1)), (by first | rfl | (simp; done) | (simp [*]; done)), H', ⟨by have := HK1.out; have := HK2.out; omega⟩, ⟨by (try simp only [hl5_2]); (with_reducible repeat (first | apply Kd.R_alloc | apply Kd.R_drewN | apply Kd.R_drew)); exact HO_5.out⟩, ⟨zb⟩⟩
                · rw [if_neg c16] at H
                  exact absurd H (by simp)
              · rw [if_neg c15] at H
                exact absurd H (by simp)
            · rw [if_neg c14] at H
              have c14b0 : decide (x28_2 < (x5_1.length : Int)) = false := decide_eq_false c14; clear c14; (try rw [hl5_2] at c14b0); (try rw [hl5_2] at c14b1); replace H := Option.bind_eq_some_iff.mp H; obtain ⟨t0r, A0a, H⟩ := H; replace H : (some t0r) = some r := H; have A27 := zm A0a; clear A0a; obtain rfl := Option.some.inj H
              go_wp2_with (first | ((with_reducible refine gate_callee (f := 82) rfl ?_); refine goesL_ (some 51) rfl rfl Try.func82 (by kernel_rfl) rfl #[.slice Ao13 x5_2.length co13] rfl za ?_; (with_reducible refine (impl_limbs_trim.calls k2 (fun k_ => some k_ = (.slice Ao13 x5_2.length co13 : Value).ownBlock) _ _ x5_2 t0r _ ?side1 A27.out).mono ?_); (case side1 => exact Kd.R_V (Kd.R_tight rfl (HO_5.out))); rintro e w28 ⟨v0s, rfl, ho0, hb⟩; refine ⟨_, rfl, ?_⟩; have n0_ := zm (Kd.R_below (zR HO_5.out) hb); have n1_ := zm (Kd.V_lower (Kd.V_mono (ok' := fun k_ => (w.heap.size ≤ k_)) ho0 (fun k_ hk_ => Or.elim hk_ (fun hs_ => ((HO_5.out).1 k_ hs_.symm)) (fun hn_ => (Nat.le_trans (below_size zb) hn_)))) (below_size zb)); have n2_ := zm (below_step zb hb); clear HO_5; clear HB; have HO_5 := n0_; have HO0t := n1_; have HB := n2_; clear n0_ n1_ n2_; (try clear hb); (try clear hb2); (try clear hk); (try clear hi); (try clear ho0)))
              go_ret
              exact ⟨_, by first | rfl | (simp [errW_none, errW_some] <;> rfl) | (simp [*, errW_none, errW_some] <;> rfl), by (with_reducible repeat (first | apply Kd.V_alloc | apply Kd.V_drewN | apply Kd.V_drew)); exact HO0t.out, zb⟩
end Go.Proofs.Ytdemeoncjcbojaa.Pr
end
