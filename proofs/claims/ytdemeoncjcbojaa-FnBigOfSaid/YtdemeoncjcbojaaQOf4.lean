/- What the claim's row needs of the contracts and words below it, and no more. -/
import Derived.Test.YtdemeoncjcbojaaQOf3
section
namespace Go.Proofs.Ytdemeoncjcbojaa.Pr
open Go.RowKit Go.Proofs.YtdemeoncjcbojaaW.PrintWords Go.Proofs.YtdemeoncjcbojaaW.PrintLast Go.Proofs.Ytdemeoncjcbojaa.Ext Go.Proofs.YtdemeoncjcbojaaW.PrintMore
attribute [local go_sem] max2_int min2_int max_two min_two max_three min_three max_four min_four
set_option linter.unusedVariables false
set_option linter.unusedSimpArgs false
def laws_FnBigOf.j0 : Nat → List Int → List Int → Bool → Option (Bool)
  | 0, _, _, _ => none
  | k + 1, x0, x1, x21 => if x21 = true then (some true) else ((spec_DrawBigOf.f k x0).bind fun t430 => ((spec_DrawBigOf.f k x1).bind fun t431 => ((impl_BigOf.f k t430).bind fun bt432 => ((spec_BigOf.f k t430).bind fun bt437 => ((laws_jtBig.f k bt432.1 bt432.2 bt437.1 bt437.2).bind fun t441 => (if t441 = true then ((impl_BigOk.f bt432.1 bt432.2).bind fun t442 => (if t442 = true then ((impl_BigOf.f k (wrap64 (Int.tdiv t430 4))).bind fun bt443 => ((impl_BigOf.f k (wrap64 (Int.tdiv t431 4))).bind fun bt447 => ((impl_BigAdd.f k bt443.1 bt443.2 bt447.1 bt447.2).bind fun bt451 => ((impl_BigOf.f k (Int.tmod (wrap64 (Int.tdiv t430 4)) 1000000000)).bind fun bt457 => ((impl_BigOf.f k (Int.tmod (wrap64 (Int.tdiv t431 4)) 1000000000)).bind fun bt461 => ((impl_BigMul.f k bt457.1 bt457.2 bt461.1 bt461.2).bind fun bt465 => (if bt451.2.2 = true then (if bt465.2.2 = true then ((impl_BigOf.f k (wrap64 ((wrap64 (Int.tdiv t430 4)) + (wrap64 (Int.tdiv t431 4))))).bind fun bt471 => ((laws_jtBig.f k bt451.1 bt451.2.1 bt471.1 bt471.2).bind fun t475 => (if t475 = true then ((impl_BigOf.f k (wrap64 ((Int.tmod (wrap64 (Int.tdiv t430 4)) 1000000000) * (Int.tmod (wrap64 (Int.tdiv t431 4)) 1000000000)))).bind fun bt476 => ((laws_jtBig.f k bt465.1 bt465.2.1 bt476.1 bt476.2).bind fun t480 => (some t480))) else (none)))) else (none)) else (none)))))))) else (none))) else (none)))))))
def laws_FnBigOf.f (k : Nat) (l0 : List Int) (l1 : List Int) : Option (Bool) := if (l0.length : Int) > 1048576 then (laws_FnBigOf.j0 k l0 l1 true) else (laws_FnBigOf.j0 k l0 l1 (decide ((l1.length : Int) > 1048576)))
def laws_FnBigOf.T6 : Bool × List (List Nat × List Nat) := (true, [([], []), ([], []), ([1], [1]), ([0, 2, 2], [0, 2]), ([3], [3]), ([4, 3], [4]), ([5], [5]), ([6, 5, 5], [5, 6]), ([7, 5], [5, 7]), ([5, 8], [5, 8])])
def laws_FnBigOf.B6 : List Nat := [0, 0, 2, 7, 15, 31, 63, 127, 255, 511]
theorem laws_FnBigOf.tab6 : rtab .any (opsOf Try.f6 6) = laws_FnBigOf.T6 := by kernel_rfl
theorem laws_FnBigOf.bits6 : waitsOk laws_FnBigOf.T6.2 laws_FnBigOf.B6 = true := by kernel_rfl
def laws_FnBigOf.T12 : Bool × List (List Nat × List Nat) := (true, [([], []), ([0], [0]), ([1], [1]), ([1, 2], [1, 2]), ([3, 1], [3]), ([4], [4]), ([4], [4]), ([4], [4]), ([6, 7, 4], [4, 6, 7]), ([8, 4, 4], [4, 8]), ([5, 9, 9, 4], [4, 5, 9]), ([4, 10], [4, 10]), ([11, 10], [11]), ([12], [12]), ([12], [12]), ([14, 12], [12, 14]), ([12], [12]), ([16, 12], [12, 16]), ([15, 17, 12], [12, 15, 17]), ([18, 12, 12], [12, 18]), ([13, 19, 19, 12], [12, 13, 19]), ([12, 20], [12, 20]), ([21, 20, 0, 1, 2, 3, 4, 5, 6, 7, 8, 9, 10, 11, 12, 13, 14, 15, 16, 17, 18, 19, 20, 21], [21])])
def laws_FnBigOf.B12 : List Nat := [0, 1, 3, 7, 15, 31, 31, 31, 223, 479, 1023, 2047, 4095, 8191, 8191, 24575, 8191, 73727, 253951, 516095, 1048575, 2097151, 4194303]
theorem laws_FnBigOf.tab12 : rtab .any (opsOf Try.f6 12) = laws_FnBigOf.T12 := by kernel_rfl
theorem laws_FnBigOf.bits12 : waitsOk laws_FnBigOf.T12.2 laws_FnBigOf.B12 = true := by kernel_rfl
set_option maxHeartbeats 8000000 in
set_option maxRecDepth 100000 in
theorem laws_FnBigOf.calls (k : Nat) (A0 : Option Addr) (c0 : Nat) (l0 : List Int) (A1 : Option Addr) (c1 : Nat) (l1 : List Int) (r : Bool) (w : World) (hr0 : Kd.C (Kd.int .u8) w A0 l0.length l0) (hc0 : l0.length ≤ c0) (hr1 : Kd.C (Kd.int .u8) w A1 l1.length l1) (hc1 : l1.length ≤ c1) (h : laws_FnBigOf.f k l0 l1 = some r) :
    Calls Try.prog 6 #[.slice A0 l0.length c0, .slice A1 l1.length c1] w fun e w' => e = .returned (.bool r) ∧ Below w.heap.size w w' := by
  have hu27 := Try.underlying27
  have HR0 := Aside0.mk hr0
  have HC0 := Aside0.mk hc0
  clear hr0 hc0
  have HR1 := Aside0.mk hr1
  have HC1 := Aside0.mk hc1
  clear hr1 hc1
  have HB := Aside0.mk (Below.refl w.heap.size w)
  have H : (if (l0.length : Int) > 1048576 then (laws_FnBigOf.j0 k l0 l1 true) else (laws_FnBigOf.j0 k l0 l1 (decide ((l1.length : Int) > 1048576)))) = some r := h
  clear h
  have HC3 := Aside0.mk H
  clear H
  go_enter Try.func6, Try.ntmps6
  go_upto_region 1 with (fail)
  go_cut [21] (fun v21 wc => ∃ (kq : Nat) (x21_2 : Bool), v21 = .bool x21_2 ∧ Aside0 (laws_FnBigOf.j0 kq l0 l1 x21_2 = some r) ∧ Aside0 (kq ≤ k) ∧ Aside0 (Below w.heap.size w wc))
  case first =>
    have H := HC3.out
    clear HC3
    by_cases c4 : (l0.length : Int) > 1048576
    · rw [if_pos c4] at H
      have c4b0 : decide (1048576 < (l0.length : Int)) = true := decide_eq_true c4
      have c4b1 : decide (1048576 < l0.length) = true := decide_eq_true (by omega)
      clear c4
      (first | rw [c4b0] | (simp only [i64_w, i32_w]; rw [c4b0]) | skip)
      have H' := Aside0.mk H
      clear H
      go_wp2
      go_meet
      case rel => exact ⟨_, (true), (by first | rfl | (simp; done) | (simp [*]; done)), H', ⟨by first | omega | exact Nat.le_refl _⟩, ⟨zb⟩⟩
    · rw [if_neg c4] at H
      have c4b0 : decide (1048576 < (l0.length : Int)) = false := decide_eq_false c4
      have c4b1 : decide (1048576 < l0.length) = false := decide_eq_false (by omega)
      clear c4
      (first | rw [c4b0] | (simp only [i64_w, i32_w]; rw [c4b0]) | skip)
      have H' := Aside0.mk H
      clear H
      go_wp2
      go_meet
      case rel => exact ⟨_, (decide ((l1.length : Int) > 1048576)), (by first | rfl | (simp; done) | (simp [*]; done)), H', ⟨by first | omega | exact Nat.le_refl _⟩, ⟨zb⟩⟩
  case rest =>
    clear HC3
    try clear c1
    try clear p2
    try clear c4
    try clear c4b0
    try clear c4b1
    obtain ⟨kq, x21_2, rfl, HA, HJ2, HB⟩ := hcut
    cases kq with
    | zero => exact absurd HA.out (by simp [laws_FnBigOf.j0])
    | succ kj2 =>
      have H := HA.out
      clear HA
      simp only [laws_FnBigOf.j0] at H
      by_cases c5 : x21_2 = true
      · subst c5
        have H1 : (some true) = some r := by rw [if_pos rfl] at H; exact H
        clear H
        have H := H1
        clear H1
        obtain rfl := Option.some.inj H
        go_wp2
        go_ret
        exact ⟨by first | rfl | (simp [errW_none, errW_some] <;> rfl) | (simp [*, errW_none, errW_some] <;> rfl), zb⟩
      · replace c5 := Bool.eq_false_iff.mpr c5
        subst c5
        have H1 : ((spec_DrawBigOf.f kj2 l0).bind fun t430 => ((spec_DrawBigOf.f kj2 l1).bind fun t431 => ((impl_BigOf.f kj2 t430).bind fun bt432 => ((spec_BigOf.f kj2 t430).bind fun bt437 => ((laws_jtBig.f kj2 bt432.1 bt432.2 bt437.1 bt437.2).bind fun t441 => (if t441 = true then ((impl_BigOk.f bt432.1 bt432.2).bind fun t442 => (if t442 = true then ((impl_BigOf.f kj2 (wrap64 (Int.tdiv t430 4))).bind fun bt443 => ((impl_BigOf.f kj2 (wrap64 (Int.tdiv t431 4))).bind fun bt447 => ((impl_BigAdd.f kj2 bt443.1 bt443.2 bt447.1 bt447.2).bind fun bt451 => ((impl_BigOf.f kj2 (Int.tmod (wrap64 (Int.tdiv t430 4)) 1000000000)).bind fun bt457 => ((impl_BigOf.f kj2 (Int.tmod (wrap64 (Int.tdiv t431 4)) 1000000000)).bind fun bt461 => ((impl_BigMul.f kj2 bt457.1 bt457.2 bt461.1 bt461.2).bind fun bt465 => (if bt451.2.2 = true then (if bt465.2.2 = true then ((impl_BigOf.f kj2 (wrap64 ((wrap64 (Int.tdiv t430 4)) + (wrap64 (Int.tdiv t431 4))))).bind fun bt471 => ((laws_jtBig.f kj2 bt451.1 bt451.2.1 bt471.1 bt471.2).bind fun t475 => (if t475 = true then ((impl_BigOf.f kj2 (wrap64 ((Int.tmod (wrap64 (Int.tdiv t430 4)) 1000000000) * (Int.tmod (wrap64 (Int.tdiv t431 4)) 1000000000)))).bind fun bt476 => ((laws_jtBig.f kj2 bt465.1 bt465.2.1 bt476.1 bt476.2).bind fun t480 => (some t480))) else (none)))) else (none)) else (none)))))))) else (none))) else (none))))))) = some r := by rw [if_neg (show ¬ (false = true) by decide)] at H; exact H
        clear H
        have H := H1
        clear H1
        replace H := Option.bind_eq_some_iff.mp H
        obtain ⟨t430, A60, H⟩ := H
        replace H : ((spec_DrawBigOf.f kj2 l1).bind fun t431 => ((impl_BigOf.f kj2 t430).bind fun bt432 => ((spec_BigOf.f kj2 t430).bind fun bt437 => ((laws_jtBig.f kj2 bt432.1 bt432.2 bt437.1 bt437.2).bind fun t441 => (if t441 = true then ((impl_BigOk.f bt432.1 bt432.2).bind fun t442 => (if t442 = true then ((impl_BigOf.f kj2 (wrap64 (Int.tdiv t430 4))).bind fun bt443 => ((impl_BigOf.f kj2 (wrap64 (Int.tdiv t431 4))).bind fun bt447 => ((impl_BigAdd.f kj2 bt443.1 bt443.2 bt447.1 bt447.2).bind fun bt451 => ((impl_BigOf.f kj2 (Int.tmod (wrap64 (Int.tdiv t430 4)) 1000000000)).bind fun bt457 => ((impl_BigOf.f kj2 (Int.tmod (wrap64 (Int.tdiv t431 4)) 1000000000)).bind fun bt461 => ((impl_BigMul.f kj2 bt457.1 bt457.2 bt461.1 bt461.2).bind fun bt465 => (if bt451.2.2 = true then (if bt465.2.2 = true then ((impl_BigOf.f kj2 (wrap64 ((wrap64 (Int.tdiv t430 4)) + (wrap64 (Int.tdiv t431 4))))).bind fun bt471 => ((laws_jtBig.f kj2 bt451.1 bt451.2.1 bt471.1 bt471.2).bind fun t475 => (if t475 = true then ((impl_BigOf.f kj2 (wrap64 ((Int.tmod (wrap64 (Int.tdiv t430 4)) 1000000000) * (Int.tmod (wrap64 (Int.tdiv t431 4)) 1000000000)))).bind fun bt476 => ((laws_jtBig.f kj2 bt465.1 bt465.2.1 bt476.1 bt476.2).bind fun t480 => (some t480))) else (none)))) else (none)) else (none)))))))) else (none))) else (none)))))) = some r := H
        have A6 := Aside0.mk A60
        clear A60
        replace H := Option.bind_eq_some_iff.mp H
        obtain ⟨t431, A70, H⟩ := H
        replace H : ((impl_BigOf.f kj2 t430).bind fun bt432 => ((spec_BigOf.f kj2 t430).bind fun bt437 => ((laws_jtBig.f kj2 bt432.1 bt432.2 bt437.1 bt437.2).bind fun t441 => (if t441 = true then ((impl_BigOk.f bt432.1 bt432.2).bind fun t442 => (if t442 = true then ((impl_BigOf.f kj2 (wrap64 (Int.tdiv t430 4))).bind fun bt443 => ((impl_BigOf.f kj2 (wrap64 (Int.tdiv t431 4))).bind fun bt447 => ((impl_BigAdd.f kj2 bt443.1 bt443.2 bt447.1 bt447.2).bind fun bt451 => ((impl_BigOf.f kj2 (Int.tmod (wrap64 (Int.tdiv t430 4)) 1000000000)).bind fun bt457 => ((impl_BigOf.f kj2 (Int.tmod (wrap64 (Int.tdiv t431 4)) 1000000000)).bind fun bt461 => ((impl_BigMul.f kj2 bt457.1 bt457.2 bt461.1 bt461.2).bind fun bt465 => (if bt451.2.2 = true then (if bt465.2.2 = true then ((impl_BigOf.f kj2 (wrap64 ((wrap64 (Int.tdiv t430 4)) + (wrap64 (Int.tdiv t431 4))))).bind fun bt471 => ((laws_jtBig.f kj2 bt451.1 bt451.2.1 bt471.1 bt471.2).bind fun t475 => (if t475 = true then ((impl_BigOf.f kj2 (wrap64 ((Int.tmod (wrap64 (Int.tdiv t430 4)) 1000000000) * (Int.tmod (wrap64 (Int.tdiv t431 4)) 1000000000)))).bind fun bt476 => ((laws_jtBig.f kj2 bt465.1 bt465.2.1 bt476.1 bt476.2).bind fun t480 => (some t480))) else (none)))) else (none)) else (none)))))))) else (none))) else (none))))) = some r := H
        have A7 := Aside0.mk A70
        clear A70
        replace H := Option.bind_eq_some_iff.mp H
        obtain ⟨⟨t432, t433⟩, A80, H⟩ := H
        replace H : ((spec_BigOf.f kj2 t430).bind fun bt437 => ((laws_jtBig.f kj2 t432 t433 bt437.1 bt437.2).bind fun t441 => (if t441 = true then ((impl_BigOk.f t432 t433).bind fun t442 => (if t442 = true then ((impl_BigOf.f kj2 (wrap64 (Int.tdiv t430 4))).bind fun bt443 => ((impl_BigOf.f kj2 (wrap64 (Int.tdiv t431 4))).bind fun bt447 => ((impl_BigAdd.f kj2 bt443.1 bt443.2 bt447.1 bt447.2).bind fun bt451 => ((impl_BigOf.f kj2 (Int.tmod (wrap64 (Int.tdiv t430 4)) 1000000000)).bind fun bt457 => ((impl_BigOf.f kj2 (Int.tmod (wrap64 (Int.tdiv t431 4)) 1000000000)).bind fun bt461 => ((impl_BigMul.f kj2 bt457.1 bt457.2 bt461.1 bt461.2).bind fun bt465 => (if bt451.2.2 = true then (if bt465.2.2 = true then ((impl_BigOf.f kj2 (wrap64 ((wrap64 (Int.tdiv t430 4)) + (wrap64 (Int.tdiv t431 4))))).bind fun bt471 => ((laws_jtBig.f kj2 bt451.1 bt451.2.1 bt471.1 bt471.2).bind fun t475 => (if t475 = true then ((impl_BigOf.f kj2 (wrap64 ((Int.tmod (wrap64 (Int.tdiv t430 4)) 1000000000) * (Int.tmod (wrap64 (Int.tdiv t431 4)) 1000000000)))).bind fun bt476 => ((laws_jtBig.f kj2 bt465.1 bt465.2.1 bt476.1 bt476.2).bind fun t480 => (some t480))) else (none)))) else (none)) else (none)))))))) else (none))) else (none)))) = some r := H
        have A8 := Aside0.mk A80
        clear A80
        replace H := Option.bind_eq_some_iff.mp H
        obtain ⟨⟨t437, t438⟩, A90, H⟩ := H
        replace H : ((laws_jtBig.f kj2 t432 t433 t437 t438).bind fun t441 => (if t441 = true then ((impl_BigOk.f t432 t433).bind fun t442 => (if t442 = true then ((impl_BigOf.f kj2 (wrap64 (Int.tdiv t430 4))).bind fun bt443 => ((impl_BigOf.f kj2 (wrap64 (Int.tdiv t431 4))).bind fun bt447 => ((impl_BigAdd.f kj2 bt443.1 bt443.2 bt447.1 bt447.2).bind fun bt451 => ((impl_BigOf.f kj2 (Int.tmod (wrap64 (Int.tdiv t430 4)) 1000000000)).bind fun bt457 => ((impl_BigOf.f kj2 (Int.tmod (wrap64 (Int.tdiv t431 4)) 1000000000)).bind fun bt461 => ((impl_BigMul.f kj2 bt457.1 bt457.2 bt461.1 bt461.2).bind fun bt465 => (if bt451.2.2 = true then (if bt465.2.2 = true then ((impl_BigOf.f kj2 (wrap64 ((wrap64 (Int.tdiv t430 4)) + (wrap64 (Int.tdiv t431 4))))).bind fun bt471 => ((laws_jtBig.f kj2 bt451.1 bt451.2.1 bt471.1 bt471.2).bind fun t475 => (if t475 = true then ((impl_BigOf.f kj2 (wrap64 ((Int.tmod (wrap64 (Int.tdiv t430 4)) 1000000000) * (Int.tmod (wrap64 (Int.tdiv t431 4)) 1000000000)))).bind fun bt476 => ((laws_jtBig.f kj2 bt465.1 bt465.2.1 bt476.1 bt476.2).bind fun t480 => (some t480))) else (none)))) else (none)) else (none)))))))) else (none))) else (none))) = some r := H
        have A9 := Aside0.mk A90
        clear A90
        replace H := Option.bind_eq_some_iff.mp H
        obtain ⟨t441, A100, H⟩ := H
        replace H : (if t441 = true then ((impl_BigOk.f t432 t433).bind fun t442 => (if t442 = true then ((impl_BigOf.f kj2 (wrap64 (Int.tdiv t430 4))).bind fun bt443 => ((impl_BigOf.f kj2 (wrap64 (Int.tdiv t431 4))).bind fun bt447 => ((impl_BigAdd.f kj2 bt443.1 bt443.2 bt447.1 bt447.2).bind fun bt451 => ((impl_BigOf.f kj2 (Int.tmod (wrap64 (Int.tdiv t430 4)) 1000000000)).bind fun bt457 => ((impl_BigOf.f kj2 (Int.tmod (wrap64 (Int.tdiv t431 4)) 1000000000)).bind fun bt461 => ((impl_BigMul.f kj2 bt457.1 bt457.2 bt461.1 bt461.2).bind fun bt465 => (if bt451.2.2 = true then (if bt465.2.2 = true then ((impl_BigOf.f kj2 (wrap64 ((wrap64 (Int.tdiv t430 4)) + (wrap64 (Int.tdiv t431 4))))).bind fun bt471 => ((laws_jtBig.f kj2 bt451.1 bt451.2.1 bt471.1 bt471.2).bind fun t475 => (if t475 = true then ((impl_BigOf.f kj2 (wrap64 ((Int.tmod (wrap64 (Int.tdiv t430 4)) 1000000000) * (Int.tmod (wrap64 (Int.tdiv t431 4)) 1000000000)))).bind fun bt476 => ((laws_jtBig.f kj2 bt465.1 bt465.2.1 bt476.1 bt476.2).bind fun t480 => (some t480))) else (none)))) else (none)) else (none)))))))) else (none))) else (none)) = some r := H
        have A10 := Aside0.mk A100
        clear A100
        by_cases c11 : t441 = true
        · subst c11
          have H1 : ((impl_BigOk.f t432 t433).bind fun t442 => (if t442 = true then ((impl_BigOf.f kj2 (wrap64 (Int.tdiv t430 4))).bind fun bt443 => ((impl_BigOf.f kj2 (wrap64 (Int.tdiv t431 4))).bind fun bt447 => ((impl_BigAdd.f kj2 bt443.1 bt443.2 bt447.1 bt447.2).bind fun bt451 => ((impl_BigOf.f kj2 (Int.tmod (wrap64 (Int.tdiv t430 4)) 1000000000)).bind fun bt457 => ((impl_BigOf.f kj2 (Int.tmod (wrap64 (Int.tdiv t431 4)) 1000000000)).bind fun bt461 => ((impl_BigMul.f kj2 bt457.1 bt457.2 bt461.1 bt461.2).bind fun bt465 => (if bt451.2.2 = true then (if bt465.2.2 = true then ((impl_BigOf.f kj2 (wrap64 ((wrap64 (Int.tdiv t430 4)) + (wrap64 (Int.tdiv t431 4))))).bind fun bt471 => ((laws_jtBig.f kj2 bt451.1 bt451.2.1 bt471.1 bt471.2).bind fun t475 => (if t475 = true then ((impl_BigOf.f kj2 (wrap64 ((Int.tmod (wrap64 (Int.tdiv t430 4)) 1000000000) * (Int.tmod (wrap64 (Int.tdiv t431 4)) 1000000000)))).bind fun bt476 => ((laws_jtBig.f kj2 bt465.1 bt465.2.1 bt476.1 bt476.2).bind fun t480 => (some t480))) else (none)))) else (none)) else (none)))))))) else (none))) = some r := by rw [if_pos rfl] at H; exact H
          clear H
          have H := H1
          clear H1
          replace H := Option.bind_eq_some_iff.mp H
          obtain ⟨t442, A120, H⟩ := H
          replace H : (if t442 = true then ((impl_BigOf.f kj2 (wrap64 (Int.tdiv t430 4))).bind fun bt443 => ((impl_BigOf.f kj2 (wrap64 (Int.tdiv t431 4))).bind fun bt447 => ((impl_BigAdd.f kj2 bt443.1 bt443.2 bt447.1 bt447.2).bind fun bt451 => ((impl_BigOf.f kj2 (Int.tmod (wrap64 (Int.tdiv t430 4)) 1000000000)).bind fun bt457 => ((impl_BigOf.f kj2 (Int.tmod (wrap64 (Int.tdiv t431 4)) 1000000000)).bind fun bt461 => ((impl_BigMul.f kj2 bt457.1 bt457.2 bt461.1 bt461.2).bind fun bt465 => (if bt451.2.2 = true then (if bt465.2.2 = true then ((impl_BigOf.f kj2 (wrap64 ((wrap64 (Int.tdiv t430 4)) + (wrap64 (Int.tdiv t431 4))))).bind fun bt471 => ((laws_jtBig.f kj2 bt451.1 bt451.2.1 bt471.1 bt471.2).bind fun t475 => (if t475 = true then ((impl_BigOf.f kj2 (wrap64 ((Int.tmod (wrap64 (Int.tdiv t430 4)) 1000000000) * (Int.tmod (wrap64 (Int.tdiv t431 4)) 1000000000)))).bind fun bt476 => ((laws_jtBig.f kj2 bt465.1 bt465.2.1 bt476.1 bt476.2).bind fun t480 => (some t480))) else (none)))) else (none)) else (none)))))))) else (none)) = some r := H
          have A12 := Aside0.mk A120
          clear A120
          by_cases c13 : t442 = true
          · subst c13
            have H1 : ((impl_BigOf.f kj2 (wrap64 (Int.tdiv t430 4))).bind fun bt443 => ((impl_BigOf.f kj2 (wrap64 (Int.tdiv t431 4))).bind fun bt447 => ((impl_BigAdd.f kj2 bt443.1 bt443.2 bt447.1 bt447.2).bind fun bt451 => ((impl_BigOf.f kj2 (Int.tmod (wrap64 (Int.tdiv t430 4)) 1000000000)).bind fun bt457 => ((impl_BigOf.f kj2 (Int.tmod (wrap64 (Int.tdiv t431 4)) 1000000000)).bind fun bt461 => ((impl_BigMul.f kj2 bt457.1 bt457.2 bt461.1 bt461.2).bind fun bt465 => (if bt451.2.2 = true then (if bt465.2.2 = true then ((impl_BigOf.f kj2 (wrap64 ((wrap64 (Int.tdiv t430 4)) + (wrap64 (Int.tdiv t431 4))))).bind fun bt471 => ((laws_jtBig.f kj2 bt451.1 bt451.2.1 bt471.1 bt471.2).bind fun t475 => (if t475 = true then ((impl_BigOf.f kj2 (wrap64 ((Int.tmod (wrap64 (Int.tdiv t430 4)) 1000000000) * (Int.tmod (wrap64 (Int.tdiv t431 4)) 1000000000)))).bind fun bt476 => ((laws_jtBig.f kj2 bt465.1 bt465.2.1 bt476.1 bt476.2).bind fun t480 => (some t480))) else (none)))) else (none)) else (none)))))))) = some r := by rw [if_pos rfl] at H; exact H
            clear H
            have H := H1
            clear H1
            replace H := Option.bind_eq_some_iff.mp H
            obtain ⟨⟨t443, t444⟩, A140, H⟩ := H
            replace H : ((impl_BigOf.f kj2 (wrap64 (Int.tdiv t431 4))).bind fun bt447 => ((impl_BigAdd.f kj2 t443 t444 bt447.1 bt447.2).bind fun bt451 => ((impl_BigOf.f kj2 (Int.tmod (wrap64 (Int.tdiv t430 4)) 1000000000)).bind fun bt457 => ((impl_BigOf.f kj2 (Int.tmod (wrap64 (Int.tdiv t431 4)) 1000000000)).bind fun bt461 => ((impl_BigMul.f kj2 bt457.1 bt457.2 bt461.1 bt461.2).bind fun bt465 => (if bt451.2.2 = true then (if bt465.2.2 = true then ((impl_BigOf.f kj2 (wrap64 ((wrap64 (Int.tdiv t430 4)) + (wrap64 (Int.tdiv t431 4))))).bind fun bt471 => ((laws_jtBig.f kj2 bt451.1 bt451.2.1 bt471.1 bt471.2).bind fun t475 => (if t475 = true then ((impl_BigOf.f kj2 (wrap64 ((Int.tmod (wrap64 (Int.tdiv t430 4)) 1000000000) * (Int.tmod (wrap64 (Int.tdiv t431 4)) 1000000000)))).bind fun bt476 => ((laws_jtBig.f kj2 bt465.1 bt465.2.1 bt476.1 bt476.2).bind fun t480 => (some t480))) else (none)))) else (none)) else (none))))))) = some r := H
            have A14 := Aside0.mk A140
            clear A140
            replace H := Option.bind_eq_some_iff.mp H
            obtain ⟨⟨t447, t448⟩, A150, H⟩ := H
            replace H : ((impl_BigAdd.f kj2 t443 t444 t447 t448).bind fun bt451 => ((impl_BigOf.f kj2 (Int.tmod (wrap64 (Int.tdiv t430 4)) 1000000000)).bind fun bt457 => ((impl_BigOf.f kj2 (Int.tmod (wrap64 (Int.tdiv t431 4)) 1000000000)).bind fun bt461 => ((impl_BigMul.f kj2 bt457.1 bt457.2 bt461.1 bt461.2).bind fun bt465 => (if bt451.2.2 = true then (if bt465.2.2 = true then ((impl_BigOf.f kj2 (wrap64 ((wrap64 (Int.tdiv t430 4)) + (wrap64 (Int.tdiv t431 4))))).bind fun bt471 => ((laws_jtBig.f kj2 bt451.1 bt451.2.1 bt471.1 bt471.2).bind fun t475 => (if t475 = true then ((impl_BigOf.f kj2 (wrap64 ((Int.tmod (wrap64 (Int.tdiv t430 4)) 1000000000) * (Int.tmod (wrap64 (Int.tdiv t431 4)) 1000000000)))).bind fun bt476 => ((laws_jtBig.f kj2 bt465.1 bt465.2.1 bt476.1 bt476.2).bind fun t480 => (some t480))) else (none)))) else (none)) else (none)))))) = some r := H
            have A15 := Aside0.mk A150
            clear A150
            replace H := Option.bind_eq_some_iff.mp H
            obtain ⟨⟨t451, t452, t455⟩, A160, H⟩ := H
            replace H : ((impl_BigOf.f kj2 (Int.tmod (wrap64 (Int.tdiv t430 4)) 1000000000)).bind fun bt457 => ((impl_BigOf.f kj2 (Int.tmod (wrap64 (Int.tdiv t431 4)) 1000000000)).bind fun bt461 => ((impl_BigMul.f kj2 bt457.1 bt457.2 bt461.1 bt461.2).bind fun bt465 => (if t455 = true then (if bt465.2.2 = true then ((impl_BigOf.f kj2 (wrap64 ((wrap64 (Int.tdiv t430 4)) + (wrap64 (Int.tdiv t431 4))))).bind fun bt471 => ((laws_jtBig.f kj2 t451 t452 bt471.1 bt471.2).bind fun t475 => (if t475 = true then ((impl_BigOf.f kj2 (wrap64 ((Int.tmod (wrap64 (Int.tdiv t430 4)) 1000000000) * (Int.tmod (wrap64 (Int.tdiv t431 4)) 1000000000)))).bind fun bt476 => ((laws_jtBig.f kj2 bt465.1 bt465.2.1 bt476.1 bt476.2).bind fun t480 => (some t480))) else (none)))) else (none)) else (none))))) = some r := H
            have A16 := Aside0.mk A160
            clear A160
            replace H := Option.bind_eq_some_iff.mp H
            obtain ⟨⟨t457, t458⟩, A170, H⟩ := H
            replace H : ((impl_BigOf.f kj2 (Int.tmod (wrap64 (Int.tdiv t431 4)) 1000000000)).bind fun bt461 => ((impl_BigMul.f kj2 t457 t458 bt461.1 bt461.2).bind fun bt465 => (if t455 = true then (if bt465.2.2 = true then ((impl_BigOf.f kj2 (wrap64 ((wrap64 (Int.tdiv t430 4)) + (wrap64 (Int.tdiv t431 4))))).bind fun bt471 => ((laws_jtBig.f kj2 t451 t452 bt471.1 bt471.2).bind fun t475 => (if t475 = true then ((impl_BigOf.f kj2 (wrap64 ((Int.tmod (wrap64 (Int.tdiv t430 4)) 1000000000) * (Int.tmod (wrap64 (Int.tdiv t431 4)) 1000000000)))).bind fun bt476 => ((laws_jtBig.f kj2 bt465.1 bt465.2.1 bt476.1 bt476.2).bind fun t480 => (some t480))) else (none)))) else (none)) else (none)))) = some r := H
            have A17 := Aside0.mk A170
            clear A170
            replace H := Option.bind_eq_some_iff.mp H
            obtain ⟨⟨t461, t462⟩, A180, H⟩ := H
            replace H : ((impl_BigMul.f kj2 t457 t458 t461 t462).bind fun bt465 => (if t455 = true then (if bt465.2.2 = true then ((impl_BigOf.f kj2 (wrap64 ((wrap64 (Int.tdiv t430 4)) + (wrap64 (Int.tdiv t431 4))))).bind fun bt471 => ((laws_jtBig.f kj2 t451 t452 bt471.1 bt471.2).bind fun t475 => (if t475 = true then ((impl_BigOf.f kj2 (wrap64 ((Int.tmod (wrap64 (Int.tdiv t430 4)) 1000000000) * (Int.tmod (wrap64 (Int.tdiv t431 4)) 1000000000)))).bind fun bt476 => ((laws_jtBig.f kj2 bt465.1 bt465.2.1 bt476.1 bt476.2).bind fun t480 => (some t480))) else (none)))) else (none)) else (none))) = some r := H
            have A18 := Aside0.mk A180
            clear A180
            replace H := Option.bind_eq_some_iff.mp H
            obtain ⟨⟨t465, t466, t469⟩, A190, H⟩ := H
            replace H : (if t455 = true then (if t469 = true then ((impl_BigOf.f kj2 (wrap64 ((wrap64 (Int.tdiv t430 4)) + (wrap64 (Int.tdiv t431 4))))).bind fun bt471 => ((laws_jtBig.f kj2 t451 t452 bt471.1 bt471.2).bind fun t475 => (if t475 = true then ((impl_BigOf.f kj2 (wrap64 ((Int.tmod (wrap64 (Int.tdiv t430 4)) 1000000000) * (Int.tmod (wrap64 (Int.tdiv t431 4)) 1000000000)))).bind fun bt476 => ((laws_jtBig.f kj2 t465 t466 bt476.1 bt476.2).bind fun t480 => (some t480))) else (none)))) else (none)) else (none)) = some r := H
            have A19 := Aside0.mk A190
            clear A190
            by_cases c20 : t455 = true
            · subst c20
              have H1 : (if t469 = true then ((impl_BigOf.f kj2 (wrap64 ((wrap64 (Int.tdiv t430 4)) + (wrap64 (Int.tdiv t431 4))))).bind fun bt471 => ((laws_jtBig.f kj2 t451 t452 bt471.1 bt471.2).bind fun t475 => (if t475 = true then ((impl_BigOf.f kj2 (wrap64 ((Int.tmod (wrap64 (Int.tdiv t430 4)) 1000000000) * (Int.tmod (wrap64 (Int.tdiv t431 4)) 1000000000)))).bind fun bt476 => ((laws_jtBig.f kj2 t465 t466 bt476.1 bt476.2).bind fun t480 => (some t480))) else (none)))) else (none)) = some r := by rw [if_pos rfl] at H; exact H
              clear H
              have H := H1
              clear H1
              by_cases c21 : t469 = true
              · subst c21
                have H1 : ((impl_BigOf.f kj2 (wrap64 ((wrap64 (Int.tdiv t430 4)) + (wrap64 (Int.tdiv t431 4))))).bind fun bt471 => ((laws_jtBig.f kj2 t451 t452 bt471.1 bt471.2).bind fun t475 => (if t475 = true then ((impl_BigOf.f kj2 (wrap64 ((Int.tmod (wrap64 (Int.tdiv t430 4)) 1000000000) * (Int.tmod (wrap64 (Int.tdiv t431 4)) 1000000000)))).bind fun bt476 => ((laws_jtBig.f kj2 t465 t466 bt476.1 bt476.2).bind fun t480 => (some t480))) else (none)))) = some r := by rw [if_pos rfl] at H; exact H
                clear H
                have H := H1
                clear H1
                replace H := Option.bind_eq_some_iff.mp H
                obtain ⟨⟨t471, t472⟩, A220, H⟩ := H
                replace H : ((laws_jtBig.f kj2 t451 t452 t471 t472).bind fun t475 => (if t475 = true then ((impl_BigOf.f kj2 (wrap64 ((Int.tmod (wrap64 (Int.tdiv t430 4)) 1000000000) * (Int.tmod (wrap64 (Int.tdiv t431 4)) 1000000000)))).bind fun bt476 => ((laws_jtBig.f kj2 t465 t466 bt476.1 bt476.2).bind fun t480 => (some t480))) else (none))) = some r := H
                have A22 := Aside0.mk A220
                clear A220
                replace H := Option.bind_eq_some_iff.mp H
                obtain ⟨t475, A230, H⟩ := H
                replace H : (if t475 = true then ((impl_BigOf.f kj2 (wrap64 ((Int.tmod (wrap64 (Int.tdiv t430 4)) 1000000000) * (Int.tmod (wrap64 (Int.tdiv t431 4)) 1000000000)))).bind fun bt476 => ((laws_jtBig.f kj2 t465 t466 bt476.1 bt476.2).bind fun t480 => (some t480))) else (none)) = some r := H
                have A23 := Aside0.mk A230
                clear A230
                by_cases c24 : t475 = true
                · subst c24
                  have H1 : ((impl_BigOf.f kj2 (wrap64 ((Int.tmod (wrap64 (Int.tdiv t430 4)) 1000000000) * (Int.tmod (wrap64 (Int.tdiv t431 4)) 1000000000)))).bind fun bt476 => ((laws_jtBig.f kj2 t465 t466 bt476.1 bt476.2).bind fun t480 => (some t480))) = some r := by rw [if_pos rfl] at H; exact H
                  clear H
                  have H := H1
                  clear H1
                  replace H := Option.bind_eq_some_iff.mp H
                  obtain ⟨⟨t476, t477⟩, A250, H⟩ := H
                  replace H : ((laws_jtBig.f kj2 t465 t466 t476 t477).bind fun t480 => (some t480)) = some r := H
                  have A25 := Aside0.mk A250
                  clear A250
                  replace H := Option.bind_eq_some_iff.mp H
                  obtain ⟨t480, A260, H⟩ := H
                  replace H : (some t480) = some r := H
                  have A26 := Aside0.mk A260
                  clear A260
                  obtain rfl := Option.some.inj H
                  try go_wp2_with (first | ((with_reducible refine gate_callee (f := 30) rfl ?_); refine goesL_ (some 23) rfl rfl Try.func30 (by kernel_rfl) rfl #[.slice A0 l0.length c0] rfl za ?_; (with_reducible refine (spec_DrawBigOf.calls kj2 _ _ l0 t430 _ ?side1 ?side2 A6.out).mono ?_); (case side1 => repeat (first | exact (Kd.C_below HR0.out HB.out) | (with_reducible refine Kd.C_alloc ?_ _) | (with_reducible refine Kd.C_drewN ?_ _) | (with_reducible refine Kd.C_drew ?_))); (case side2 => exact HC0.out); rintro e w27 ⟨rfl, hb⟩; refine ⟨_, rfl, ?_⟩; have n0_ := Aside0.mk (below_step zb hb); clear HB; have HB := n0_; clear n0_; (try clear hb); (try clear hb2); (try clear hk); (try clear hi)) | ((with_reducible refine gate_callee (f := 30) rfl ?_); refine goesL_ (some 25) rfl rfl Try.func30 (by kernel_rfl) rfl #[.slice A1 l1.length c1] rfl za ?_; (with_reducible refine (spec_DrawBigOf.calls kj2 _ _ l1 t431 _ ?side1 ?side2 A7.out).mono ?_); (case side1 => repeat (first | exact (Kd.C_below HR1.out HB.out) | (with_reducible refine Kd.C_alloc ?_ _) | (with_reducible refine Kd.C_drewN ?_ _) | (with_reducible refine Kd.C_drew ?_))); (case side2 => exact HC1.out); rintro e w28 ⟨rfl, hb⟩; refine ⟨_, rfl, ?_⟩; have n0_ := Aside0.mk (below_step zb hb); clear HB; have HB := n0_; clear n0_; (try clear hb); (try clear hb2); (try clear hk); (try clear hi)) | ((with_reducible refine gate_callee (f := 25) rfl ?_); refine goesL_ (some 27) rfl rfl Try.func25 (by kernel_rfl) rfl #[.int .i64 t430] rfl za ?_; (with_reducible refine (impl_BigOf.calls kj2 t430 t432 t433 _ A8.out).mono ?_); rintro e w29 ⟨v434, rfl, ho0, hb⟩; refine ⟨_, rfl, ?_⟩; have n0_ := Aside0.mk (Kd.V_lower (Kd.V_mono (ok' := fun k_ => True) ho0 (fun k_ hk_ => trivial)) (below_size zb)); have n1_ := Aside0.mk (below_step zb hb); clear HB; have HO435 := n0_; have HB := n1_; clear n0_ n1_; (try clear hb); (try clear hb2); (try clear hk); (try clear hi); (try clear ho0)) | ((with_reducible refine gate_dst (N := 7) rfl ?_); (try (refine gate_guard (by rfl) ?_; dsimp only)); refine box_event ?hg (N := 7) ?hd (cs := #[.bool false, .slice none 0 0]) (t := 27) ?hr ?_; (case hd => rfl); (case hg => rfl); (case hr => first | (go_simp; done) | (go_simp; rfl)); intro gb436 hg w30 hbox hb; have n0_ := Aside0.mk (Kd.V_below (Kd.V_elderB (zV HO435.out) gb436 (Nat.le_of_eq hg.symm)) hb); have n1_ := Aside0.mk (below_step zb hb); have n2_ := Aside0.mk (hbox); have n3_ := Aside0.mk ((by rw [hg]; exact (below_size zb) : w.heap.size ≤ gb436)); have n4_ := Aside0.mk ((by rw [hg]; exact (below_size zb) : w.heap.size ≤ gb436)); clear HO435; clear HB; have HO435 := n0_; have HB := n1_; have BK436 := n2_; have GW436 := n3_; have GE436 := n4_; clear n0_ n1_ n2_ n3_ n4_; clear hb hbox hg; have hcz31_0 : w30.cell? ⟨gb436, 0, none⟩ = some (.bool false) := (blk_cell BK436.out 0).trans rfl; have hcz31_1 : w30.cell? ⟨gb436, 1, none⟩ = some (.slice none 0 0) := (blk_cell BK436.out 1).trans rfl; have hfz31_0 := blk_frozen BK436.out 0; have hfz31_1 := blk_frozen BK436.out 1; obtain ⟨Ao32, co32, eo32⟩ := Kd.V_slice HO435.out; subst eo32))
                  have n0_ : Aside0 (Kd.V (Kd.int .i64) 3 ((w30.setCell ⟨gb436, 0, none⟩ (.bool t432)).setCell ⟨gb436, 1, none⟩ (.slice Ao32 t433.length co32)) w.heap.size (fun k_ => k_ ≠ gb436) (.slice Ao32 t433.length co32) t433) := ⟨by (with_reducible repeat (first | apply Kd.V_alloc | apply Kd.V_drewN | apply Kd.V_drew)); exact Kd.V_mono (Kd.V_far (p := ⟨gb436, 1, none⟩) (Kd.V_far (p := ⟨gb436, 0, none⟩) (Kd.V_mono HO435.out (fun k_ hk => (⟨hk, hk.2⟩ : _ ∧ k_ ≠ gb436))) (fun _ hk => hk.2) (.bool t432)) (fun _ hk => hk.2) (.slice Ao32 t433.length co32)) (fun _ hk => hk.1.2)⟩
                  have n1_ : Aside0 (((w30.setCell ⟨gb436, 0, none⟩ (.bool t432)).setCell ⟨gb436, 1, none⟩ (.slice Ao32 t433.length co32)).heap[gb436]? = some (.cells #[.bool t432, .slice Ao32 t433.length co32] 27 (0, 0))) := ⟨by (with_reducible repeat (first | refine blk_drewN ?_ _ | refine blk_drew ?_ | refine blk_alloc ?_ _)); refine blk_put (cs := #[.bool t432, .slice none 0 0]) ?_ 1 _ rfl; (with_reducible repeat (first | refine blk_drewN ?_ _ | refine blk_drew ?_ | refine blk_alloc ?_ _)); refine blk_put (cs := #[.bool false, .slice none 0 0]) ?_ 0 _ rfl; (with_reducible repeat (first | refine blk_drewN ?_ _ | refine blk_drew ?_ | refine blk_alloc ?_ _)); exact BK436.out⟩
                  have n2_ : Aside0 (Below w.heap.size w ((w30.setCell ⟨gb436, 0, none⟩ (.bool t432)).setCell ⟨gb436, 1, none⟩ (.slice Ao32 t433.length co32))) := ⟨zb⟩
                  (try clear HO435)
                  (try clear BK436)
                  (try clear HB)
                  generalize ((w30.setCell ⟨gb436, 0, none⟩ (.bool t432)).setCell ⟨gb436, 1, none⟩ (.slice Ao32 t433.length co32)) = w33 at n0_ n1_ n2_ ⊢
                  have HO435 := n0_
                  have BK436 := n1_
                  have HB := n2_
                  clear n0_ n1_ n2_
                  have n0_ := Aside0.mk (Kd.V_drew HO435.out)
                  have n1_ := Aside0.mk (blk_drew BK436.out)
                  have n2_ := Aside0.mk (below_drew1 HB.out)
                  clear HO435
                  clear BK436
                  clear HB
                  have HO435 := n0_
                  have BK436 := n1_
                  have HB := n2_
                  clear n0_ n1_ n2_
                  refine start_ (n := 10) (S := fun w' => w'.cell? ⟨gb436, 0, none⟩ = some (.bool t432) ∧ w'.cell? ⟨gb436, 1, none⟩ = some (.slice Ao32 t433.length co32)) (ds := []) #[false, false, false, false, false, false, false, false, false, false] (by kernel_rfl) rfl rfl ⟨(blk_cell BK436.out 0).trans rfl, (blk_cell BK436.out 1).trans rfl⟩ (fun hHeld => ?_); refine with_tabW laws_FnBigOf.tab6 laws_FnBigOf.bits6 (fun HT_ HW_ => ?_)
                  generalize w33.drew = w34 at HO435 BK436 HB hHeld ⊢
                  refine pure_ (i := 1) (N := some 29) (v := ?_) (a' := ?_) #[false, true, false, false, false, false, false, false, false, false] rfl rfl (any_of HT_.out (by kernel_rfl)) (fun _ _ _ h => h) (Or.inl ⟨by rfl, ?_⟩) ?_ ?_
                  rotate_left
                  · intro w'
                    go_simp
                    with_reducible rfl
                  rotate_left
                  · simp only [Act.put, List.setIfInBounds_toArray, List.set_cons_zero, List.set_cons_succ, i64_w, i32_w]
                    rfl
                  refine take_ (i := 0) (N := some 28) (v := ?_) (a' := ?_) #[true, true, false, false, false, false, false, false, false, false] rfl rfl (take_ofW HT_.out HW_.out (by kernel_rfl)) (fun _ _ _ h => h) (Or.inl ⟨by rfl, ?_⟩) hHeld ?_ ?_
                  rotate_left
                  · rintro w' ⟨s0, s1⟩
                    go_simp
                    with_reducible rfl
                  rotate_left
                  · simp only [Act.put, List.setIfInBounds_toArray, List.set_cons_zero, List.set_cons_succ, i64_w, i32_w]
                    rfl
                  refine one_ (i := 2) (N := some 30) #[true, true, true, false, false, false, false, false, false, false] rfl rfl (one_of HT_.out (by kernel_rfl)) (by decide) (fun K hK => ?_)
                  refine goes_ Try.func24 (by kernel_rfl) rfl #[.int .i64 t430] (by rfl) rfl rfl za ?_
                  with_reducible refine (spec_BigOf.calls kj2 t430 t437 t438 _ A9.out).mono ?_
                  rintro e w35 ⟨v439, rfl, ho0, hb⟩
                  refine ⟨_, rfl, ?_⟩
                  have n0_ := Aside0.mk (Kd.V_elder' (zV HO435.out) (Kd.R_base ho0) hb)
                  have n1_ := Aside0.mk (Kd.R_lower ho0 (below_size zb))
                  have n2_ := Aside0.mk (blk_below (g := gb436) (o := .cells #[.bool t432, .slice Ao32 t433.length co32] 27 (0, 0)) (zk BK436.out) hb)
                  have n3_ := Aside0.mk (below_step zb hb)
                  clear HO435
                  clear BK436
                  clear HB
                  have HO435 := n0_
                  have HO440 := n1_
                  have BK436 := n2_
                  have HB := n3_
                  clear n0_ n1_ n2_ n3_
                  (try clear hb)
                  (try clear hb2)
                  (try clear hk)
                  (try clear hi)
                  (try clear ho0)
                  obtain ⟨Ao36, co36, eo36⟩ := Kd.R_slice HO440.out
                  (first | subst eo36 | (injection eo36 with f1_ f2_ f3_; have f4_ := f1_.symm; have f5_ := f3_.symm; clear f1_ f2_ f3_; subst f4_; subst f5_))
                  refine hK.out _ _ ⟨(blk_cell BK436.out 0).trans rfl, (blk_cell BK436.out 1).trans rfl⟩ (fun hHeld => ?_)
                  clear hK K
                  refine norm_ (a' := ?_) ?_ ?_
                  rotate_left
                  · show Act.put _ (some 30) _ = _
                    simp only [Act.put, List.setIfInBounds_toArray, List.set_cons_zero, List.set_cons_succ, i64_w, i32_w]
                    rfl
                  refine one_ (i := 3) (N := some 31) #[true, true, true, true, false, false, false, false, false, false] rfl rfl (one_of HT_.out (by kernel_rfl)) (by decide) (fun K hK => ?_)
                  refine goes_ Try.func31 (by kernel_rfl) rfl #[.agg #[.bool t432, .slice Ao32 t433.length co32], .agg #[.bool t437, .slice Ao36 t438.length co36]] (by rfl) rfl rfl za ?_
                  with_reducible refine (laws_jtBig.calls kj2 t432 _ _ t433 t437 _ _ t438 true _ ?side1 ?side2 ?side3 ?side4 A10.out).mono ?_
                  (case side1 => repeat (first | exact (Kd.V_reads' HO435.out).2.2 | (with_reducible refine Kd.C_alloc ?_ _) | (with_reducible refine Kd.C_drewN ?_ _) | (with_reducible refine Kd.C_drew ?_)))
                  (case side2 => exact (Kd.V_reads' HO435.out).2.1)
                  (case side3 => repeat (first | exact (Kd.R_reads' HO440.out).2.2 | (with_reducible refine Kd.C_alloc ?_ _) | (with_reducible refine Kd.C_drewN ?_ _) | (with_reducible refine Kd.C_drew ?_)))
                  (case side4 => exact (Kd.R_reads' HO440.out).2.1)
                  rintro e w37 ⟨rfl, hb⟩
                  refine ⟨_, rfl, ?_⟩
                  have n0_ := Aside0.mk (Kd.V_below (zV HO435.out) hb)
                  have n1_ := Aside0.mk (Kd.R_below (zR HO440.out) hb)
                  have n2_ := Aside0.mk (blk_below (g := gb436) (o := .cells #[.bool t432, .slice Ao32 t433.length co32] 27 (0, 0)) (zk BK436.out) hb)
                  have n3_ := Aside0.mk (below_step zb hb)
                  clear HO435
                  clear HO440
                  clear BK436
                  clear HB
                  have HO435 := n0_
                  have HO440 := n1_
                  have BK436 := n2_
                  have HB := n3_
                  clear n0_ n1_ n2_ n3_
                  (try clear hb)
                  (try clear hb2)
                  (try clear hk)
                  (try clear hi)
                  refine hK.out _ _ ⟨(blk_cell BK436.out 0).trans rfl, (blk_cell BK436.out 1).trans rfl⟩ (fun hHeld => ?_)
                  clear hK K
                  refine norm_ (a' := ?_) ?_ ?_
                  rotate_left
                  · show Act.put _ (some 31) _ = _
                    simp only [Act.put, List.setIfInBounds_toArray, List.set_cons_zero, List.set_cons_succ, i64_w, i32_w]
                    rfl
                  refine pure_ (i := 4) (N := some 32) (v := ?_) (a' := ?_) #[true, true, true, true, true, false, false, false, false, false] rfl rfl (any_of HT_.out (by kernel_rfl)) (fun _ _ _ h => h) (Or.inl ⟨by rfl, ?_⟩) ?_ ?_
                  rotate_left
                  · intro w'
                    go_simp
                    with_reducible rfl
                  rotate_left
                  · simp only [Act.put, List.setIfInBounds_toArray, List.set_cons_zero, List.set_cons_succ, i64_w, i32_w]
                    rfl
                  refine pure_ (i := 5) (N := some 33) (v := ?_) (a' := ?_) #[true, true, true, true, true, true, false, false, false, false] rfl rfl (any_of HT_.out (by kernel_rfl)) (fun _ _ _ h => h) (Or.inl ⟨by rfl, ?_⟩) ?_ ?_
                  rotate_left
                  · intro w'
                    go_simp
                    with_reducible rfl
                  rotate_left
                  · simp only [Act.put, List.setIfInBounds_toArray, List.set_cons_zero, List.set_cons_succ, i64_w, i32_w]
                    rfl
                  refine take_ (i := 6) (N := some 34) (v := ?_) (a' := ?_) #[true, true, true, true, true, true, true, false, false, false] rfl rfl (take_ofW HT_.out HW_.out (by kernel_rfl)) (fun _ _ _ h => h) (Or.inl ⟨by rfl, ?_⟩) hHeld ?_ ?_
                  rotate_left
                  · rintro w' ⟨s0, s1⟩
                    go_simp
                    with_reducible rfl
                  rotate_left
                  · simp only [Act.put, List.setIfInBounds_toArray, List.set_cons_zero, List.set_cons_succ, i64_w, i32_w]
                    rfl
                  refine one_ (i := 7) (N := some 35) #[true, true, true, true, true, true, true, true, false, false] rfl rfl (one_of HT_.out (by kernel_rfl)) (by decide) (fun K hK => ?_)
                  refine goes_ Try.func22 (by kernel_rfl) rfl #[.agg #[.bool t432, .slice Ao32 t433.length co32]] (by rfl) rfl rfl za ?_
                  with_reducible refine (impl_BigOk.calls t432 _ _ t433 true _ ?side1 ?side2 A12.out).mono ?_
                  (case side1 => repeat (first | exact (Kd.V_reads' HO435.out).2.2 | (with_reducible refine Kd.C_alloc ?_ _) | (with_reducible refine Kd.C_drewN ?_ _) | (with_reducible refine Kd.C_drew ?_)))
                  (case side2 => exact (Kd.V_reads' HO435.out).2.1)
                  rintro e w38 ⟨rfl, hb⟩
                  refine ⟨_, rfl, ?_⟩
                  have n0_ := Aside0.mk (Kd.V_below (zV HO435.out) hb)
                  have n1_ := Aside0.mk (Kd.R_below (zR HO440.out) hb)
                  have n2_ := Aside0.mk (blk_below (g := gb436) (o := .cells #[.bool t432, .slice Ao32 t433.length co32] 27 (0, 0)) (zk BK436.out) hb)
                  have n3_ := Aside0.mk (below_step zb hb)
                  clear HO435
                  clear HO440
                  clear BK436
                  clear HB
                  have HO435 := n0_
                  have HO440 := n1_
                  have BK436 := n2_
                  have HB := n3_
                  clear n0_ n1_ n2_ n3_
                  (try clear hb)
                  (try clear hb2)
                  (try clear hk)
                  (try clear hi)
                  refine hK.out _ _ ⟨(blk_cell BK436.out 0).trans rfl, (blk_cell BK436.out 1).trans rfl⟩ (fun hHeld => ?_)
                  clear hK K
                  refine norm_ (a' := ?_) ?_ ?_
                  rotate_left
                  · show Act.put _ (some 35) _ = _
                    simp only [Act.put, List.setIfInBounds_toArray, List.set_cons_zero, List.set_cons_succ, i64_w, i32_w]
                    rfl
                  refine pure_ (i := 8) (N := some 36) (v := ?_) (a' := ?_) #[true, true, true, true, true, true, true, true, true, false] rfl rfl (any_of HT_.out (by kernel_rfl)) (fun _ _ _ h => h) (Or.inl ⟨by rfl, ?_⟩) ?_ ?_
                  rotate_left
                  · intro w'
                    go_simp
                    with_reducible rfl
                  rotate_left
                  · simp only [Act.put, List.setIfInBounds_toArray, List.set_cons_zero, List.set_cons_succ, i64_w, i32_w]
                    rfl
                  refine pure_ (i := 9) (N := some 37) (v := ?_) (a' := ?_) #[true, true, true, true, true, true, true, true, true, true] rfl rfl (any_of HT_.out (by kernel_rfl)) (fun _ _ _ h => h) (Or.inl ⟨by rfl, ?_⟩) ?_ ?_
                  rotate_left
                  · intro w'
                    go_simp
                    with_reducible rfl
                  rotate_left
                  · simp only [Act.put, List.setIfInBounds_toArray, List.set_cons_zero, List.set_cons_succ, i64_w, i32_w]
                    rfl
                  refine done_ (done_of HT_.out (by kernel_rfl)) ?_
                  try go_wp2_with (first | ((with_reducible refine gate_callee (f := 25) rfl ?_); refine goesL_ (some 44) rfl rfl Try.func25 (by kernel_rfl) rfl #[.int .i64 (wrap64 (Int.tdiv t430 4))] rfl za ?_; (with_reducible refine (impl_BigOf.calls kj2 (wrap64 (Int.tdiv t430 4)) t443 t444 _ A14.out).mono ?_); rintro e w39 ⟨v445, rfl, ho0, hb⟩; refine ⟨_, rfl, ?_⟩; have n0_ := Aside0.mk (Kd.V_below (zV HO435.out) hb); have n1_ := Aside0.mk (Kd.R_below (zR HO440.out) hb); have n2_ := Aside0.mk (Kd.V_lower (Kd.V_mono (ok' := fun k_ => some k_ ≠ (.slice Ao36 t438.length co36 : Value).ownBlock ∧ k_ ≠ gb436) ho0 (fun k_ hk_ => ⟨(Kd.fresh' (Kd.R_lt (zR HO440.out)) k_ hk_), (Kd.freshB (g := gb436) (o := .cells #[.bool t432, .slice Ao32 t433.length co32] 27 (0, 0)) (zk BK436.out) k_ hk_)⟩)) (below_size zb)); have n3_ := Aside0.mk (blk_below (g := gb436) (o := .cells #[.bool t432, .slice Ao32 t433.length co32] 27 (0, 0)) (zk BK436.out) hb); have n4_ := Aside0.mk (below_step zb hb); clear HO435; clear HO440; clear BK436; clear HB; have HO435 := n0_; have HO440 := n1_; have HO446 := n2_; have BK436 := n3_; have HB := n4_; clear n0_ n1_ n2_ n3_ n4_; (try clear hb); (try clear hb2); (try clear hk); (try clear hi); (try clear ho0)) | ((with_reducible refine gate_callee (f := 25) rfl ?_); refine goesL_ (some 46) rfl rfl Try.func25 (by kernel_rfl) rfl #[.int .i64 (wrap64 (Int.tdiv t431 4))] rfl za ?_; (with_reducible refine (impl_BigOf.calls kj2 (wrap64 (Int.tdiv t431 4)) t447 t448 _ A15.out).mono ?_); rintro e w40 ⟨v449, rfl, ho0, hb⟩; refine ⟨_, rfl, ?_⟩; have n0_ := Aside0.mk (Kd.V_below (zV HO435.out) hb); have n1_ := Aside0.mk (Kd.R_below (zR HO440.out) hb); have n2_ := Aside0.mk (Kd.V_below (zV HO446.out) hb); have n3_ := Aside0.mk (Kd.V_lower (Kd.V_mono (ok' := fun k_ => some k_ ≠ (.slice Ao36 t438.length co36 : Value).ownBlock ∧ k_ ≠ gb436) ho0 (fun k_ hk_ => ⟨(Kd.fresh' (Kd.R_lt (zR HO440.out)) k_ hk_), (Kd.freshB (g := gb436) (o := .cells #[.bool t432, .slice Ao32 t433.length co32] 27 (0, 0)) (zk BK436.out) k_ hk_)⟩)) (below_size zb)); have n4_ := Aside0.mk (blk_below (g := gb436) (o := .cells #[.bool t432, .slice Ao32 t433.length co32] 27 (0, 0)) (zk BK436.out) hb); have n5_ := Aside0.mk (below_step zb hb); clear HO435; clear HO440; clear HO446; clear BK436; clear HB; have HO435 := n0_; have HO440 := n1_; have HO446 := n2_; have HO450 := n3_; have BK436 := n4_; have HB := n5_; clear n0_ n1_ n2_ n3_ n4_ n5_; (try clear hb); (try clear hb2); (try clear hk); (try clear hi); (try clear ho0); obtain ⟨Ao41, co41, eo41⟩ := Kd.V_slice HO446.out; subst eo41; obtain ⟨Ao42, co42, eo42⟩ := Kd.V_slice HO450.out; subst eo42) | ((with_reducible refine gate_callee (f := 32) rfl ?_); refine goesL_ (some 47) rfl rfl Try.func32 (by kernel_rfl) rfl #[.agg #[.bool t443, .slice Ao41 t444.length co41], .agg #[.bool t447, .slice Ao42 t448.length co42]] rfl za ?_; (with_reducible refine (impl_BigAdd.calls kj2 t443 (fun k_ => (some k_ ≠ (.slice Ao36 t438.length co36 : Value).ownBlock ∧ k_ ≠ gb436)) _ _ t444 t447 (fun k_ => (some k_ ≠ (.slice Ao36 t438.length co36 : Value).ownBlock ∧ k_ ≠ gb436)) _ _ t448 t451 t452 true _ ?side1 ?side2 A16.out).mono ?_); (case side1 => exact HO446.out); (case side2 => exact HO450.out); rintro e w43 ⟨v453, rfl, ho0, hb⟩; refine ⟨_, rfl, ?_⟩; have n0_ := Aside0.mk (Kd.V_below (zV HO435.out) hb); have n1_ := Aside0.mk (Kd.R_below (zR HO440.out) hb); have n2_ := Aside0.mk (Kd.V_below (zV HO446.out) hb); have n3_ := Aside0.mk (Kd.V_below (zV HO450.out) hb); have n4_ := Aside0.mk (Kd.V_lower (Kd.V_mono (ok' := fun k_ => some k_ ≠ (.slice Ao36 t438.length co36 : Value).ownBlock ∧ k_ ≠ gb436) ho0 (fun k_ hk_ => ⟨Or.elim hk_ (fun hs_ => Or.elim hs_ (fun hs_ => hs_.1) (fun hs_ => hs_.1)) (fun hn_ => (Kd.fresh' (Kd.R_lt (zR HO440.out)) k_ hn_)), Or.elim hk_ (fun hs_ => Or.elim hs_ (fun hs_ => hs_.2) (fun hs_ => hs_.2)) (fun hn_ => (Kd.freshB (g := gb436) (o := .cells #[.bool t432, .slice Ao32 t433.length co32] 27 (0, 0)) (zk BK436.out) k_ hn_))⟩)) (below_size zb)); have n5_ := Aside0.mk (blk_below (g := gb436) (o := .cells #[.bool t432, .slice Ao32 t433.length co32] 27 (0, 0)) (zk BK436.out) hb); have n6_ := Aside0.mk (below_step zb hb); clear HO435; clear HO440; clear HO446; clear HO450; clear BK436; clear HB; have HO435 := n0_; have HO440 := n1_; have HO446 := n2_; have HO450 := n3_; have HO454 := n4_; have BK436 := n5_; have HB := n6_; clear n0_ n1_ n2_ n3_ n4_ n5_ n6_; (try clear hb); (try clear hb2); (try clear hk); (try clear hi); (try clear ho0)) | ((with_reducible refine gate_dst (N := 10) rfl ?_); (try (refine gate_guard (by rfl) ?_; dsimp only)); refine box_event ?hg (N := 10) ?hd (cs := #[.bool false, .slice none 0 0]) (t := 27) ?hr ?_; (case hd => rfl); (case hg => rfl); (case hr => first | (go_simp; done) | (go_simp; rfl)); intro gb456 hg w44 hbox hb; have n0_ := Aside0.mk (Kd.V_below (Kd.V_elderB (zV HO435.out) gb456 (Nat.le_of_eq hg.symm)) hb); have n1_ := Aside0.mk (Kd.R_below (zR HO440.out) hb); have n2_ := Aside0.mk (Kd.V_below (Kd.V_elderB (zV HO446.out) gb456 (Nat.le_of_eq hg.symm)) hb); have n3_ := Aside0.mk (Kd.V_below (Kd.V_elderB (zV HO450.out) gb456 (Nat.le_of_eq hg.symm)) hb); have n4_ := Aside0.mk (Kd.V_below (Kd.V_elderB (zV HO454.out) gb456 (Nat.le_of_eq hg.symm)) hb); have n5_ := Aside0.mk (blk_below (g := gb436) (o := .cells #[.bool t432, .slice Ao32 t433.length co32] 27 (0, 0)) (zk BK436.out) hb); have n6_ := Aside0.mk (below_step zb hb); have n7_ := Aside0.mk (hbox); have n8_ := Aside0.mk ((by rw [hg]; exact (below_size zb) : w.heap.size ≤ gb456)); have n9_ := Aside0.mk ((by rw [hg]; exact (below_size zb) : w.heap.size ≤ gb456)); have n10_ := Aside0.mk ((by rw [hg]; exact Nat.ne_of_lt (blk_lt (g := gb436) (o := .cells #[.bool t432, .slice Ao32 t433.length co32] 27 (0, 0)) (zk BK436.out)) : gb436 ≠ gb456)); have n11_ := Aside0.mk ((by rw [hg]; exact Nat.ne_of_gt (blk_lt (g := gb436) (o := .cells #[.bool t432, .slice Ao32 t433.length co32] 27 (0, 0)) (zk BK436.out)) : gb456 ≠ gb436)); clear HO435; clear HO440; clear HO446; clear HO450; clear HO454; clear BK436; clear HB; have HO435 := n0_; have HO440 := n1_; have HO446 := n2_; have HO450 := n3_; have HO454 := n4_; have BK436 := n5_; have HB := n6_; have BK456 := n7_; have GW456 := n8_; have GE456 := n9_; have NB436_456 := n10_; have NB456_436 := n11_; clear n0_ n1_ n2_ n3_ n4_ n5_ n6_ n7_ n8_ n9_ n10_ n11_; clear hb hbox hg; have hnb45 := NB456_436.out; have hnc45 := NB436_456.out; have hcz46_0 : w44.cell? ⟨gb456, 0, none⟩ = some (.bool false) := (blk_cell BK456.out 0).trans rfl; have hcz46_1 : w44.cell? ⟨gb456, 1, none⟩ = some (.slice none 0 0) := (blk_cell BK456.out 1).trans rfl; have hfz46_0 := blk_frozen BK456.out 0; have hfz46_1 := blk_frozen BK456.out 1; obtain ⟨Ao47, co47, eo47⟩ := Kd.V_slice HO454.out; subst eo47) | ((with_reducible refine gate_callee (f := 25) rfl ?_); refine goesL_ (some 53) rfl rfl Try.func25 (by kernel_rfl) rfl #[.int .i64 (Int.tmod (wrap64 (Int.tdiv t430 4)) 1000000000)] rfl za ?_; (with_reducible refine (impl_BigOf.calls kj2 (Int.tmod (wrap64 (Int.tdiv t430 4)) 1000000000) t457 t458 _ A17.out).mono ?_); rintro e w48 ⟨v459, rfl, ho0, hb⟩; refine ⟨_, rfl, ?_⟩; have n0_ := Aside0.mk (Kd.V_below (by (with_reducible repeat (first | apply Kd.V_alloc | apply Kd.V_drewN | apply Kd.V_drew)); exact (Kd.V_mono (Kd.V_far (p := ⟨gb456, 1, none⟩) (Kd.V_far (p := ⟨gb456, 0, none⟩) (Kd.V_mono HO435.out (fun k_ hk => (⟨hk, hk.2⟩ : _ ∧ k_ ≠ gb456))) (fun _ hk => hk.2) (.bool t451)) (fun _ hk => hk.2) (.slice Ao47 t452.length co47)) (fun _ h_ => h_.1))) hb); have n1_ := Aside0.mk (Kd.R_below (by (with_reducible repeat (first | apply Kd.R_alloc | apply Kd.R_drewN | apply Kd.R_drew)); exact (Kd.R_mono (Kd.R_far (p := ⟨gb456, 1, none⟩) (Kd.R_far (p := ⟨gb456, 0, none⟩) (Kd.R_types HO440.out BK456.out (by decide)) (fun _ hk => hk.2) (.bool t451)) (fun _ hk => hk.2) (.slice Ao47 t452.length co47)) (fun _ h_ => h_.1))) hb); have n2_ := Aside0.mk (Kd.V_below (by (with_reducible repeat (first | apply Kd.V_alloc | apply Kd.V_drewN | apply Kd.V_drew)); exact (Kd.V_mono (Kd.V_far (p := ⟨gb456, 1, none⟩) (Kd.V_far (p := ⟨gb456, 0, none⟩) (Kd.V_mono HO446.out (fun k_ hk => (⟨hk, hk.2⟩ : _ ∧ k_ ≠ gb456))) (fun _ hk => hk.2) (.bool t451)) (fun _ hk => hk.2) (.slice Ao47 t452.length co47)) (fun _ h_ => h_.1))) hb); have n3_ := Aside0.mk (Kd.V_below (by (with_reducible repeat (first | apply Kd.V_alloc | apply Kd.V_drewN | apply Kd.V_drew)); exact (Kd.V_mono (Kd.V_far (p := ⟨gb456, 1, none⟩) (Kd.V_far (p := ⟨gb456, 0, none⟩) (Kd.V_mono HO450.out (fun k_ hk => (⟨hk, hk.2⟩ : _ ∧ k_ ≠ gb456))) (fun _ hk => hk.2) (.bool t451)) (fun _ hk => hk.2) (.slice Ao47 t452.length co47)) (fun _ h_ => h_.1))) hb); have n4_ := Aside0.mk (Kd.V_below (by (with_reducible repeat (first | apply Kd.V_alloc | apply Kd.V_drewN | apply Kd.V_drew)); exact (Kd.V_mono (Kd.V_far (p := ⟨gb456, 1, none⟩) (Kd.V_far (p := ⟨gb456, 0, none⟩) (Kd.V_mono HO454.out (fun k_ hk => (⟨hk, hk.2⟩ : _ ∧ k_ ≠ gb456))) (fun _ hk => hk.2) (.bool t451)) (fun _ hk => hk.2) (.slice Ao47 t452.length co47)) (fun _ h_ => h_.1))) hb); have n5_ := Aside0.mk (Kd.V_lower (Kd.V_mono (ok' := fun k_ => some k_ ≠ (.slice Ao36 t438.length co36 : Value).ownBlock ∧ k_ ≠ gb436 ∧ k_ ≠ gb456) ho0 (fun k_ hk_ => ⟨(Kd.fresh' (Kd.R_lt (by (with_reducible repeat (first | apply Kd.R_alloc | apply Kd.R_drewN | apply Kd.R_drew)); exact (Kd.R_mono (Kd.R_far (p := ⟨gb456, 1, none⟩) (Kd.R_far (p := ⟨gb456, 0, none⟩) (Kd.R_types HO440.out BK456.out (by decide)) (fun _ hk => hk.2) (.bool t451)) (fun _ hk => hk.2) (.slice Ao47 t452.length co47)) (fun _ h_ => h_.1)))) k_ hk_), (Kd.freshB (g := gb436) (o := .cells #[.bool t432, .slice Ao32 t433.length co32] 27 (0, 0)) (zk BK436.out) k_ hk_), (Kd.freshB (g := gb456) (o := .cells #[.bool t451, .slice Ao47 t452.length co47] 27 (0, 0)) (by (with_reducible repeat (first | refine blk_drewN ?_ _ | refine blk_drew ?_ | refine blk_alloc ?_ _)); refine blk_put (cs := #[.bool t451, .slice none 0 0]) ?_ 1 _ rfl; (with_reducible repeat (first | refine blk_drewN ?_ _ | refine blk_drew ?_ | refine blk_alloc ?_ _)); refine blk_put (cs := #[.bool false, .slice none 0 0]) ?_ 0 _ rfl; (with_reducible repeat (first | refine blk_drewN ?_ _ | refine blk_drew ?_ | refine blk_alloc ?_ _)); exact BK456.out) k_ hk_)⟩)) (below_size zb)); have n6_ := Aside0.mk (blk_below (g := gb436) (o := .cells #[.bool t432, .slice Ao32 t433.length co32] 27 (0, 0)) (zk BK436.out) hb); have n7_ := Aside0.mk (blk_below (g := gb456) (o := .cells #[.bool t451, .slice Ao47 t452.length co47] 27 (0, 0)) (by (with_reducible repeat (first | refine blk_drewN ?_ _ | refine blk_drew ?_ | refine blk_alloc ?_ _)); refine blk_put (cs := #[.bool t451, .slice none 0 0]) ?_ 1 _ rfl; (with_reducible repeat (first | refine blk_drewN ?_ _ | refine blk_drew ?_ | refine blk_alloc ?_ _)); refine blk_put (cs := #[.bool false, .slice none 0 0]) ?_ 0 _ rfl; (with_reducible repeat (first | refine blk_drewN ?_ _ | refine blk_drew ?_ | refine blk_alloc ?_ _)); exact BK456.out) hb); have n8_ := Aside0.mk (below_step zb hb); clear HO435; clear HO440; clear HO446; clear HO450; clear HO454; clear BK436; clear BK456; clear HB; have HO435 := n0_; have HO440 := n1_; have HO446 := n2_; have HO450 := n3_; have HO454 := n4_; have HO460 := n5_; have BK436 := n6_; have BK456 := n7_; have HB := n8_; clear n0_ n1_ n2_ n3_ n4_ n5_ n6_ n7_ n8_; (try clear hb); (try clear hb2); (try clear hk); (try clear hi); (try clear ho0)) | ((with_reducible refine gate_callee (f := 25) rfl ?_); refine goesL_ (some 56) rfl rfl Try.func25 (by kernel_rfl) rfl #[.int .i64 (Int.tmod (wrap64 (Int.tdiv t431 4)) 1000000000)] rfl za ?_; (with_reducible refine (impl_BigOf.calls kj2 (Int.tmod (wrap64 (Int.tdiv t431 4)) 1000000000) t461 t462 _ A18.out).mono ?_); rintro e w49 ⟨v463, rfl, ho0, hb⟩; refine ⟨_, rfl, ?_⟩; have n0_ := Aside0.mk (Kd.V_below (zV HO435.out) hb); have n1_ := Aside0.mk (Kd.R_below (zR HO440.out) hb); have n2_ := Aside0.mk (Kd.V_below (zV HO446.out) hb); have n3_ := Aside0.mk (Kd.V_below (zV HO450.out) hb); have n4_ := Aside0.mk (Kd.V_below (zV HO454.out) hb); have n5_ := Aside0.mk (Kd.V_below (zV HO460.out) hb); have n6_ := Aside0.mk (Kd.V_lower (Kd.V_mono (ok' := fun k_ => some k_ ≠ (.slice Ao36 t438.length co36 : Value).ownBlock ∧ k_ ≠ gb436 ∧ k_ ≠ gb456) ho0 (fun k_ hk_ => ⟨(Kd.fresh' (Kd.R_lt (zR HO440.out)) k_ hk_), (Kd.freshB (g := gb436) (o := .cells #[.bool t432, .slice Ao32 t433.length co32] 27 (0, 0)) (zk BK436.out) k_ hk_), (Kd.freshB (g := gb456) (o := .cells #[.bool t451, .slice Ao47 t452.length co47] 27 (0, 0)) (zk BK456.out) k_ hk_)⟩)) (below_size zb)); have n7_ := Aside0.mk (blk_below (g := gb436) (o := .cells #[.bool t432, .slice Ao32 t433.length co32] 27 (0, 0)) (zk BK436.out) hb); have n8_ := Aside0.mk (blk_below (g := gb456) (o := .cells #[.bool t451, .slice Ao47 t452.length co47] 27 (0, 0)) (zk BK456.out) hb); have n9_ := Aside0.mk (below_step zb hb); clear HO435; clear HO440; clear HO446; clear HO450; clear HO454; clear HO460; clear BK436; clear BK456; clear HB; have HO435 := n0_; have HO440 := n1_; have HO446 := n2_; have HO450 := n3_; have HO454 := n4_; have HO460 := n5_; have HO464 := n6_; have BK436 := n7_; have BK456 := n8_; have HB := n9_; clear n0_ n1_ n2_ n3_ n4_ n5_ n6_ n7_ n8_ n9_; (try clear hb); (try clear hb2); (try clear hk); (try clear hi); (try clear ho0); obtain ⟨Ao50, co50, eo50⟩ := Kd.V_slice HO460.out; subst eo50; obtain ⟨Ao51, co51, eo51⟩ := Kd.V_slice HO464.out; subst eo51) | ((with_reducible refine gate_callee (f := 33) rfl ?_); refine goesL_ (some 57) rfl rfl Try.func33 (by kernel_rfl) rfl #[.agg #[.bool t457, .slice Ao50 t458.length co50], .agg #[.bool t461, .slice Ao51 t462.length co51]] rfl za ?_; (with_reducible refine (impl_BigMul.calls kj2 t457 (fun k_ => (some k_ ≠ (.slice Ao36 t438.length co36 : Value).ownBlock ∧ (k_ ≠ gb436 ∧ k_ ≠ gb456))) _ _ t458 t461 (fun k_ => (some k_ ≠ (.slice Ao36 t438.length co36 : Value).ownBlock ∧ (k_ ≠ gb436 ∧ k_ ≠ gb456))) _ _ t462 t465 t466 true _ ?side1 ?side2 A19.out).mono ?_); (case side1 => exact HO460.out); (case side2 => exact HO464.out); rintro e w52 ⟨v467, rfl, ho0, hb⟩; refine ⟨_, rfl, ?_⟩; have n0_ := Aside0.mk (Kd.V_below (zV HO435.out) hb); have n1_ := Aside0.mk (Kd.R_below (zR HO440.out) hb); have n2_ := Aside0.mk (Kd.V_below (zV HO446.out) hb); have n3_ := Aside0.mk (Kd.V_below (zV HO450.out) hb); have n4_ := Aside0.mk (Kd.V_below (zV HO454.out) hb); have n5_ := Aside0.mk (Kd.V_below (zV HO460.out) hb); have n6_ := Aside0.mk (Kd.V_below (zV HO464.out) hb); have n7_ := Aside0.mk (Kd.V_lower (Kd.V_mono (ok' := fun k_ => some k_ ≠ (.slice Ao36 t438.length co36 : Value).ownBlock ∧ k_ ≠ gb436 ∧ k_ ≠ gb456) ho0 (fun k_ hk_ => ⟨Or.elim hk_ (fun hs_ => Or.elim hs_ (fun hs_ => hs_.1) (fun hs_ => hs_.1)) (fun hn_ => (Kd.fresh' (Kd.R_lt (zR HO440.out)) k_ hn_)), Or.elim hk_ (fun hs_ => Or.elim hs_ (fun hs_ => hs_.2.1) (fun hs_ => hs_.2.1)) (fun hn_ => (Kd.freshB (g := gb436) (o := .cells #[.bool t432, .slice Ao32 t433.length co32] 27 (0, 0)) (zk BK436.out) k_ hn_)), Or.elim hk_ (fun hs_ => Or.elim hs_ (fun hs_ => hs_.2.2) (fun hs_ => hs_.2.2)) (fun hn_ => (Kd.freshB (g := gb456) (o := .cells #[.bool t451, .slice Ao47 t452.length co47] 27 (0, 0)) (zk BK456.out) k_ hn_))⟩)) (below_size zb)); have n8_ := Aside0.mk (blk_below (g := gb436) (o := .cells #[.bool t432, .slice Ao32 t433.length co32] 27 (0, 0)) (zk BK436.out) hb); have n9_ := Aside0.mk (blk_below (g := gb456) (o := .cells #[.bool t451, .slice Ao47 t452.length co47] 27 (0, 0)) (zk BK456.out) hb); have n10_ := Aside0.mk (below_step zb hb); clear HO435; clear HO440; clear HO446; clear HO450; clear HO454; clear HO460; clear HO464; clear BK436; clear BK456; clear HB; have HO435 := n0_; have HO440 := n1_; have HO446 := n2_; have HO450 := n3_; have HO454 := n4_; have HO460 := n5_; have HO464 := n6_; have HO468 := n7_; have BK436 := n8_; have BK456 := n9_; have HB := n10_; clear n0_ n1_ n2_ n3_ n4_ n5_ n6_ n7_ n8_ n9_ n10_; (try clear hb); (try clear hb2); (try clear hk); (try clear hi); (try clear ho0)) | ((with_reducible refine gate_dst (N := 12) rfl ?_); (try (refine gate_guard (by rfl) ?_; dsimp only)); refine box_event ?hg (N := 12) ?hd (cs := #[.bool false, .slice none 0 0]) (t := 27) ?hr ?_; (case hd => rfl); (case hg => rfl); (case hr => first | (go_simp; done) | (go_simp; rfl)); intro gb470 hg w53 hbox hb; have n0_ := Aside0.mk (Kd.V_below (Kd.V_elderB (zV HO435.out) gb470 (Nat.le_of_eq hg.symm)) hb); have n1_ := Aside0.mk (Kd.R_below (zR HO440.out) hb); have n2_ := Aside0.mk (Kd.V_below (Kd.V_elderB (zV HO446.out) gb470 (Nat.le_of_eq hg.symm)) hb); have n3_ := Aside0.mk (Kd.V_below (Kd.V_elderB (zV HO450.out) gb470 (Nat.le_of_eq hg.symm)) hb); have n4_ := Aside0.mk (Kd.V_below (Kd.V_elderB (zV HO454.out) gb470 (Nat.le_of_eq hg.symm)) hb); have n5_ := Aside0.mk (Kd.V_below (Kd.V_elderB (zV HO460.out) gb470 (Nat.le_of_eq hg.symm)) hb); have n6_ := Aside0.mk (Kd.V_below (Kd.V_elderB (zV HO464.out) gb470 (Nat.le_of_eq hg.symm)) hb); have n7_ := Aside0.mk (Kd.V_below (Kd.V_elderB (zV HO468.out) gb470 (Nat.le_of_eq hg.symm)) hb); have n8_ := Aside0.mk (blk_below (g := gb436) (o := .cells #[.bool t432, .slice Ao32 t433.length co32] 27 (0, 0)) (zk BK436.out) hb); have n9_ := Aside0.mk (blk_below (g := gb456) (o := .cells #[.bool t451, .slice Ao47 t452.length co47] 27 (0, 0)) (zk BK456.out) hb); have n10_ := Aside0.mk (below_step zb hb); have n11_ := Aside0.mk (hbox); have n12_ := Aside0.mk ((by rw [hg]; exact (below_size zb) : w.heap.size ≤ gb470)); have n13_ := Aside0.mk ((by rw [hg]; exact (below_size zb) : w.heap.size ≤ gb470)); have n14_ := Aside0.mk ((by rw [hg]; exact Nat.ne_of_lt (blk_lt (g := gb436) (o := .cells #[.bool t432, .slice Ao32 t433.length co32] 27 (0, 0)) (zk BK436.out)) : gb436 ≠ gb470)); have n15_ := Aside0.mk ((by rw [hg]; exact Nat.ne_of_gt (blk_lt (g := gb436) (o := .cells #[.bool t432, .slice Ao32 t433.length co32] 27 (0, 0)) (zk BK436.out)) : gb470 ≠ gb436)); have n16_ := Aside0.mk ((by rw [hg]; exact Nat.ne_of_lt (blk_lt (g := gb456) (o := .cells #[.bool t451, .slice Ao47 t452.length co47] 27 (0, 0)) (zk BK456.out)) : gb456 ≠ gb470)); have n17_ := Aside0.mk ((by rw [hg]; exact Nat.ne_of_gt (blk_lt (g := gb456) (o := .cells #[.bool t451, .slice Ao47 t452.length co47] 27 (0, 0)) (zk BK456.out)) : gb470 ≠ gb456)); clear HO435; clear HO440; clear HO446; clear HO450; clear HO454; clear HO460; clear HO464; clear HO468; clear BK436; clear BK456; clear HB; have HO435 := n0_; have HO440 := n1_; have HO446 := n2_; have HO450 := n3_; have HO454 := n4_; have HO460 := n5_; have HO464 := n6_; have HO468 := n7_; have BK436 := n8_; have BK456 := n9_; have HB := n10_; have BK470 := n11_; have GW470 := n12_; have GE470 := n13_; have NB436_470 := n14_; have NB470_436 := n15_; have NB456_470 := n16_; have NB470_456 := n17_; clear n0_ n1_ n2_ n3_ n4_ n5_ n6_ n7_ n8_ n9_ n10_ n11_ n12_ n13_ n14_ n15_ n16_ n17_; clear hb hbox hg; have hnb54 := NB470_436.out; have hnc54 := NB436_470.out; have hnb55 := NB470_456.out; have hnc55 := NB456_470.out; have hcz56_0 : w53.cell? ⟨gb470, 0, none⟩ = some (.bool false) := (blk_cell BK470.out 0).trans rfl; have hcz56_1 : w53.cell? ⟨gb470, 1, none⟩ = some (.slice none 0 0) := (blk_cell BK470.out 1).trans rfl; have hfz56_0 := blk_frozen BK470.out 0; have hfz56_1 := blk_frozen BK470.out 1; obtain ⟨Ao57, co57, eo57⟩ := Kd.V_slice HO468.out; subst eo57))
                  have n0_ : Aside0 (Kd.V (Kd.int .i64) 3 ((w53.setCell ⟨gb470, 0, none⟩ (.bool t465)).setCell ⟨gb470, 1, none⟩ (.slice Ao57 t466.length co57)) w.heap.size (fun k_ => some k_ ≠ (.slice Ao36 t438.length co36 : Value).ownBlock ∧ k_ ≠ gb436 ∧ k_ ≠ gb456 ∧ k_ ≠ gb470) (.slice Ao32 t433.length co32) t433) := ⟨by (with_reducible repeat (first | apply Kd.V_alloc | apply Kd.V_drewN | apply Kd.V_drew)); exact Kd.V_mono (Kd.V_far (p := ⟨gb470, 1, none⟩) (Kd.V_far (p := ⟨gb470, 0, none⟩) (Kd.V_mono HO435.out (fun k_ hk => (⟨hk, hk.2⟩ : _ ∧ k_ ≠ gb470))) (fun _ hk => hk.2) (.bool t465)) (fun _ hk => hk.2) (.slice Ao57 t466.length co57)) (fun _ hk => ⟨hk.1.1.1.2, ⟨hk.1.1.1.1, ⟨hk.1.1.2, hk.1.2⟩⟩⟩)⟩
                  have n1_ : Aside0 (Kd.R (Kd.int .i64) 3 ((w53.setCell ⟨gb470, 0, none⟩ (.bool t465)).setCell ⟨gb470, 1, none⟩ (.slice Ao57 t466.length co57)) w.heap.size (fun _ => True) (.slice Ao36 t438.length co36) t438) := ⟨by (with_reducible repeat (first | apply Kd.R_alloc | apply Kd.R_drewN | apply Kd.R_drew)); exact Kd.R_mono (Kd.R_far (p := ⟨gb470, 1, none⟩) (Kd.R_far (p := ⟨gb470, 0, none⟩) (Kd.R_types HO440.out BK470.out (by decide)) (fun _ hk => hk.2) (.bool t465)) (fun _ hk => hk.2) (.slice Ao57 t466.length co57)) (fun _ hk => trivial)⟩
                  have n2_ : Aside0 (Kd.V (Kd.int .i64) 3 ((w53.setCell ⟨gb470, 0, none⟩ (.bool t465)).setCell ⟨gb470, 1, none⟩ (.slice Ao57 t466.length co57)) w.heap.size (fun k_ => some k_ ≠ (.slice Ao36 t438.length co36 : Value).ownBlock ∧ k_ ≠ gb436 ∧ k_ ≠ gb456 ∧ k_ ≠ gb470) (.slice Ao41 t444.length co41) t444) := ⟨by (with_reducible repeat (first | apply Kd.V_alloc | apply Kd.V_drewN | apply Kd.V_drew)); exact Kd.V_mono (Kd.V_far (p := ⟨gb470, 1, none⟩) (Kd.V_far (p := ⟨gb470, 0, none⟩) (Kd.V_mono HO446.out (fun k_ hk => (⟨hk, hk.2⟩ : _ ∧ k_ ≠ gb470))) (fun _ hk => hk.2) (.bool t465)) (fun _ hk => hk.2) (.slice Ao57 t466.length co57)) (fun _ hk => ⟨hk.1.1.1.1, ⟨hk.1.1.1.2, ⟨hk.1.1.2, hk.1.2⟩⟩⟩)⟩
                  have n3_ : Aside0 (Kd.V (Kd.int .i64) 3 ((w53.setCell ⟨gb470, 0, none⟩ (.bool t465)).setCell ⟨gb470, 1, none⟩ (.slice Ao57 t466.length co57)) w.heap.size (fun k_ => some k_ ≠ (.slice Ao36 t438.length co36 : Value).ownBlock ∧ k_ ≠ gb436 ∧ k_ ≠ gb456 ∧ k_ ≠ gb470) (.slice Ao42 t448.length co42) t448) := ⟨by (with_reducible repeat (first | apply Kd.V_alloc | apply Kd.V_drewN | apply Kd.V_drew)); exact Kd.V_mono (Kd.V_far (p := ⟨gb470, 1, none⟩) (Kd.V_far (p := ⟨gb470, 0, none⟩) (Kd.V_mono HO450.out (fun k_ hk => (⟨hk, hk.2⟩ : _ ∧ k_ ≠ gb470))) (fun _ hk => hk.2) (.bool t465)) (fun _ hk => hk.2) (.slice Ao57 t466.length co57)) (fun _ hk => ⟨hk.1.1.1.1, ⟨hk.1.1.1.2, ⟨hk.1.1.2, hk.1.2⟩⟩⟩)⟩
                  have n4_ : Aside0 (Kd.V (Kd.int .i64) 3 ((w53.setCell ⟨gb470, 0, none⟩ (.bool t465)).setCell ⟨gb470, 1, none⟩ (.slice Ao57 t466.length co57)) w.heap.size (fun k_ => some k_ ≠ (.slice Ao36 t438.length co36 : Value).ownBlock ∧ k_ ≠ gb436 ∧ k_ ≠ gb456 ∧ k_ ≠ gb470) (.slice Ao47 t452.length co47) t452) := ⟨by (with_reducible repeat (first | apply Kd.V_alloc | apply Kd.V_drewN | apply Kd.V_drew)); exact Kd.V_mono (Kd.V_far (p := ⟨gb470, 1, none⟩) (Kd.V_far (p := ⟨gb470, 0, none⟩) (Kd.V_mono HO454.out (fun k_ hk => (⟨hk, hk.2⟩ : _ ∧ k_ ≠ gb470))) (fun _ hk => hk.2) (.bool t465)) (fun _ hk => hk.2) (.slice Ao57 t466.length co57)) (fun _ hk => ⟨hk.1.1.1.1, ⟨hk.1.1.1.2, ⟨hk.1.1.2, hk.1.2⟩⟩⟩)⟩
                  have n5_ : Aside0 (Kd.V (Kd.int .i64) 3 ((w53.setCell ⟨gb470, 0, none⟩ (.bool t465)).setCell ⟨gb470, 1, none⟩ (.slice Ao57 t466.length co57)) w.heap.size (fun k_ => some k_ ≠ (.slice Ao36 t438.length co36 : Value).ownBlock ∧ k_ ≠ gb436 ∧ k_ ≠ gb456 ∧ k_ ≠ gb470) (.slice Ao50 t458.length co50) t458) := ⟨by (with_reducible repeat (first | apply Kd.V_alloc | apply Kd.V_drewN | apply Kd.V_drew)); exact Kd.V_mono (Kd.V_far (p := ⟨gb470, 1, none⟩) (Kd.V_far (p := ⟨gb470, 0, none⟩) (Kd.V_mono HO460.out (fun k_ hk => (⟨hk, hk.2⟩ : _ ∧ k_ ≠ gb470))) (fun _ hk => hk.2) (.bool t465)) (fun _ hk => hk.2) (.slice Ao57 t466.length co57)) (fun _ hk => ⟨hk.1.1.1, ⟨hk.1.1.2.1, ⟨hk.1.1.2.2, hk.1.2⟩⟩⟩)⟩
                  have n6_ : Aside0 (Kd.V (Kd.int .i64) 3 ((w53.setCell ⟨gb470, 0, none⟩ (.bool t465)).setCell ⟨gb470, 1, none⟩ (.slice Ao57 t466.length co57)) w.heap.size (fun k_ => some k_ ≠ (.slice Ao36 t438.length co36 : Value).ownBlock ∧ k_ ≠ gb436 ∧ k_ ≠ gb456 ∧ k_ ≠ gb470) (.slice Ao51 t462.length co51) t462) := ⟨by (with_reducible repeat (first | apply Kd.V_alloc | apply Kd.V_drewN | apply Kd.V_drew)); exact Kd.V_mono (Kd.V_far (p := ⟨gb470, 1, none⟩) (Kd.V_far (p := ⟨gb470, 0, none⟩) (Kd.V_mono HO464.out (fun k_ hk => (⟨hk, hk.2⟩ : _ ∧ k_ ≠ gb470))) (fun _ hk => hk.2) (.bool t465)) (fun _ hk => hk.2) (.slice Ao57 t466.length co57)) (fun _ hk => ⟨hk.1.1.1, ⟨hk.1.1.2.1, ⟨hk.1.1.2.2, hk.1.2⟩⟩⟩)⟩
                  have n7_ : Aside0 (Kd.V (Kd.int .i64) 3 ((w53.setCell ⟨gb470, 0, none⟩ (.bool t465)).setCell ⟨gb470, 1, none⟩ (.slice Ao57 t466.length co57)) w.heap.size (fun k_ => some k_ ≠ (.slice Ao36 t438.length co36 : Value).ownBlock ∧ k_ ≠ gb436 ∧ k_ ≠ gb456 ∧ k_ ≠ gb470) (.slice Ao57 t466.length co57) t466) := ⟨by (with_reducible repeat (first | apply Kd.V_alloc | apply Kd.V_drewN | apply Kd.V_drew)); exact Kd.V_mono (Kd.V_far (p := ⟨gb470, 1, none⟩) (Kd.V_far (p := ⟨gb470, 0, none⟩) (Kd.V_mono HO468.out (fun k_ hk => (⟨hk, hk.2⟩ : _ ∧ k_ ≠ gb470))) (fun _ hk => hk.2) (.bool t465)) (fun _ hk => hk.2) (.slice Ao57 t466.length co57)) (fun _ hk => ⟨hk.1.1.1, ⟨hk.1.1.2.1, ⟨hk.1.1.2.2, hk.1.2⟩⟩⟩)⟩
                  have n8_ : Aside0 (((w53.setCell ⟨gb470, 0, none⟩ (.bool t465)).setCell ⟨gb470, 1, none⟩ (.slice Ao57 t466.length co57)).heap[gb436]? = some (.cells #[.bool t432, .slice Ao32 t433.length co32] 27 (0, 0))) := ⟨by (with_reducible repeat (first | refine blk_drewN ?_ _ | refine blk_drew ?_ | refine blk_alloc ?_ _)); refine blk_far ?_ NB436_470.out _; (with_reducible repeat (first | refine blk_drewN ?_ _ | refine blk_drew ?_ | refine blk_alloc ?_ _)); refine blk_far ?_ NB436_470.out _; (with_reducible repeat (first | refine blk_drewN ?_ _ | refine blk_drew ?_ | refine blk_alloc ?_ _)); exact BK436.out⟩
                  have n9_ : Aside0 (((w53.setCell ⟨gb470, 0, none⟩ (.bool t465)).setCell ⟨gb470, 1, none⟩ (.slice Ao57 t466.length co57)).heap[gb456]? = some (.cells #[.bool t451, .slice Ao47 t452.length co47] 27 (0, 0))) := ⟨by (with_reducible repeat (first | refine blk_drewN ?_ _ | refine blk_drew ?_ | refine blk_alloc ?_ _)); refine blk_far ?_ NB456_470.out _; (with_reducible repeat (first | refine blk_drewN ?_ _ | refine blk_drew ?_ | refine blk_alloc ?_ _)); refine blk_far ?_ NB456_470.out _; (with_reducible repeat (first | refine blk_drewN ?_ _ | refine blk_drew ?_ | refine blk_alloc ?_ _)); exact BK456.out⟩
                  have n10_ : Aside0 (((w53.setCell ⟨gb470, 0, none⟩ (.bool t465)).setCell ⟨gb470, 1, none⟩ (.slice Ao57 t466.length co57)).heap[gb470]? = some (.cells #[.bool t465, .slice Ao57 t466.length co57] 27 (0, 0))) := ⟨by (with_reducible repeat (first | refine blk_drewN ?_ _ | refine blk_drew ?_ | refine blk_alloc ?_ _)); refine blk_put (cs := #[.bool t465, .slice none 0 0]) ?_ 1 _ rfl; (with_reducible repeat (first | refine blk_drewN ?_ _ | refine blk_drew ?_ | refine blk_alloc ?_ _)); refine blk_put (cs := #[.bool false, .slice none 0 0]) ?_ 0 _ rfl; (with_reducible repeat (first | refine blk_drewN ?_ _ | refine blk_drew ?_ | refine blk_alloc ?_ _)); exact BK470.out⟩
                  have n11_ : Aside0 (Below w.heap.size w ((w53.setCell ⟨gb470, 0, none⟩ (.bool t465)).setCell ⟨gb470, 1, none⟩ (.slice Ao57 t466.length co57))) := ⟨zb⟩
                  (try clear HO435)
                  (try clear HO440)
                  (try clear HO446)
                  (try clear HO450)
                  (try clear HO454)
                  (try clear HO460)
                  (try clear HO464)
                  (try clear HO468)
                  (try clear BK436)
                  (try clear BK456)
                  (try clear BK470)
                  (try clear HB)
                  generalize ((w53.setCell ⟨gb470, 0, none⟩ (.bool t465)).setCell ⟨gb470, 1, none⟩ (.slice Ao57 t466.length co57)) = w58 at n0_ n1_ n2_ n3_ n4_ n5_ n6_ n7_ n8_ n9_ n10_ n11_ ⊢
                  have HO435 := n0_
                  have HO440 := n1_
                  have HO446 := n2_
                  have HO450 := n3_
                  have HO454 := n4_
                  have HO460 := n5_
                  have HO464 := n6_
                  have HO468 := n7_
                  have BK436 := n8_
                  have BK456 := n9_
                  have BK470 := n10_
                  have HB := n11_
                  clear n0_ n1_ n2_ n3_ n4_ n5_ n6_ n7_ n8_ n9_ n10_ n11_
                  have n0_ := Aside0.mk (Kd.V_drew HO435.out)
                  have n1_ := Aside0.mk (Kd.R_drew HO440.out)
                  have n2_ := Aside0.mk (Kd.V_drew HO446.out)
                  have n3_ := Aside0.mk (Kd.V_drew HO450.out)
                  have n4_ := Aside0.mk (Kd.V_drew HO454.out)
                  have n5_ := Aside0.mk (Kd.V_drew HO460.out)
                  have n6_ := Aside0.mk (Kd.V_drew HO464.out)
                  have n7_ := Aside0.mk (Kd.V_drew HO468.out)
                  have n8_ := Aside0.mk (blk_drew BK436.out)
                  have n9_ := Aside0.mk (blk_drew BK456.out)
                  have n10_ := Aside0.mk (blk_drew BK470.out)
                  have n11_ := Aside0.mk (below_drew1 HB.out)
                  clear HO435
                  clear HO440
                  clear HO446
                  clear HO450
                  clear HO454
                  clear HO460
                  clear HO464
                  clear HO468
                  clear BK436
                  clear BK456
                  clear BK470
                  clear HB
                  have HO435 := n0_
                  have HO440 := n1_
                  have HO446 := n2_
                  have HO450 := n3_
                  have HO454 := n4_
                  have HO460 := n5_
                  have HO464 := n6_
                  have HO468 := n7_
                  have BK436 := n8_
                  have BK456 := n9_
                  have BK470 := n10_
                  have HB := n11_
                  clear n0_ n1_ n2_ n3_ n4_ n5_ n6_ n7_ n8_ n9_ n10_ n11_
                  refine start_ (n := 23) (S := fun w' => w'.cell? ⟨gb456, 0, none⟩ = some (.bool t451) ∧ w'.cell? ⟨gb456, 1, none⟩ = some (.slice Ao47 t452.length co47) ∧ w'.cell? ⟨gb470, 0, none⟩ = some (.bool t465) ∧ w'.cell? ⟨gb470, 1, none⟩ = some (.slice Ao57 t466.length co57)) (ds := []) #[false, false, false, false, false, false, false, false, false, false, false, false, false, false, false, false, false, false, false, false, false, false, false] (by kernel_rfl) rfl rfl ⟨(blk_cell BK456.out 0).trans rfl, (blk_cell BK456.out 1).trans rfl, (blk_cell BK470.out 0).trans rfl, (blk_cell BK470.out 1).trans rfl⟩ (fun hHeld => ?_); refine with_tabW laws_FnBigOf.tab12 laws_FnBigOf.bits12 (fun HT_ HW_ => ?_)
                  generalize w58.drew = w59 at HO435 HO440 HO446 HO450 HO454 HO460 HO464 HO468 BK436 BK456 BK470 HB hHeld ⊢
                  refine pure_ (i := 0) (N := some 60) (v := ?_) (a' := ?_) #[true, false, false, false, false, false, false, false, false, false, false, false, false, false, false, false, false, false, false, false, false, false, false] rfl rfl (any_of HT_.out (by kernel_rfl)) (fun _ _ _ h => h) (Or.inl ⟨by rfl, ?_⟩) ?_ ?_
                  rotate_left
                  · intro w'
                    go_simp
                    with_reducible rfl
                  rotate_left
                  · simp only [Act.put, List.setIfInBounds_toArray, List.set_cons_zero, List.set_cons_succ, i64_w, i32_w]
                    rfl
                  refine pure_ (i := 1) (N := some 61) (v := ?_) (a' := ?_) #[true, true, false, false, false, false, false, false, false, false, false, false, false, false, false, false, false, false, false, false, false, false, false] rfl rfl (any_of HT_.out (by kernel_rfl)) (fun _ _ _ h => h) (Or.inl ⟨by rfl, ?_⟩) ?_ ?_
                  rotate_left
                  · intro w'
                    go_simp
                    with_reducible rfl
                  rotate_left
                  · simp only [Act.put, List.setIfInBounds_toArray, List.set_cons_zero, List.set_cons_succ, i64_w, i32_w]
                    rfl
                  refine pure_ (i := 2) (N := some 62) (v := ?_) (a' := ?_) #[true, true, true, false, false, false, false, false, false, false, false, false, false, false, false, false, false, false, false, false, false, false, false] rfl rfl (any_of HT_.out (by kernel_rfl)) (fun _ _ _ h => h) (Or.inl ⟨by rfl, ?_⟩) ?_ ?_
                  rotate_left
                  · intro w'
                    go_simp
                    with_reducible rfl
                  rotate_left
                  · simp only [Act.put, List.setIfInBounds_toArray, List.set_cons_zero, List.set_cons_succ, i64_w, i32_w]
                    rfl
                  refine pure_ (i := 3) (N := some 63) (v := ?_) (a' := ?_) #[true, true, true, true, false, false, false, false, false, false, false, false, false, false, false, false, false, false, false, false, false, false, false] rfl rfl (any_of HT_.out (by kernel_rfl)) (fun _ _ _ h => h) (Or.inl ⟨by rfl, ?_⟩) ?_ ?_
                  rotate_left
                  · intro w'
                    go_simp
                    with_reducible rfl
                  rotate_left
                  · simp only [Act.put, List.setIfInBounds_toArray, List.set_cons_zero, List.set_cons_succ, i64_w, i32_w]
                    rfl
                  refine pure_ (i := 4) (N := some 64) (v := ?_) (a' := ?_) #[true, true, true, true, true, false, false, false, false, false, false, false, false, false, false, false, false, false, false, false, false, false, false] rfl rfl (any_of HT_.out (by kernel_rfl)) (fun _ _ _ h => h) (Or.inl ⟨by rfl, ?_⟩) ?_ ?_
                  rotate_left
                  · intro w'
                    go_simp
                    with_reducible rfl
                  rotate_left
                  · simp only [Act.put, List.setIfInBounds_toArray, List.set_cons_zero, List.set_cons_succ, i64_w, i32_w]
                    rfl
                  refine pure_ (i := 6) (N := some 66) (v := ?_) (a' := ?_) #[true, true, true, true, true, false, true, false, false, false, false, false, false, false, false, false, false, false, false, false, false, false, false] rfl rfl (any_of HT_.out (by kernel_rfl)) (fun _ _ _ h => h) (Or.inl ⟨by rfl, ?_⟩) ?_ ?_
                  rotate_left
                  · intro w'
                    go_simp
                    with_reducible rfl
                  rotate_left
                  · simp only [Act.put, List.setIfInBounds_toArray, List.set_cons_zero, List.set_cons_succ, i64_w, i32_w]
                    rfl
                  refine pure_ (i := 7) (N := some 67) (v := ?_) (a' := ?_) #[true, true, true, true, true, false, true, true, false, false, false, false, false, false, false, false, false, false, false, false, false, false, false] rfl rfl (any_of HT_.out (by kernel_rfl)) (fun _ _ _ h => h) (Or.inl ⟨by rfl, ?_⟩) ?_ ?_
                  rotate_left
                  · intro w'
                    go_simp
                    with_reducible rfl
                  rotate_left
                  · simp only [Act.put, List.setIfInBounds_toArray, List.set_cons_zero, List.set_cons_succ, i64_w, i32_w]
                    rfl
                  refine pure_ (i := 8) (N := some 68) (v := ?_) (a' := ?_) #[true, true, true, true, true, false, true, true, true, false, false, false, false, false, false, false, false, false, false, false, false, false, false] rfl rfl (any_of HT_.out (by kernel_rfl)) (fun _ _ _ h => h) (Or.inl ⟨by rfl, ?_⟩) ?_ ?_
                  rotate_left
                  · intro w'
                    go_simp
                    with_reducible rfl
                  rotate_left
                  · simp only [Act.put, List.setIfInBounds_toArray, List.set_cons_zero, List.set_cons_succ, i64_w, i32_w]
                    rfl
                  refine take_ (i := 5) (N := some 65) (v := ?_) (a' := ?_) #[true, true, true, true, true, true, true, true, true, false, false, false, false, false, false, false, false, false, false, false, false, false, false] rfl rfl (take_ofW HT_.out HW_.out (by kernel_rfl)) (fun _ _ _ h => h) (Or.inl ⟨by rfl, ?_⟩) hHeld ?_ ?_
                  rotate_left
                  · rintro w' ⟨s0, s1, s2, s3⟩
                    go_simp
                    with_reducible rfl
                  rotate_left
                  · simp only [Act.put, List.setIfInBounds_toArray, List.set_cons_zero, List.set_cons_succ, i64_w, i32_w]
                    rfl
                  refine one_ (i := 9) (N := some 69) #[true, true, true, true, true, true, true, true, true, true, false, false, false, false, false, false, false, false, false, false, false, false, false] rfl rfl (one_of HT_.out (by kernel_rfl)) (by decide) (fun K hK => ?_)
                  refine goes_ Try.func25 (by kernel_rfl) rfl #[.int .i64 (wrap64 ((wrap64 (Int.tdiv t430 4)) + (wrap64 (Int.tdiv t431 4))))] (by rfl) rfl rfl za ?_
                  with_reducible refine (impl_BigOf.calls kj2 (wrap64 ((wrap64 (Int.tdiv t430 4)) + (wrap64 (Int.tdiv t431 4)))) t471 t472 _ A22.out).mono ?_
                  rintro e w60 ⟨v473, rfl, ho0, hb⟩
                  refine ⟨_, rfl, ?_⟩
                  have n0_ := Aside0.mk (Kd.V_below (zV HO435.out) hb)
                  have n1_ := Aside0.mk (Kd.R_below (zR HO440.out) hb)
                  have n2_ := Aside0.mk (Kd.V_below (zV HO446.out) hb)
                  have n3_ := Aside0.mk (Kd.V_below (zV HO450.out) hb)
                  have n4_ := Aside0.mk (Kd.V_below (zV HO454.out) hb)
                  have n5_ := Aside0.mk (Kd.V_below (zV HO460.out) hb)
                  have n6_ := Aside0.mk (Kd.V_below (zV HO464.out) hb)
                  have n7_ := Aside0.mk (Kd.V_below (zV HO468.out) hb)
                  have n8_ := Aside0.mk (Kd.V_lower (Kd.V_mono (ok' := fun k_ => some k_ ≠ (.slice Ao36 t438.length co36 : Value).ownBlock ∧ k_ ≠ gb436 ∧ k_ ≠ gb456 ∧ k_ ≠ gb470) ho0 (fun k_ hk_ => ⟨(Kd.fresh' (Kd.R_lt (zR HO440.out)) k_ hk_), (Kd.freshB (g := gb436) (o := .cells #[.bool t432, .slice Ao32 t433.length co32] 27 (0, 0)) (zk BK436.out) k_ hk_), (Kd.freshB (g := gb456) (o := .cells #[.bool t451, .slice Ao47 t452.length co47] 27 (0, 0)) (zk BK456.out) k_ hk_), (Kd.freshB (g := gb470) (o := .cells #[.bool t465, .slice Ao57 t466.length co57] 27 (0, 0)) (zk BK470.out) k_ hk_)⟩)) (below_size zb))
                  have n9_ := Aside0.mk (blk_below (g := gb436) (o := .cells #[.bool t432, .slice Ao32 t433.length co32] 27 (0, 0)) (zk BK436.out) hb)
                  have n10_ := Aside0.mk (blk_below (g := gb456) (o := .cells #[.bool t451, .slice Ao47 t452.length co47] 27 (0, 0)) (zk BK456.out) hb)
                  have n11_ := Aside0.mk (blk_below (g := gb470) (o := .cells #[.bool t465, .slice Ao57 t466.length co57] 27 (0, 0)) (zk BK470.out) hb)
                  have n12_ := Aside0.mk (below_step zb hb)
                  clear HO435
                  clear HO440
                  clear HO446
                  clear HO450
                  clear HO454
                  clear HO460
                  clear HO464
                  clear HO468
                  clear BK436
                  clear BK456
                  clear BK470
                  clear HB
                  have HO435 := n0_
                  have HO440 := n1_
                  have HO446 := n2_
                  have HO450 := n3_
                  have HO454 := n4_
                  have HO460 := n5_
                  have HO464 := n6_
                  have HO468 := n7_
                  have HO474 := n8_
                  have BK436 := n9_
                  have BK456 := n10_
                  have BK470 := n11_
                  have HB := n12_
                  clear n0_ n1_ n2_ n3_ n4_ n5_ n6_ n7_ n8_ n9_ n10_ n11_ n12_
                  (try clear hb)
                  (try clear hb2)
                  (try clear hk)
                  (try clear hi)
                  (try clear ho0)
                  obtain ⟨Ao61, co61, eo61⟩ := Kd.V_slice HO474.out
                  (first | subst eo61 | (injection eo61 with f1_ f2_ f3_; have f4_ := f1_.symm; have f5_ := f3_.symm; clear f1_ f2_ f3_; subst f4_; subst f5_))
                  refine hK.out _ _ ⟨(blk_cell BK456.out 0).trans rfl, (blk_cell BK456.out 1).trans rfl, (blk_cell BK470.out 0).trans rfl, (blk_cell BK470.out 1).trans rfl⟩ (fun hHeld => ?_)
                  clear hK K
                  refine norm_ (a' := ?_) ?_ ?_
                  rotate_left
                  · show Act.put _ (some 69) _ = _
                    simp only [Act.put, List.setIfInBounds_toArray, List.set_cons_zero, List.set_cons_succ, i64_w, i32_w]
                    rfl
                  refine one_ (i := 10) (N := some 70) #[true, true, true, true, true, true, true, true, true, true, true, false, false, false, false, false, false, false, false, false, false, false, false] rfl rfl (one_of HT_.out (by kernel_rfl)) (by decide) (fun K hK => ?_)
                  refine goes_ Try.func31 (by kernel_rfl) rfl #[.agg #[.bool t451, .slice Ao47 t452.length co47], .agg #[.bool t471, .slice Ao61 t472.length co61]] (by rfl) rfl rfl za ?_
                  with_reducible refine (laws_jtBig.calls kj2 t451 _ _ t452 t471 _ _ t472 true _ ?side1 ?side2 ?side3 ?side4 A23.out).mono ?_
                  (case side1 => repeat (first | exact (Kd.V_reads' HO454.out).2.2 | (with_reducible refine Kd.C_alloc ?_ _) | (with_reducible refine Kd.C_drewN ?_ _) | (with_reducible refine Kd.C_drew ?_)))
                  (case side2 => exact (Kd.V_reads' HO454.out).2.1)
                  (case side3 => repeat (first | exact (Kd.V_reads' HO474.out).2.2 | (with_reducible refine Kd.C_alloc ?_ _) | (with_reducible refine Kd.C_drewN ?_ _) | (with_reducible refine Kd.C_drew ?_)))
                  (case side4 => exact (Kd.V_reads' HO474.out).2.1)
                  rintro e w62 ⟨rfl, hb⟩
                  refine ⟨_, rfl, ?_⟩
                  have n0_ := Aside0.mk (Kd.V_below (zV HO435.out) hb)
                  have n1_ := Aside0.mk (Kd.R_below (zR HO440.out) hb)
                  have n2_ := Aside0.mk (Kd.V_below (zV HO446.out) hb)
                  have n3_ := Aside0.mk (Kd.V_below (zV HO450.out) hb)
                  have n4_ := Aside0.mk (Kd.V_below (zV HO454.out) hb)
                  have n5_ := Aside0.mk (Kd.V_below (zV HO460.out) hb)
                  have n6_ := Aside0.mk (Kd.V_below (zV HO464.out) hb)
                  have n7_ := Aside0.mk (Kd.V_below (zV HO468.out) hb)
                  have n8_ := Aside0.mk (Kd.V_below (zV HO474.out) hb)
                  have n9_ := Aside0.mk (blk_below (g := gb436) (o := .cells #[.bool t432, .slice Ao32 t433.length co32] 27 (0, 0)) (zk BK436.out) hb)
                  have n10_ := Aside0.mk (blk_below (g := gb456) (o := .cells #[.bool t451, .slice Ao47 t452.length co47] 27 (0, 0)) (zk BK456.out) hb)
                  have n11_ := Aside0.mk (blk_below (g := gb470) (o := .cells #[.bool t465, .slice Ao57 t466.length co57] 27 (0, 0)) (zk BK470.out) hb)
                  have n12_ := Aside0.mk (below_step zb hb)
                  clear HO435
                  clear HO440
                  clear HO446
                  clear HO450
                  clear HO454
                  clear HO460
                  clear HO464
                  clear HO468
                  clear HO474
                  clear BK436
                  clear BK456
                  clear BK470
                  clear HB
                  have HO435 := n0_
                  have HO440 := n1_
                  have HO446 := n2_
                  have HO450 := n3_
                  have HO454 := n4_
                  have HO460 := n5_
                  have HO464 := n6_
                  have HO468 := n7_
                  have HO474 := n8_
                  have BK436 := n9_
                  have BK456 := n10_
                  have BK470 := n11_
                  have HB := n12_
                  clear n0_ n1_ n2_ n3_ n4_ n5_ n6_ n7_ n8_ n9_ n10_ n11_ n12_
                  (try clear hb)
                  (try clear hb2)
                  (try clear hk)
                  (try clear hi)
                  refine hK.out _ _ ⟨(blk_cell BK456.out 0).trans rfl, (blk_cell BK456.out 1).trans rfl, (blk_cell BK470.out 0).trans rfl, (blk_cell BK470.out 1).trans rfl⟩ (fun hHeld => ?_)
                  clear hK K
                  refine norm_ (a' := ?_) ?_ ?_
                  rotate_left
                  · show Act.put _ (some 70) _ = _
                    simp only [Act.put, List.setIfInBounds_toArray, List.set_cons_zero, List.set_cons_succ, i64_w, i32_w]
                    rfl
                  refine pure_ (i := 11) (N := some 71) (v := ?_) (a' := ?_) #[true, true, true, true, true, true, true, true, true, true, true, true, false, false, false, false, false, false, false, false, false, false, false] rfl rfl (any_of HT_.out (by kernel_rfl)) (fun _ _ _ h => h) (Or.inl ⟨by rfl, ?_⟩) ?_ ?_
                  rotate_left
                  · intro w'
                    go_simp
                    with_reducible rfl
                  rotate_left
                  · simp only [Act.put, List.setIfInBounds_toArray, List.set_cons_zero, List.set_cons_succ, i64_w, i32_w]
                    rfl
                  refine pure_ (i := 12) (N := some 72) (v := ?_) (a' := ?_) #[true, true, true, true, true, true, true, true, true, true, true, true, true, false, false, false, false, false, false, false, false, false, false] rfl rfl (any_of HT_.out (by kernel_rfl)) (fun _ _ _ h => h) (Or.inl ⟨by rfl, ?_⟩) ?_ ?_
                  rotate_left
                  · intro w'
                    go_simp
                    with_reducible rfl
                  rotate_left
                  · simp only [Act.put, List.setIfInBounds_toArray, List.set_cons_zero, List.set_cons_succ, i64_w, i32_w]
                    rfl
                  refine pure_ (i := 14) (N := some 74) (v := ?_) (a' := ?_) #[true, true, true, true, true, true, true, true, true, true, true, true, true, false, true, false, false, false, false, false, false, false, false] rfl rfl (any_of HT_.out (by kernel_rfl)) (fun _ _ _ h => h) (Or.inl ⟨by rfl, ?_⟩) ?_ ?_
                  rotate_left
                  · intro w'
                    go_simp
                    with_reducible rfl
                  rotate_left
                  · simp only [Act.put, List.setIfInBounds_toArray, List.set_cons_zero, List.set_cons_succ, i64_w, i32_w]
                    rfl
                  refine pure_ (i := 15) (N := some 75) (v := ?_) (a' := ?_) #[true, true, true, true, true, true, true, true, true, true, true, true, true, false, true, true, false, false, false, false, false, false, false] rfl rfl (any_of HT_.out (by kernel_rfl)) (fun _ _ _ h => h) (Or.inl ⟨by rfl, ?_⟩) ?_ ?_
                  rotate_left
                  · intro w'
                    go_simp
                    with_reducible rfl
                  rotate_left
                  · simp only [Act.put, List.setIfInBounds_toArray, List.set_cons_zero, List.set_cons_succ, i64_w, i32_w]
                    rfl
                  refine pure_ (i := 16) (N := some 76) (v := ?_) (a' := ?_) #[true, true, true, true, true, true, true, true, true, true, true, true, true, false, true, true, true, false, false, false, false, false, false] rfl rfl (any_of HT_.out (by kernel_rfl)) (fun _ _ _ h => h) (Or.inl ⟨by rfl, ?_⟩) ?_ ?_
                  rotate_left
                  · intro w'
                    go_simp
                    with_reducible rfl
                  rotate_left
                  · simp only [Act.put, List.setIfInBounds_toArray, List.set_cons_zero, List.set_cons_succ, i64_w, i32_w]
                    rfl
                  refine pure_ (i := 17) (N := some 77) (v := ?_) (a' := ?_) #[true, true, true, true, true, true, true, true, true, true, true, true, true, false, true, true, true, true, false, false, false, false, false] rfl rfl (any_of HT_.out (by kernel_rfl)) (fun _ _ _ h => h) (Or.inl ⟨by rfl, ?_⟩) ?_ ?_
                  rotate_left
                  · intro w'
                    go_simp
                    with_reducible rfl
                  rotate_left
                  · simp only [Act.put, List.setIfInBounds_toArray, List.set_cons_zero, List.set_cons_succ, i64_w, i32_w]
                    rfl
                  refine pure_ (i := 18) (N := some 78) (v := ?_) (a' := ?_) #[true, true, true, true, true, true, true, true, true, true, true, true, true, false, true, true, true, true, true, false, false, false, false] rfl rfl (any_of HT_.out (by kernel_rfl)) (fun _ _ _ h => h) (Or.inl ⟨by rfl, ?_⟩) ?_ ?_
                  rotate_left
                  · intro w'
                    go_simp
                    with_reducible rfl
                  rotate_left
                  · simp only [Act.put, List.setIfInBounds_toArray, List.set_cons_zero, List.set_cons_succ, i64_w, i32_w]
                    rfl
                  refine take_ (i := 13) (N := some 73) (v := ?_) (a' := ?_) #[true, true, true, true, true, true, true, true, true, true, true, true, true, true, true, true, true, true, true, false, false, false, false] rfl rfl (take_ofW HT_.out HW_.out (by kernel_rfl)) (fun _ _ _ h => h) (Or.inl ⟨by rfl, ?_⟩) hHeld ?_ ?_
                  rotate_left
                  · rintro w' ⟨s0, s1, s2, s3⟩
                    go_simp
                    with_reducible rfl
                  rotate_left
                  · simp only [Act.put, List.setIfInBounds_toArray, List.set_cons_zero, List.set_cons_succ, i64_w, i32_w]
                    rfl
                  refine one_ (i := 19) (N := some 79) #[true, true, true, true, true, true, true, true, true, true, true, true, true, true, true, true, true, true, true, true, false, false, false] rfl rfl (one_of HT_.out (by kernel_rfl)) (by decide) (fun K hK => ?_)
                  refine goes_ Try.func25 (by kernel_rfl) rfl #[.int .i64 (wrap64 ((Int.tmod (wrap64 (Int.tdiv t430 4)) 1000000000) * (Int.tmod (wrap64 (Int.tdiv t431 4)) 1000000000)))] (by rfl) rfl rfl za ?_
                  with_reducible refine (impl_BigOf.calls kj2 (wrap64 ((Int.tmod (wrap64 (Int.tdiv t430 4)) 1000000000) * (Int.tmod (wrap64 (Int.tdiv t431 4)) 1000000000))) t476 t477 _ A25.out).mono ?_
                  rintro e w63 ⟨v478, rfl, ho0, hb⟩
                  refine ⟨_, rfl, ?_⟩
                  have n0_ := Aside0.mk (Kd.V_below (zV HO435.out) hb)
                  have n1_ := Aside0.mk (Kd.R_below (zR HO440.out) hb)
                  have n2_ := Aside0.mk (Kd.V_below (zV HO446.out) hb)
                  have n3_ := Aside0.mk (Kd.V_below (zV HO450.out) hb)
                  have n4_ := Aside0.mk (Kd.V_below (zV HO454.out) hb)
                  have n5_ := Aside0.mk (Kd.V_below (zV HO460.out) hb)
                  have n6_ := Aside0.mk (Kd.V_below (zV HO464.out) hb)
                  have n7_ := Aside0.mk (Kd.V_below (zV HO468.out) hb)
                  have n8_ := Aside0.mk (Kd.V_below (zV HO474.out) hb)
                  have n9_ := Aside0.mk (Kd.V_lower (Kd.V_mono (ok' := fun k_ => some k_ ≠ (.slice Ao36 t438.length co36 : Value).ownBlock ∧ k_ ≠ gb436 ∧ k_ ≠ gb456 ∧ k_ ≠ gb470) ho0 (fun k_ hk_ => ⟨(Kd.fresh' (Kd.R_lt (zR HO440.out)) k_ hk_), (Kd.freshB (g := gb436) (o := .cells #[.bool t432, .slice Ao32 t433.length co32] 27 (0, 0)) (zk BK436.out) k_ hk_), (Kd.freshB (g := gb456) (o := .cells #[.bool t451, .slice Ao47 t452.length co47] 27 (0, 0)) (zk BK456.out) k_ hk_), (Kd.freshB (g := gb470) (o := .cells #[.bool t465, .slice Ao57 t466.length co57] 27 (0, 0)) (zk BK470.out) k_ hk_)⟩)) (below_size zb))
                  have n10_ := Aside0.mk (blk_below (g := gb436) (o := .cells #[.bool t432, .slice Ao32 t433.length co32] 27 (0, 0)) (zk BK436.out) hb)
                  have n11_ := Aside0.mk (blk_below (g := gb456) (o := .cells #[.bool t451, .slice Ao47 t452.length co47] 27 (0, 0)) (zk BK456.out) hb)
                  have n12_ := Aside0.mk (blk_below (g := gb470) (o := .cells #[.bool t465, .slice Ao57 t466.length co57] 27 (0, 0)) (zk BK470.out) hb)
                  have n13_ := Aside0.mk (below_step zb hb)
                  clear HO435
                  clear HO440
                  clear HO446
                  clear HO450
                  clear HO454
                  clear HO460
                  clear HO464
                  clear HO468
                  clear HO474
                  clear BK436
                  clear BK456
                  clear BK470
                  clear HB
                  have HO435 := n0_
                  have HO440 := n1_
                  have HO446 := n2_
                  have HO450 := n3_
                  have HO454 := n4_
                  have HO460 := n5_
                  have HO464 := n6_
                  have HO468 := n7_
                  have HO474 := n8_
                  have HO479 := n9_
                  have BK436 := n10_
                  have BK456 := n11_
                  have BK470 := n12_
                  have HB := n13_
                  clear n0_ n1_ n2_ n3_ n4_ n5_ n6_ n7_ n8_ n9_ n10_ n11_ n12_ n13_
                  (try clear hb)
                  (try clear hb2)
                  (try clear hk)
                  (try clear hi)
                  (try clear ho0)
                  obtain ⟨Ao64, co64, eo64⟩ := Kd.V_slice HO479.out
                  (first | subst eo64 | (injection eo64 with f1_ f2_ f3_; have f4_ := f1_.symm; have f5_ := f3_.symm; clear f1_ f2_ f3_; subst f4_; subst f5_))
                  refine hK.out _ _ ⟨(blk_cell BK456.out 0).trans rfl, (blk_cell BK456.out 1).trans rfl, (blk_cell BK470.out 0).trans rfl, (blk_cell BK470.out 1).trans rfl⟩ (fun hHeld => ?_)
                  clear hK K
                  refine norm_ (a' := ?_) ?_ ?_
                  rotate_left
                  · show Act.put _ (some 79) _ = _
                    simp only [Act.put, List.setIfInBounds_toArray, List.set_cons_zero, List.set_cons_succ, i64_w, i32_w]
                    rfl
                  refine one_ (i := 20) (N := some 80) #[true, true, true, true, true, true, true, true, true, true, true, true, true, true, true, true, true, true, true, true, true, false, false] rfl rfl (one_of HT_.out (by kernel_rfl)) (by decide) (fun K hK => ?_)
                  refine goes_ Try.func31 (by kernel_rfl) rfl #[.agg #[.bool t465, .slice Ao57 t466.length co57], .agg #[.bool t476, .slice Ao64 t477.length co64]] (by rfl) rfl rfl za ?_
                  with_reducible refine (laws_jtBig.calls kj2 t465 _ _ t466 t476 _ _ t477 t480 _ ?side1 ?side2 ?side3 ?side4 A26.out).mono ?_
                  (case side1 => repeat (first | exact (Kd.V_reads' HO468.out).2.2 | (with_reducible refine Kd.C_alloc ?_ _) | (with_reducible refine Kd.C_drewN ?_ _) | (with_reducible refine Kd.C_drew ?_)))
                  (case side2 => exact (Kd.V_reads' HO468.out).2.1)
                  (case side3 => repeat (first | exact (Kd.V_reads' HO479.out).2.2 | (with_reducible refine Kd.C_alloc ?_ _) | (with_reducible refine Kd.C_drewN ?_ _) | (with_reducible refine Kd.C_drew ?_)))
                  (case side4 => exact (Kd.V_reads' HO479.out).2.1)
                  rintro e w65 ⟨rfl, hb⟩
                  refine ⟨_, rfl, ?_⟩
                  have n0_ := Aside0.mk (Kd.V_below (zV HO435.out) hb)
                  have n1_ := Aside0.mk (Kd.R_below (zR HO440.out) hb)
                  have n2_ := Aside0.mk (Kd.V_below (zV HO446.out) hb)
                  have n3_ := Aside0.mk (Kd.V_below (zV HO450.out) hb)
                  have n4_ := Aside0.mk (Kd.V_below (zV HO454.out) hb)
                  have n5_ := Aside0.mk (Kd.V_below (zV HO460.out) hb)
                  have n6_ := Aside0.mk (Kd.V_below (zV HO464.out) hb)
                  have n7_ := Aside0.mk (Kd.V_below (zV HO468.out) hb)
                  have n8_ := Aside0.mk (Kd.V_below (zV HO474.out) hb)
                  have n9_ := Aside0.mk (Kd.V_below (zV HO479.out) hb)
                  have n10_ := Aside0.mk (blk_below (g := gb436) (o := .cells #[.bool t432, .slice Ao32 t433.length co32] 27 (0, 0)) (zk BK436.out) hb)
                  have n11_ := Aside0.mk (blk_below (g := gb456) (o := .cells #[.bool t451, .slice Ao47 t452.length co47] 27 (0, 0)) (zk BK456.out) hb)
                  have n12_ := Aside0.mk (blk_below (g := gb470) (o := .cells #[.bool t465, .slice Ao57 t466.length co57] 27 (0, 0)) (zk BK470.out) hb)
                  have n13_ := Aside0.mk (below_step zb hb)
                  clear HO435
                  clear HO440
                  clear HO446
                  clear HO450
                  clear HO454
                  clear HO460
                  clear HO464
                  clear HO468
                  clear HO474
                  clear HO479
                  clear BK436
                  clear BK456
                  clear BK470
                  clear HB
                  have HO435 := n0_
                  have HO440 := n1_
                  have HO446 := n2_
                  have HO450 := n3_
                  have HO454 := n4_
                  have HO460 := n5_
                  have HO464 := n6_
                  have HO468 := n7_
                  have HO474 := n8_
                  have HO479 := n9_
                  have BK436 := n10_
                  have BK456 := n11_
                  have BK470 := n12_
                  have HB := n13_
                  clear n0_ n1_ n2_ n3_ n4_ n5_ n6_ n7_ n8_ n9_ n10_ n11_ n12_ n13_
                  (try clear hb)
                  (try clear hb2)
                  (try clear hk)
                  (try clear hi)
                  refine hK.out _ _ ⟨(blk_cell BK456.out 0).trans rfl, (blk_cell BK456.out 1).trans rfl, (blk_cell BK470.out 0).trans rfl, (blk_cell BK470.out 1).trans rfl⟩ (fun hHeld => ?_)
                  clear hK K
                  refine norm_ (a' := ?_) ?_ ?_
                  rotate_left
                  · show Act.put _ (some 80) _ = _
                    simp only [Act.put, List.setIfInBounds_toArray, List.set_cons_zero, List.set_cons_succ, i64_w, i32_w]
                    rfl
                  refine pure_ (i := 21) (N := some 81) (v := ?_) (a' := ?_) #[true, true, true, true, true, true, true, true, true, true, true, true, true, true, true, true, true, true, true, true, true, true, false] rfl rfl (any_of HT_.out (by kernel_rfl)) (fun _ _ _ h => h) (Or.inl ⟨by rfl, ?_⟩) ?_ ?_
                  rotate_left
                  · intro w'
                    go_simp
                    with_reducible rfl
                  rotate_left
                  · simp only [Act.put, List.setIfInBounds_toArray, List.set_cons_zero, List.set_cons_succ, i64_w, i32_w]
                    rfl
                  refine pure_ (i := 22) (N := some 4) (v := ?_) (a' := ?_) #[true, true, true, true, true, true, true, true, true, true, true, true, true, true, true, true, true, true, true, true, true, true, true] rfl rfl (any_of HT_.out (by kernel_rfl)) (fun _ _ _ h => h) (Or.inl ⟨by rfl, ?_⟩) ?_ ?_
                  rotate_left
                  · intro w'
                    go_simp
                    with_reducible rfl
                  rotate_left
                  · simp only [Act.put, List.setIfInBounds_toArray, List.set_cons_zero, List.set_cons_succ, i64_w, i32_w]
                    rfl
                  refine done_ (done_of HT_.out (by kernel_rfl)) ?_
                  try go_wp2
                  go_ret
                  exact ⟨by first | rfl | (simp [errW_none, errW_some] <;> rfl) | (simp [*, errW_none, errW_some] <;> rfl), zb⟩
                · replace c24 := Bool.eq_false_iff.mpr c24
                  subst c24
                  have H1 : (none) = some r := by rw [if_neg (show ¬ (false = true) by decide)] at H; exact H
                  clear H
                  have H := H1
                  clear H1
                  exact absurd H (by simp)
              · replace c21 := Bool.eq_false_iff.mpr c21
                subst c21
                have H1 : (none) = some r := by rw [if_neg (show ¬ (false = true) by decide)] at H; exact H
                clear H
                have H := H1
                clear H1
                exact absurd H (by simp)
            · replace c20 := Bool.eq_false_iff.mpr c20
              subst c20
              have H1 : (none) = some r := by rw [if_neg (show ¬ (false = true) by decide)] at H; exact H
              clear H
              have H := H1
              clear H1
              exact absurd H (by simp)
          · replace c13 := Bool.eq_false_iff.mpr c13
            subst c13
            have H1 : (none) = some r := by rw [if_neg (show ¬ (false = true) by decide)] at H; exact H
            clear H
            have H := H1
            clear H1
            exact absurd H (by simp)
        · replace c11 := Bool.eq_false_iff.mpr c11
          subst c11
          have H1 : (none) = some r := by rw [if_neg (show ¬ (false = true) by decide)] at H; exact H
          clear H
          have H := H1
          clear H1
          exact absurd H (by simp)
def laws_FnBigOf.Pure : Prop := ∀ (l0 : List Int) (l1 : List Int), l0.length ≤ maxLen → l0.length * 1 ≤ 140737488351232 → (∀ x ∈ l0, (Lit.int .u8 x).wf = true) → l1.length ≤ maxLen → l1.length * 1 ≤ 140737488351232 → (∀ x ∈ l1, (Lit.int .u8 x).wf = true) → ∃ k, laws_FnBigOf.f k l0 l1 = some true
theorem laws_FnBigOf.walk (P : laws_FnBigOf.Pure) (a0 : Option Addr) (len0 cap0 : Nat) (z0 : List Int) (a1 : Option Addr) (len1 cap1 : Nat) (z1 : List Int) (w : World) (w0 : (a0 = none ∧ len0 = 0 ∧ cap0 = 0 ∧ z0 = []) ∨ ∃ x, a0 = some x ∧ len0 ≤ cap0 ∧ cap0 ≤ maxLen ∧ z0.length = cap0 ∧ (∀ i, i < z0.length → w.cell? (x.add i) = some (.int .u8 (z0.getD i 0))) ∧ ∀ n ∈ z0, (Lit.int .u8 n).wf = true) (y0 : len0 * 1 ≤ 140737488351232) (w1 : (a1 = none ∧ len1 = 0 ∧ cap1 = 0 ∧ z1 = []) ∨ ∃ x, a1 = some x ∧ len1 ≤ cap1 ∧ cap1 ≤ maxLen ∧ z1.length = cap1 ∧ (∀ i, i < z1.length → w.cell? (x.add i) = some (.int .u8 (z1.getD i 0))) ∧ ∀ n ∈ z1, (Lit.int .u8 n).wf = true) (y1 : len1 * 1 ≤ 140737488351232) :
    Calls Try.prog 6 #[.slice a0 len0 cap0, .slice a1 len1 cap1] w fun e w' => e = .returned (.bool true) ∧ Below w.heap.size w w' := by
  obtain ⟨l0, rfl, hr0, hm0, hw0, hc0⟩ := ReadsInt.ofRowC w0
  obtain ⟨l1, rfl, hr1, hm1, hw1, hc1⟩ := ReadsInt.ofRowC w1
  obtain ⟨k, h⟩ := P l0 l1 hm0 y0 hw0 hm1 y1 hw1
  refine (laws_FnBigOf.calls k _ _ l0 _ _ l1 true w (Kd.C_of_reads (d := (0 : Int)) (h1 := fun _ => rfl) hr0) hc0 (Kd.C_of_reads (d := (0 : Int)) (h1 := fun _ => rfl) hr1) hc1 h).mono ?_
  rintro e w' ⟨rfl, hd⟩
  exact ⟨rfl, hd⟩
end Go.Proofs.Ytdemeoncjcbojaa.Pr
end
section
namespace Go.Proofs.Ytdemeoncjcbojaa.Jt
def pw (n : Nat) : Int := 10000 ^ n
theorem pw_zero : pw 0 = 1 := rfl
theorem pw_succ (n : Nat) : pw (n + 1) = 10000 * pw n := by unfold pw; rw [Int.pow_succ]; omega
theorem pw_pos (n : Nat) : 1 ≤ pw n := by
  induction n with
  | zero => decide
  | succ n ih => rw [pw_succ]; omega
theorem pw_add (m n : Nat) : pw (m + n) = pw m * pw n := by unfold pw; rw [Int.pow_add]
theorem pw_mono {m n : Nat} (h : m ≤ n) : pw m ≤ pw n := by
  obtain ⟨d, rfl⟩ := Nat.exists_eq_add_of_le h
  induction d with
  | zero => exact Int.le_refl _
  | succ d ih =>
    have h1 := ih (by omega)
    have h2 := pw_pos (m + d)
    rw [show m + (d + 1) = (m + d) + 1 from rfl, pw_succ]
    omega
def val : List Int → Int
  | [] => 0
  | x :: xs => x + 10000 * val xs
def Dig (l : List Int) : Prop := ∀ x ∈ l, 0 ≤ x ∧ x ≤ 9999
def Nz (l : List Int) : Prop := l.length = 0 ∨ l.getD (l.length - 1) 0 ≠ 0
theorem getD_lt {l : List Int} {i : Nat} (h : i < l.length) : l.getD i 0 = l[i] := by rw [List.getD_eq_getElem?_getD, List.getElem?_eq_getElem h]; rfl
theorem getD_ge {l : List Int} {i : Nat} (h : l.length ≤ i) : l.getD i 0 = 0 := by rw [List.getD_eq_getElem?_getD, List.getElem?_eq_none h]; rfl
theorem val_nil : val [] = 0 := rfl
theorem val_append (a b : List Int) : val (a ++ b) = val a + pw a.length * val b := by
  induction a with
  | nil => simp [val, pw_zero]
  | cons x xs ih => simp only [List.cons_append, val, ih, List.length_cons, pw_succ]; rw [Int.mul_add, Int.mul_assoc]; omega
theorem Dig.nil : Dig [] := fun x h => by cases h
theorem Dig.cons {x : Int} {xs : List Int} (h0 : 0 ≤ x) (h1 : x ≤ 9999) (h : Dig xs) : Dig (x :: xs) := by
  intro y hy
  rcases List.mem_cons.1 hy with rfl | hy
  · exact ⟨h0, h1⟩
  · exact h y hy
theorem Dig.head {x : Int} {xs : List Int} (h : Dig (x :: xs)) : 0 ≤ x ∧ x ≤ 9999 := h x (by simp)
theorem Dig.tail {x : Int} {xs : List Int} (h : Dig (x :: xs)) : Dig xs := fun y hy => h y (by simp [hy])
theorem Dig.take {l : List Int} (h : Dig l) (n : Nat) : Dig (l.take n) := fun x hx => h x (List.mem_of_mem_take hx)
theorem Dig.append {a b : List Int} (ha : Dig a) (hb : Dig b) : Dig (a ++ b) := by
  intro x hx
  rcases List.mem_append.1 hx with h | h
  · exact ha x h
  · exact hb x h
theorem Dig.getD {l : List Int} (h : Dig l) (i : Nat) : 0 ≤ l.getD i 0 ∧ l.getD i 0 ≤ 9999 := by
  by_cases hi : i < l.length
  · rw [getD_lt hi]; exact h _ (List.getElem_mem hi)
  · rw [getD_ge (by omega)]; omega
theorem dig_of_getD {l : List Int} (h : ∀ i, i < l.length → 0 ≤ l.getD i 0 ∧ l.getD i 0 ≤ 9999) : Dig l := by
  intro x hx
  obtain ⟨i, hi, rfl⟩ := List.getElem_of_mem hx
  have := h i hi
  rwa [getD_lt hi] at this
theorem val_nonneg {l : List Int} (h : Dig l) : 0 ≤ val l := by
  induction l with
  | nil => exact Int.le_refl _
  | cons x xs ih =>
    have h1 := ih h.tail
    have h2 := h.head
    simp only [val]; omega
theorem val_lt {l : List Int} (h : Dig l) : val l < pw l.length := by
  induction l with
  | nil => decide
  | cons x xs ih =>
    have h1 := ih h.tail
    have h2 := h.head
    simp only [val, List.length_cons, pw_succ]; omega
theorem val_set (l : List Int) : ∀ (i : Nat) (v : Int), i < l.length → val (l.set i v) = val l + pw i * (v - l.getD i 0) := by
  induction l with
  | nil => intro i v h; simp at h
  | cons x xs ih =>
    intro i v h
    cases i with
    | zero => simp only [List.set_cons_zero, val, List.getD_cons_zero, pw_zero]; omega
    | succ i =>
      simp only [List.set_cons_succ, val, List.getD_cons_succ, pw_succ]
      rw [ih i v (by simpa using h), Int.mul_add, Int.mul_assoc]
      omega
theorem getD_set (l : List Int) (i j : Nat) (v : Int) (h : i < l.length) : (l.set i v).getD j 0 = if j = i then v else l.getD j 0 := by
  by_cases hj : j = i
  · subst hj
    rw [if_pos rfl, List.getD_eq_getElem?_getD, List.getElem?_set_self h]; rfl
  · rw [if_neg hj, List.getD_eq_getElem?_getD, List.getElem?_set_ne (Ne.symm hj), List.getD_eq_getElem?_getD]
theorem val_split (l : List Int) {n : Nat} (h : n ≤ l.length) : val l = val (l.take n) + pw n * val (l.drop n) := by
  have := val_append (l.take n) (l.drop n)
  rw [List.take_append_drop, List.length_take, Nat.min_eq_left h] at this
  exact this
theorem drop_cons {l : List Int} {n : Nat} (h : n < l.length) : l.drop n = l.getD n 0 :: l.drop (n + 1) := by
  rw [List.drop_eq_getElem_cons h, getD_lt h]
theorem val_zeros {l : List Int} (h : ∀ i, i < l.length → l.getD i 0 = 0) : val l = 0 := by
  induction l with
  | nil => rfl
  | cons x xs ih =>
    have h0 := h 0 (by simp)
    have h1 := ih (fun i hi => by have := h (i + 1) (by simpa using hi); simpa using this)
    simp at h0
    simp only [val, h0, h1]; decide
theorem val_replicate (n : Nat) : val (List.replicate n 0) = 0 := val_zeros fun i hi => by
  rw [List.length_replicate] at hi
  rw [getD_lt (by simpa using hi), List.getElem_replicate]
theorem val_ge {l : List Int} (h : Dig l) (hz : Nz l) (hne : 0 < l.length) : pw (l.length - 1) ≤ val l := by
  have hs := val_split l (n := l.length - 1) (by omega)
  rw [drop_cons (by omega), show l.length - 1 + 1 = l.length from by omega, List.drop_length] at hs
  have h1 := val_nonneg (h.take (l.length - 1))
  have h2 := h.getD (l.length - 1)
  have h3 : l.getD (l.length - 1) 0 ≠ 0 := hz.resolve_left (by omega)
  have hp := pw_pos (l.length - 1)
  simp only [val] at hs
  have h4 : pw (l.length - 1) * 1 ≤ pw (l.length - 1) * (l.getD (l.length - 1) 0 + 10000 * 0) := Int.mul_le_mul_of_nonneg_left (by omega) (by omega)
  omega
theorem uniq {a : List Int} : ∀ {b : List Int}, Dig a → Dig b → Nz a → Nz b → val a = val b → a = b := by
  induction a with
  | nil =>
    intro b _ hb _ zb e
    cases b with
    | nil => rfl
    | cons y ys =>
      have := val_ge hb zb (by simp)
      have := pw_pos ((y :: ys).length - 1)
      rw [val_nil] at e
      omega
  | cons x xs ih =>
    intro b ha hb za zb e
    cases b with
    | nil =>
      have := val_ge ha za (by simp)
      have := pw_pos ((x :: xs).length - 1)
      rw [val_nil] at e
      omega
    | cons y ys =>
      have hx := ha.head
      have hy := hb.head
      simp only [val] at e
      have e1 : x = y := by omega
      have e2 : val xs = val ys := by omega
      have zt : ∀ {z : Int} {zs : List Int}, Nz (z :: zs) → Nz zs := by
        intro z zs h
        cases zs with
        | nil => left; rfl
        | cons u us =>
          right
          have h' := h.resolve_left (by simp)
          simpa using h'
      rw [e1, ih ha.tail hb.tail (zt za) (zt zb) e2]
def repN (n : Nat) : List Int := if h : n = 0 then [] else ((n % 10000 : Nat) : Int) :: repN (n / 10000)
termination_by n
decreasing_by omega
def rep (v : Int) : List Int := repN v.toNat
theorem repN_zero : repN 0 = [] := by rw [repN]; simp
theorem repN_pos {n : Nat} (h : n ≠ 0) : repN n = ((n % 10000 : Nat) : Int) :: repN (n / 10000) := by rw [repN]; simp [h]
theorem repN_ok (n : Nat) : Dig (repN n) ∧ val (repN n) = n ∧ Nz (repN n) := by
  induction n using Nat.strongRecOn with
  | ind n ih =>
    by_cases h : n = 0
    · subst h; rw [repN_zero]; exact ⟨Dig.nil, rfl, .inl rfl⟩
    · obtain ⟨h1, h2, h3⟩ := ih (n / 10000) (by omega)
      rw [repN_pos h]
      refine ⟨Dig.cons (by omega) (by omega) h1, by simp only [val, h2]; omega, .inr ?_⟩
      by_cases hq : n / 10000 = 0
      · rw [hq, repN_zero]; simp; omega
      · have hne : (repN (n / 10000)).length ≠ 0 := by rw [repN_pos hq]; simp
        have := h3.resolve_left hne
        rw [List.length_cons, show (repN (n / 10000)).length + 1 - 1 = ((repN (n / 10000)).length - 1) + 1 from by omega, List.getD_cons_succ]
        exact this
theorem rep_dig (v : Int) : Dig (rep v) := (repN_ok _).1
theorem rep_nz (v : Int) : Nz (rep v) := (repN_ok _).2.2
theorem rep_val {v : Int} (h : 0 ≤ v) : val (rep v) = v := by unfold rep; rw [(repN_ok _).2.1]; omega
theorem rep_of {l : List Int} (hd : Dig l) (hz : Nz l) : rep (val l) = l := uniq (rep_dig _) hd (rep_nz _) hz (rep_val (val_nonneg hd))
theorem is_rep {l : List Int} {v : Int} (hd : Dig l) (hz : Nz l) (hv : val l = v) : l = rep v := by rw [← hv, rep_of hd hz]
theorem rep_zero : rep 0 = [] := repN_zero
theorem rep_nil {v : Int} (h : 0 ≤ v) : rep v = [] ↔ v = 0 := by
  constructor
  · intro e
    have := rep_val h
    rw [e] at this
    exact this.symm
  · rintro rfl; exact rep_zero
theorem rep_len {v : Int} (h : 0 ≤ v) (n : Nat) : (rep v).length ≤ n ↔ v < pw n := by
  have hv := rep_val h
  have hl := val_lt (rep_dig v)
  constructor
  · intro hle
    have := pw_mono hle
    omega
  · intro hlt
    apply Nat.le_of_not_lt
    intro hgt
    have hg := val_ge (rep_dig v) (rep_nz v) (by omega)
    have := pw_mono (show n ≤ (rep v).length - 1 by omega)
    omega
def TrimOf (l r : List Int) : Prop := ∃ n, n ≤ l.length ∧ r = l.take n ∧ (∀ j, n ≤ j → j < l.length → l.getD j 0 = 0) ∧ (0 < n → l.getD (n - 1) 0 ≠ 0)
theorem TrimOf.dig {l r : List Int} (h : TrimOf l r) (hd : Dig l) : Dig r := by obtain ⟨n, _, rfl, _, _⟩ := h; exact hd.take n
theorem TrimOf.val {l r : List Int} (h : TrimOf l r) : Jt.val r = Jt.val l := by
  obtain ⟨n, hn, rfl, hz, _⟩ := h
  have hs := val_split l hn
  have : Jt.val (l.drop n) = 0 := val_zeros fun i hi => by
    rw [List.length_drop] at hi
    have := hz (n + i) (by omega) (by omega)
    rw [List.getD_eq_getElem?_getD] at this ⊢
    rw [List.getElem?_drop]; exact this
  rw [this] at hs
  omega
theorem getD_take (l : List Int) {i n : Nat} (h : i < n) : (l.take n).getD i 0 = l.getD i 0 := by
  rw [List.getD_eq_getElem?_getD, List.getD_eq_getElem?_getD, List.getElem?_take_of_lt h]
theorem TrimOf.nz {l r : List Int} (h : TrimOf l r) : Nz r := by
  obtain ⟨n, hn, rfl, _, hlast⟩ := h
  by_cases h0 : n = 0
  · left; simp [h0]
  · right
    rw [List.length_take, Nat.min_eq_left hn, getD_take l (by omega)]
    exact hlast (by omega)
theorem TrimOf.rep {l r : List Int} (h : TrimOf l r) (hd : Dig l) {v : Int} (hv : Jt.val l = v) : r = Jt.rep v := is_rep (h.dig hd) h.nz (h.val.trans hv)
theorem TrimOf.len {l r : List Int} (h : TrimOf l r) : r.length ≤ l.length := by obtain ⟨n, hn, rfl, _, _⟩ := h; rw [List.length_take]; omega
theorem val_lt_of_len {a b : List Int} (ha : Dig a) (hb : Dig b) (zb : Nz b) (h : a.length < b.length) : val a < val b := by
  have h1 := val_lt ha
  have h2 := val_ge hb zb (by omega)
  have := pw_mono (show a.length ≤ b.length - 1 by omega)
  omega
theorem val_lt_at {a b : List Int} (ha : Dig a) (hb : Dig b) {i : Nat} (h1 : i < a.length) (h2 : i < b.length) (hd : a.drop (i + 1) = b.drop (i + 1)) (hlt : a.getD i 0 < b.getD i 0) : val a < val b := by
  have ea := val_split a (n := i) (by omega)
  have eb := val_split b (n := i) (by omega)
  rw [drop_cons h1] at ea
  rw [drop_cons h2, ← hd] at eb
  simp only [val] at ea eb
  have la := val_lt (ha.take i)
  have nb := val_nonneg (hb.take i)
  rw [List.length_take, Nat.min_eq_left (by omega)] at la
  have hp := pw_pos i
  have hm : pw i * (a.getD i 0 + 1) ≤ pw i * b.getD i 0 := Int.mul_le_mul_of_nonneg_left (by omega) (by omega)
  rw [Int.mul_add] at ea eb hm
  omega
theorem pw16 : pw 16 = 10000000000000000000000000000000000000000000000000000000000000000 := by decide
def bigv (neg : Bool) (l : List Int) : Int := if neg = true then -val l else val l
def BOk (neg : Bool) (l : List Int) : Prop := l.length ≤ 16 ∧ Dig l ∧ Nz l ∧ (neg = true → l.length ≠ 0)
def mkN (x : Int) : Bool := decide (x < 0)
def mkL (x : Int) : List Int := rep (if x < 0 then -x else x)
theorem mk_ok {x : Int} (h1 : -pw 16 < x) (h2 : x < pw 16) : BOk (mkN x) (mkL x) := by
  have h0 : 0 ≤ (if x < 0 then -x else x) := by split <;> omega
  refine ⟨(rep_len h0 16).2 (by split <;> omega), rep_dig _, rep_nz _, ?_⟩
  intro hn hl
  have := of_decide_eq_true hn
  have e := rep_val h0
  unfold mkL at hl
  rw [List.length_eq_zero_iff.1 hl, val_nil] at e
  split at e <;> omega
theorem mk_v (x : Int) : bigv (mkN x) (mkL x) = x := by
  have h0 : 0 ≤ (if x < 0 then -x else x) := by split <;> omega
  have e := rep_val h0
  unfold bigv mkN mkL
  rw [e]
  by_cases h : x < 0
  · rw [if_pos h, decide_eq_true h]; simp
  · rw [if_neg h, decide_eq_false h]; simp
end Go.Proofs.Ytdemeoncjcbojaa.Jt
end
section
namespace Go.Proofs.Ytdemeoncjcbojaa.Val
open Go.RowKit Go.Proofs.Ytdemeoncjcbojaa.Pr Go.Proofs.Ytdemeoncjcbojaa.Ext Go.Proofs.Ytdemeoncjcbojaa.Jt Go.Proofs.YtdemeoncjcbojaaW.PrintWords Go.Proofs.YtdemeoncjcbojaaW.PrintLast Go.Proofs.YtdemeoncjcbojaaW.PrintMore
set_option linter.unusedVariables false
set_option linter.unusedSimpArgs false
theorem w64 {x : Int} (h : -9223372036854775808 ≤ x) (h' : x ≤ 9223372036854775807) : wrap64 x = x := by unfold wrap64; omega
theorem rdn (l : List Int) (i : Int) : rd l i = l.getD i.toNat 0 := rfl
def okD (x : Int) : Bool := decide (0 ≤ x) && decide (x ≤ 9999)
def okB (neg : Bool) (l : List Int) : Bool := decide (l.length ≤ 16) && l.all okD && (decide (l.length = 0) || decide (l.getD (l.length - 1) 0 ≠ 0)) && (!neg || decide (l.length ≠ 0))
theorem okB_iff (neg : Bool) (l : List Int) : okB neg l = true ↔ BOk neg l := by
  unfold okB BOk Dig Nz
  simp only [Bool.and_eq_true, decide_eq_true_eq, List.all_eq_true, okD, Bool.or_eq_true, Bool.not_eq_true']
  constructor
  · rintro ⟨⟨⟨a, b⟩, c⟩, d⟩
    exact ⟨a, b, c, fun h => d.resolve_left (by simp [h])⟩
  · rintro ⟨a, b, c, d⟩
    refine ⟨⟨⟨a, b⟩, c⟩, ?_⟩
    cases neg
    · exact .inl rfl
    · exact .inr (d rfl)
theorem any_bad (l : List Int) : l.any bad = !(l.all okD) := by
  induction l with
  | nil => rfl
  | cons x xs ih => rw [List.any_cons, List.all_cons, ih, Bool.not_and]; rfl
theorem bigOk_f (neg : Bool) (l : List Int) : impl_BigOk.f neg l = some (okB neg l) := by
  unfold impl_BigOk.f okB containsBad.f
  simp only [any_bad, Option.bind_some, Bool.not_not]
  by_cases h16 : (l.length : Int) ≤ 16
  · rw [if_pos h16, decide_eq_true (show l.length ≤ 16 by omega), Bool.true_and]
    by_cases h0 : (l.length : Int) = 0
    · rw [if_pos h0]
      have h0' : l.length = 0 := by omega
      cases neg
      · rw [if_neg (by decide)]; simp [h0']
      · rw [if_pos rfl, if_neg (by omega)]; simp [h0']
    · have h0' : l.length ≠ 0 := by omega
      rw [if_neg h0, if_pos (by omega), w64 (by omega) (by omega), if_pos (by omega), if_pos (by omega), rdn, show ((l.length : Int) - 1).toNat = l.length - 1 from by omega, decide_eq_false h0', decide_eq_true (show l.length ≠ 0 from h0'), Bool.false_or, Bool.or_true, Bool.and_true]
      by_cases hz : l.getD (l.length - 1) 0 = 0
      · rw [if_pos hz, decide_eq_false (by simpa using hz)]; simp
      · rw [if_neg hz, decide_eq_true hz]; simp
  · rw [if_neg h16, decide_eq_false (show ¬ l.length ≤ 16 by omega)]; simp
def trimN (l : List Int) : Nat → Nat
  | 0 => 0
  | n + 1 => if l.getD n 0 = 0 then trimN l n else n + 1
def trimL (l : List Int) : List Int := l.take (trimN l l.length)
theorem trimN_le (l : List Int) (n : Nat) : trimN l n ≤ n := by
  induction n with
  | zero => exact Nat.le_refl _
  | succ n ih => unfold trimN; split <;> omega
theorem trimN_hi (l : List Int) (n : Nat) : ∀ j, trimN l n ≤ j → j < n → l.getD j 0 = 0 := by
  induction n with
  | zero => intro j _ h; omega
  | succ n ih =>
    intro j h1 h2
    unfold trimN at h1
    split at h1
    · rename_i h
      by_cases hj : j = n
      · rw [hj]; exact h
      · exact ih j h1 (by omega)
    · omega
theorem trimN_nz (l : List Int) (n : Nat) : 0 < trimN l n → l.getD (trimN l n - 1) 0 ≠ 0 := by
  induction n with
  | zero => intro h; simp [trimN] at h
  | succ n ih =>
    unfold trimN
    split
    · exact ih
    · rename_i h; intro _; rw [Nat.add_sub_cancel]; exact h
theorem trimL_of (l : List Int) : TrimOf l (trimL l) := ⟨trimN l l.length, trimN_le _ _, rfl, trimN_hi _ _, trimN_nz _ _⟩
theorem trimL_len (l : List Int) : (trimL l).length ≤ l.length := (trimL_of l).len
theorem trimL_rep {l : List Int} (hd : Dig l) : trimL l = rep (val l) := (trimL_of l).rep hd rfl
theorem iTrim_l0 (l : List Int) (hl : l.length < 1000000) : ∀ (n k : Nat), n ≤ l.length → n + 1 ≤ k → impl_limbs_trim.l0 k (l.take n) = some (l.take (trimN l n)) := by
  intro n
  induction n with
  | zero =>
    intro k hn hk
    obtain ⟨k, rfl⟩ : ∃ j, k = j + 1 := ⟨k - 1, by omega⟩
    rw [impl_limbs_trim.l0, if_neg (by simp)]
    rfl
  | succ n ih =>
    intro k hn hk
    obtain ⟨k, rfl⟩ : ∃ j, k = j + 1 := ⟨k - 1, by omega⟩
    have hlen : (l.take (n + 1)).length = n + 1 := by rw [List.length_take]; omega
    rw [impl_limbs_trim.l0, hlen, if_pos (by omega), w64 (by omega) (by omega), show (((n + 1 : Nat) : Int) - 1) = (n : Int) from by omega, if_pos (by omega), if_pos (by omega), rdn, Int.toNat_natCast, getD_take l (by omega)]
    unfold trimN
    by_cases h : l.getD n 0 = 0
    · rw [if_pos h, if_pos h, if_pos (by omega), List.take_take, Nat.min_eq_left (by omega)]; exact ih k (by omega) (by omega)
    · rw [if_neg h, if_neg h]
theorem iTrim_ge (l : List Int) (hl : l.length < 1000000) (k : Nat) (hk : l.length + 1 ≤ k) : impl_limbs_trim.f k l = some (trimL l) := by
  have e := iTrim_l0 l hl l.length k (Nat.le_refl _) hk
  rw [List.take_length] at e
  exact e
def bigR (x : Int) : Bool × List Int × Bool := if -pw 16 < x ∧ x < pw 16 then (mkN x, mkL x, true) else (false, [], false)
theorem bigR_of {neg : Bool} {l : List Int} (hd : Dig l) :
    (if ((rep (val l)).length : Int) > 16 then (false, ([] : List Int), false) else if neg = true then (decide (0 < (rep (val l)).length), rep (val l), true) else (false, rep (val l), true)) = bigR (bigv neg l) := by
  have h0 := val_nonneg hd
  have hr := rep_len h0 16
  have hp := pw_pos 16
  unfold bigR
  by_cases h : ((rep (val l)).length : Int) > 16
  · have hv : ¬ val l < pw 16 := fun hc => by have := hr.2 hc; omega
    rw [if_pos h, if_neg]
    unfold bigv
    split <;> omega
  · have hv : val l < pw 16 := hr.1 (by omega)
    have hin : -pw 16 < bigv neg l ∧ bigv neg l < pw 16 := by unfold bigv; split <;> omega
    rw [if_neg h, if_pos hin]
    cases neg
    · rw [if_neg (by decide)]
      unfold bigv mkN mkL
      rw [if_neg (by decide), if_neg (by omega), decide_eq_false (by omega)]
    · rw [if_pos rfl]
      unfold bigv mkN mkL
      rw [if_pos rfl]
      have hz := rep_nil h0
      by_cases hv0 : val l = 0
      · rw [hv0, rep_zero]; simp [rep_zero]
      · rw [if_pos (by omega), Int.neg_neg, decide_eq_true (show -val l < 0 by omega)]
        have : 0 < (rep (val l)).length := by
          apply Nat.pos_of_ne_zero
          intro hc
          exact hv0 (hz.1 (List.length_eq_zero_iff.1 hc))
        rw [decide_eq_true this]
theorem big_ge {l : List Int} (hd : Dig l) (hl : l.length ≤ 1000) (neg : Bool) (k : Nat) (hk : 1010 ≤ k) : impl_big.f k neg l = some (bigR (bigv neg l)) := by
  unfold impl_big.f impl_clone_int.f clone99.f
  rw [iTrim_ge l (by omega) k (by omega), ← bigR_of hd]
  have := trimL_len l
  simp only [Option.bind_some]
  rw [if_pos (show (trimL l).length < 17592186044416 by omega), trimL_rep hd]
  simp only [Option.bind_some]
  (repeat' split) <;> simp_all
def sgn (x : Int) : Int := if x < 0 then -1 else if x = 0 then 0 else 1
theorem sgn_neg {x : Int} (h : x < 0) : sgn x = -1 := if_pos h
theorem sgn_zero : sgn 0 = 0 := rfl
theorem sgn_pos {x : Int} (h : 0 < x) : sgn x = 1 := by unfold sgn; rw [if_neg (by omega), if_neg (by omega)]
theorem drop_eq_of {a b : List Int} {i : Nat} (ha : i < a.length) (hb : i < b.length) (hd : a.drop (i + 1) = b.drop (i + 1)) (he : a.getD i 0 = b.getD i 0) : a.drop i = b.drop i := by
  rw [drop_cons ha, drop_cons hb, hd, he]
theorem iCmp_l0 {a b : List Int} (ha : Dig a) (hb : Dig b) (hl : a.length = b.length) (hb' : a.length < 1000000) : ∀ (i k : Nat), i ≤ a.length → a.drop i = b.drop i → i + 1 ≤ k →
    impl_limbs_cmp.l0 k a b ((i : Int) - 1) = some (sgn (val a - val b)) := by
  intro i
  induction i with
  | zero =>
    intro k hi hd hk
    obtain ⟨k, rfl⟩ : ∃ j, k = j + 1 := ⟨k - 1, by omega⟩
    rw [List.drop_zero, List.drop_zero] at hd
    rw [impl_limbs_cmp.l0, if_neg (by omega), hd, Int.sub_self, sgn_zero]
  | succ i ih =>
    intro k hi hd hk
    obtain ⟨k, rfl⟩ : ∃ j, k = j + 1 := ⟨k - 1, by omega⟩
    rw [impl_limbs_cmp.l0, show (((i + 1 : Nat) : Int) - 1) = (i : Int) from by omega, if_pos (by omega), if_pos (by omega), if_pos (by omega), if_pos (by omega), rdn, rdn, Int.toNat_natCast]
    have b1 := ha.getD i
    have b2 := hb.getD i
    by_cases h1 : a.getD i 0 = b.getD i 0
    · rw [if_pos h1, w64 (by omega) (by omega)]
      exact ih k (by omega) (drop_eq_of (by omega) (by omega) hd h1) (by omega)
    · rw [if_neg h1, w64 (by omega) (by omega)]
      unfold mx mn
      by_cases h2 : a.getD i 0 < b.getD i 0
      · have := val_lt_at ha hb (by omega) (by omega) hd h2
        rw [sgn_neg (by omega), if_pos (show a.getD i 0 - b.getD i 0 < 1 by omega), if_neg (by omega)]
      · have := val_lt_at hb ha (by omega) (by omega) hd.symm (show b.getD i 0 < a.getD i 0 by omega)
        rw [sgn_pos (by omega), if_neg (show ¬ a.getD i 0 - b.getD i 0 < 1 by omega), if_pos (by omega)]
theorem iCmp_ge {a b : List Int} (ha : Dig a) (hb : Dig b) (za : Nz a) (zb : Nz b) (la : a.length ≤ 1000) (lb : b.length ≤ 1000) (k : Nat) (hk : 1010 ≤ k) : impl_limbs_cmp.f k a b = some (sgn (val a - val b)) := by
  unfold impl_limbs_cmp.f
  by_cases h : (a.length : Int) = (b.length : Int)
  · rw [if_pos h, w64 (by omega) (by omega)]
    exact iCmp_l0 ha hb (by omega) (by omega) a.length k (Nat.le_refl _) (by rw [List.drop_length, List.drop_eq_nil_of_le (by omega)]) (by omega)
  · rw [if_neg h, w64 (by omega) (by omega)]
    unfold mx mn
    by_cases h2 : (a.length : Int) < (b.length : Int)
    · have := val_lt_of_len ha hb zb (by omega)
      rw [sgn_neg (by omega), if_pos (show (a.length : Int) - (b.length : Int) < 1 by omega), if_neg (by omega)]
    · have := val_lt_of_len hb ha za (by omega)
      rw [sgn_pos (by omega), if_neg (show ¬ (a.length : Int) - (b.length : Int) < 1 by omega), if_pos (by omega)]
end Go.Proofs.Ytdemeoncjcbojaa.Val
end
section
namespace Go.Proofs.Ytdemeoncjcbojaa.Val
open Go.RowKit Go.Proofs.Ytdemeoncjcbojaa.Pr Go.Proofs.Ytdemeoncjcbojaa.Ext Go.Proofs.Ytdemeoncjcbojaa.Jt Go.Proofs.YtdemeoncjcbojaaW.PrintWords Go.Proofs.YtdemeoncjcbojaaW.PrintLast Go.Proofs.YtdemeoncjcbojaaW.PrintMore
set_option linter.unusedVariables false
set_option linter.unusedSimpArgs false
theorem rdN (l : List Int) (i : Nat) : rd l (i : Int) = l.getD i 0 := by unfold rd; rw [Int.toNat_natCast]
theorem getD_set_ne {l : List Int} {i j : Nat} (v : Int) (h : i < l.length) (hne : j ≠ i) : (l.set i v).getD j 0 = l.getD j 0 := by rw [getD_set l i j v h, if_neg hne]
theorem getD_set_eq {l : List Int} {i : Nat} (v : Int) (h : i < l.length) : (l.set i v).getD i 0 = v := by rw [getD_set l i i v h, if_pos rfl]
theorem val_drop (l : List Int) (i : Nat) : val (l.drop i) = l.getD i 0 + 10000 * val (l.drop (i + 1)) := by
  by_cases h : i < l.length
  · rw [drop_cons h]; rfl
  · rw [List.drop_eq_nil_of_le (by omega), List.drop_eq_nil_of_le (by omega), getD_ge (by omega)]; rfl
theorem iAdd_l1 {x : List Int} : ∀ (m k i : Nat) (x : List Int), i + m + 1 = x.length → x.length ≤ 1000 → m + 1100 ≤ k →
    (∀ j, j < i → 0 ≤ x.getD j 0 ∧ x.getD j 0 ≤ 9999) → (∀ j, i < j → 0 ≤ x.getD j 0 ∧ x.getD j 0 ≤ 19998) → (0 ≤ x.getD i 0 ∧ x.getD i 0 ≤ 19999) →
    (x.getD (x.length - 1) 0 ≤ if i = x.length - 1 then 1 else 0) →
    impl_limbs_add.l1 k x ((x.length : Int) - 1) (i : Int) = some (rep (val x)) := by
  intro m
  induction m with
  | zero =>
    intro k i x hi hl hk h1 h2 h3 h4
    obtain ⟨k, rfl⟩ : ∃ j, k = j + 1 := ⟨k - 1, by omega⟩
    have hd : Dig x := dig_of_getD fun j hj => by
      by_cases hji : j < i
      · exact h1 j hji
      · have : j = x.length - 1 := by omega
        have e : i = x.length - 1 := by omega
        rw [if_pos e] at h4
        rw [e] at h3
        subst this
        omega
    rw [impl_limbs_add.l1, if_neg (by omega), iTrim_ge x (by omega) k (by omega), trimL_rep hd]
    rfl
  | succ m ih =>
    intro k i x hi hl hk h1 h2 h3 h4
    obtain ⟨k, rfl⟩ : ∃ j, k = j + 1 := ⟨k - 1, by omega⟩
    have hlt : i < x.length := by omega
    have hlt1 : i + 1 < x.length := by omega
    have n1 := h2 (i + 1) (by omega)
    rw [if_neg (by omega)] at h4
    rw [impl_limbs_add.l1, if_pos (by omega), w64 (x := (i : Int) + 1) (by omega) (by omega), if_pos (by omega), if_pos (by omega), if_pos (by omega), if_pos (by omega)]
    simp only [Option.bind_some]
    simp only [rdn]
    rw [show ((i : Int) + 1).toNat = i + 1 from by omega, Int.toNat_natCast, Int.tdiv_eq_ediv_of_nonneg h3.1, w64 (x := x.getD i 0 / 10000) (by omega) (by omega), w64 (by omega) (by omega),
      getD_set_ne _ hlt1 (by omega), Int.tmod_eq_emod_of_nonneg h3.1]
    have hlen : ((x.set (i + 1) (x.getD (i + 1) 0 + x.getD i 0 / 10000)).set i (x.getD i 0 % 10000)).length = x.length := by simp
    have hv : val ((x.set (i + 1) (x.getD (i + 1) 0 + x.getD i 0 / 10000)).set i (x.getD i 0 % 10000)) = val x := by
      rw [val_set _ _ _ (by rw [List.length_set]; omega), val_set _ _ _ hlt1, getD_set_ne _ hlt1 (by omega), pw_succ]
      have e : x.getD i 0 = 10000 * (x.getD i 0 / 10000) + x.getD i 0 % 10000 := by omega
      generalize x.getD i 0 / 10000 = q at e
      generalize x.getD i 0 % 10000 = r at e
      rw [e]
      grind
    have e := ih k (i + 1) ((x.set (i + 1) (x.getD (i + 1) 0 + x.getD i 0 / 10000)).set i (x.getD i 0 % 10000)) (by rw [hlen]; omega) (by rw [hlen]; omega) (by omega) ?_ ?_ ?_ ?_
    · rw [hlen, hv] at e
      rw [show ((i : Int) + 1) = ((i + 1 : Nat) : Int) from by omega]
      exact e
    · intro j hj
      by_cases hji : j = i
      · rw [hji, getD_set_eq _ (by rw [List.length_set]; omega)]; omega
      · rw [getD_set_ne _ (by rw [List.length_set]; omega) hji, getD_set_ne _ hlt1 (by omega)]; exact h1 j (by omega)
    · intro j hj
      rw [getD_set_ne _ (by rw [List.length_set]; omega) (by omega), getD_set_ne _ hlt1 (by omega)]; exact h2 j (by omega)
    · rw [getD_set_ne _ (by rw [List.length_set]; omega) (by omega), getD_set_eq _ hlt1]; omega
    · rw [hlen]
      rw [getD_set_ne _ (by rw [List.length_set]; omega) (by omega)]
      by_cases he : i + 1 = x.length - 1
      · rw [if_pos he, ← he, getD_set_eq _ hlt1]
        rw [← he] at h4
        omega
      · rw [if_neg he, getD_set_ne _ hlt1 (by omega)]; exact h4
theorem iAdd_l0 {b : List Int} (hb : Dig b) : ∀ (m k i : Nat) (x : List Int), i + m = b.length → b.length + 1 ≤ x.length → x.length ≤ 1000 → m + 2200 ≤ k →
    (∀ j, j < i → 0 ≤ x.getD j 0 ∧ x.getD j 0 ≤ 19998) → (∀ j, i ≤ j → 0 ≤ x.getD j 0 ∧ x.getD j 0 ≤ 9999) → x.getD (x.length - 1) 0 = 0 →
    impl_limbs_add.l0 k x b (b.length : Int) (i : Int) = some (rep (val x + pw i * val (b.drop i))) := by
  intro m
  induction m with
  | zero =>
    intro k i x hi hx hl hk h1 h2 h3
    obtain ⟨k, rfl⟩ : ∃ j, k = j + 1 := ⟨k - 1, by omega⟩
    rw [impl_limbs_add.l0, if_neg (by omega), w64 (by omega) (by omega), List.drop_eq_nil_of_le (by omega), val_nil, Int.mul_zero, Int.add_zero]
    have hall : ∀ j, 0 ≤ x.getD j 0 ∧ x.getD j 0 ≤ 19998 := fun j => by
      by_cases hj : j < i
      · exact h1 j hj
      · have := h2 j (by omega); omega
    have e := iAdd_l1 (x := x) (x.length - 1) k 0 x (by omega) hl (by omega) (fun j hj => by omega) (fun j _ => hall j) (by have := hall 0; omega) (by rw [h3]; split <;> omega)
    exact e
  | succ m ih =>
    intro k i x hi hx hl hk h1 h2 h3
    obtain ⟨k, rfl⟩ : ∃ j, k = j + 1 := ⟨k - 1, by omega⟩
    have hlt : i < b.length := by omega
    have hltx : i < x.length := by omega
    have b1 := hb.getD i
    have b2 := h2 i (by omega)
    rw [impl_limbs_add.l0, if_pos (by omega), if_pos (by omega), if_pos (by omega), if_pos (by omega), w64 (x := (i : Int) + 1) (by omega) (by omega)]
    simp only [rdn]
    rw [Int.toNat_natCast, w64 (by omega) (by omega), show ((i : Int) + 1) = ((i + 1 : Nat) : Int) from by omega]
    have e := ih k (i + 1) (x.set i (x.getD i 0 + b.getD i 0)) (by omega) (by simp; omega) (by simp; omega) (by omega) ?_ ?_ ?_
    · rw [e, val_set _ _ _ hltx, val_drop b i, pw_succ]
      congr 2
      grind
    · intro j hj
      by_cases hji : j = i
      · rw [hji, getD_set_eq _ hltx]; omega
      · rw [getD_set_ne _ hltx hji]; exact h1 j (by omega)
    · intro j hj
      rw [getD_set_ne _ hltx (by omega)]; exact h2 j (by omega)
    · rw [List.length_set, getD_set_ne _ hltx (by omega)]; exact h3
theorem iAdd_ge {a b : List Int} (ha : Dig a) (hb : Dig b) (la : a.length ≤ 500) (lb : b.length ≤ 500) (k : Nat) (hk : 3000 ≤ k) : impl_limbs_add.f k a b = some (rep (val a + val b)) := by
  unfold impl_limbs_add.f
  have hm : mx (a.length : Int) (b.length : Int) = ((max a.length b.length : Nat) : Int) := by unfold mx; split <;> omega
  rw [hm, w64 (by omega) (by omega), if_pos (by omega), show (((max a.length b.length : Nat) : Int) + 1).toNat = max a.length b.length + 1 from by omega, if_pos (by omega)]
  have hc : cpy a (List.replicate (max a.length b.length + 1) 0) = a ++ List.replicate (max a.length b.length + 1 - a.length) 0 := by
    unfold cpy
    rw [List.length_replicate, Nat.min_eq_left (by omega), List.take_length, List.drop_replicate]
  rw [hc]
  have hr : ∀ j, (List.replicate (max a.length b.length + 1 - a.length) (0 : Int)).getD j 0 = 0 := fun j => by
    rw [List.getD_eq_getElem?_getD, List.getElem?_replicate]; split <;> rfl
  have hg : ∀ j, (a ++ List.replicate (max a.length b.length + 1 - a.length) 0).getD j 0 = a.getD j 0 := fun j => by
    by_cases hj : j < a.length
    · rw [List.getD_eq_getElem?_getD, List.getElem?_append_left hj, ← List.getD_eq_getElem?_getD]
    · rw [List.getD_eq_getElem?_getD, List.getElem?_append_right (by omega), ← List.getD_eq_getElem?_getD, hr, getD_ge (by omega)]
  have e := iAdd_l0 hb b.length k 0 (a ++ List.replicate (max a.length b.length + 1 - a.length) 0) (by omega) (by simp; omega) (by simp; omega) (by omega) (fun j hj => by omega) (fun j _ => by rw [hg]; exact ha.getD j)
    (by rw [hg]; apply getD_ge; simp; omega)
  rw [val_append, val_replicate, List.drop_zero, pw_zero] at e
  refine e.trans ?_
  congr 2
  omega
theorem dig_push {l : List Int} (h : Dig l) {x : Int} (h0 : 0 ≤ x) (h1 : x ≤ 9999) : Dig (l ++ [x]) := h.append (Dig.cons h0 h1 Dig.nil)
theorem val_push (l : List Int) (x : Int) : val (l ++ [x]) = val l + pw l.length * x := by rw [val_append]; simp [val]
theorem iSub_l1 (v : Int) (hv : 0 ≤ v) : ∀ (m k i : Nat) (x : List Int), i + m = x.length → x.length ≤ 1000 → m + 1100 ≤ k → val x = v →
    (∀ j, j < i → 0 ≤ x.getD j 0 ∧ x.getD j 0 ≤ 9999) → (∀ j, i < j → -9999 ≤ x.getD j 0 ∧ x.getD j 0 ≤ 9999) → (-10000 ≤ x.getD i 0 ∧ x.getD i 0 ≤ 9999) →
    impl_limbs_sub.l1 k x (x.length : Int) (i : Int) = some (rep v) := by
  intro m
  induction m with
  | zero =>
    intro k i x hi hl hk hx h1 h2 h3
    obtain ⟨k, rfl⟩ : ∃ j, k = j + 1 := ⟨k - 1, by omega⟩
    have hd : Dig x := dig_of_getD fun j hj => h1 j (by omega)
    rw [impl_limbs_sub.l1, if_neg (by omega), iTrim_ge x (by omega) k (by omega), trimL_rep hd, hx]
    rfl
  | succ m ih =>
    intro k i x hi hl hk hx h1 h2 h3
    obtain ⟨k, rfl⟩ : ∃ j, k = j + 1 := ⟨k - 1, by omega⟩
    have hlt : i < x.length := by omega
    have hdt : Dig (x.take i) := dig_of_getD fun j hj => by
      rw [List.length_take] at hj
      rw [getD_take x (by omega)]; exact h1 j (by omega)
    rw [impl_limbs_sub.l1, if_pos (by omega), if_pos (by omega), if_pos (by omega)]
    simp only [rdN]
    rw [Int.toNat_natCast, w64 (x := (i : Int) + 1) (by omega) (by omega)]
    by_cases hneg : x.getD i 0 < 0
    · have hlt1 : i + 1 < x.length := by
        apply Nat.lt_of_not_le
        intro hc
        have es := val_split x (n := i) (by omega)
        rw [val_drop x i, List.drop_eq_nil_of_le (show x.length ≤ i + 1 by omega), val_nil] at es
        have hlt2 := val_lt hdt
        rw [List.length_take, Nat.min_eq_left (by omega)] at hlt2
        have hp := pw_pos i
        have : pw i * (x.getD i 0 + 10000 * 0) ≤ pw i * (-1) := Int.mul_le_mul_of_nonneg_left (by omega) (by omega)
        omega
      have n1 := h2 (i + 1) (by omega)
      rw [if_pos hneg]
      simp only [Option.bind_some]
      rw [if_pos (by omega), if_pos (by omega), rdn, show ((i : Int) + 1).toNat = i + 1 from by omega, w64 (x := x.getD i 0 + 10000) (by omega) (by omega), getD_set_ne _ hlt (by omega), w64 (by omega) (by omega), show ((i : Int) + 1) = ((i + 1 : Nat) : Int) from by omega]
      have hlen : ((x.set i (x.getD i 0 + 10000)).set (i + 1) (x.getD (i + 1) 0 - 1)).length = x.length := by simp
      have e := ih k (i + 1) ((x.set i (x.getD i 0 + 10000)).set (i + 1) (x.getD (i + 1) 0 - 1)) (by rw [hlen]; omega) (by rw [hlen]; omega) (by omega) ?_ ?_ ?_ ?_
      · rw [hlen] at e; exact e
      · rw [val_set _ _ _ (by rw [List.length_set]; omega), val_set _ _ _ hlt, getD_set_ne _ hlt (by omega), pw_succ, hx]
        grind
      · intro j hj
        rw [getD_set_ne _ (by rw [List.length_set]; omega) (by omega)]
        by_cases hji : j = i
        · rw [hji, getD_set_eq _ hlt]; omega
        · rw [getD_set_ne _ hlt hji]; exact h1 j (by omega)
      · intro j hj
        rw [getD_set_ne _ (by rw [List.length_set]; omega) (by omega), getD_set_ne _ hlt (by omega)]; exact h2 j (by omega)
      · rw [getD_set_eq _ (by rw [List.length_set]; omega)]; omega
    · rw [if_neg hneg, show ((i : Int) + 1) = ((i + 1 : Nat) : Int) from by omega]
      exact ih k (i + 1) x (by omega) hl (by omega) hx (fun j hj => by
        by_cases hji : j = i
        · rw [hji]; omega
        · exact h1 j (by omega)) (fun j hj => h2 j (by omega)) (by have := h2 (i + 1) (by omega); omega)
theorem iSub_l0 {b : List Int} (hb : Dig b) : ∀ (m k i : Nat) (x : List Int), i + m = b.length → b.length ≤ x.length → x.length ≤ 1000 → m + 2200 ≤ k → 0 ≤ val x - pw i * val (b.drop i) →
    (∀ j, j < i → -9999 ≤ x.getD j 0 ∧ x.getD j 0 ≤ 9999) → (∀ j, i ≤ j → 0 ≤ x.getD j 0 ∧ x.getD j 0 ≤ 9999) →
    impl_limbs_sub.l0 k x b (b.length : Int) (i : Int) = some (rep (val x - pw i * val (b.drop i))) := by
  intro m
  induction m with
  | zero =>
    intro k i x hi hx hl hk hv h1 h2
    obtain ⟨k, rfl⟩ : ∃ j, k = j + 1 := ⟨k - 1, by omega⟩
    rw [List.drop_eq_nil_of_le (by omega), val_nil, Int.mul_zero, Int.sub_zero] at hv
    rw [impl_limbs_sub.l0, if_neg (by omega), List.drop_eq_nil_of_le (by omega), val_nil, Int.mul_zero, Int.sub_zero]
    have hall : ∀ j, -9999 ≤ x.getD j 0 ∧ x.getD j 0 ≤ 9999 := fun j => by
      by_cases hj : j < i
      · exact h1 j hj
      · have := h2 j (by omega); omega
    exact iSub_l1 (val x) hv x.length k 0 x (by omega) hl (by omega) rfl (fun j hj => by omega) (fun j _ => hall j) (by have := hall 0; omega)
  | succ m ih =>
    intro k i x hi hx hl hk hv h1 h2
    obtain ⟨k, rfl⟩ : ∃ j, k = j + 1 := ⟨k - 1, by omega⟩
    have hlt : i < b.length := by omega
    have hltx : i < x.length := by omega
    have b1 := hb.getD i
    have b2 := h2 i (by omega)
    rw [impl_limbs_sub.l0, if_pos (by omega), if_pos (by omega), if_pos (by omega), if_pos (by omega), w64 (x := (i : Int) + 1) (by omega) (by omega)]
    simp only [rdn]
    rw [Int.toNat_natCast, w64 (by omega) (by omega), show ((i : Int) + 1) = ((i + 1 : Nat) : Int) from by omega]
    have hval : val (x.set i (x.getD i 0 - b.getD i 0)) - pw (i + 1) * val (b.drop (i + 1)) = val x - pw i * val (b.drop i) := by
      rw [val_set _ _ _ hltx, val_drop b i, pw_succ]
      grind
    have e := ih k (i + 1) (x.set i (x.getD i 0 - b.getD i 0)) (by omega) (by simp; omega) (by simp; omega) (by omega) (by rw [hval]; exact hv) ?_ ?_
    · rw [e, hval]
    · intro j hj
      by_cases hji : j = i
      · rw [hji, getD_set_eq _ hltx]; omega
      · rw [getD_set_ne _ hltx hji]; exact h1 j (by omega)
    · intro j hj
      rw [getD_set_ne _ hltx (by omega)]; exact h2 j (by omega)
theorem len_le_of_val {a b : List Int} (ha : Dig a) (hb : Dig b) (zb : Nz b) (h : val b ≤ val a) : b.length ≤ a.length := by
  apply Nat.le_of_not_lt
  intro hc
  have := val_lt_of_len ha hb zb hc
  omega
theorem iSub_ge {a b : List Int} (ha : Dig a) (hb : Dig b) (zb : Nz b) (la : a.length ≤ 1000) (h : val b ≤ val a) (k : Nat) (hk : 4000 ≤ k) : impl_limbs_sub.f k a b = some (rep (val a - val b)) := by
  unfold impl_limbs_sub.f clone100.f
  have hlen := len_le_of_val ha hb zb h
  rw [if_pos (by omega)]
  simp only [Option.bind_some]
  have e := iSub_l0 hb b.length k 0 a (by omega) hlen la (by omega) (by rw [List.drop_zero, pw_zero]; omega) (fun j hj => by omega) (fun j _ => ha.getD j)
  rw [List.drop_zero, pw_zero, Int.one_mul] at e
  exact e
end Go.Proofs.Ytdemeoncjcbojaa.Val
end
section
namespace Go.Proofs.Ytdemeoncjcbojaa.Val
open Go.RowKit Go.Proofs.Ytdemeoncjcbojaa.Pr Go.Proofs.Ytdemeoncjcbojaa.Ext Go.Proofs.Ytdemeoncjcbojaa.Jt Go.Proofs.YtdemeoncjcbojaaW.PrintWords Go.Proofs.YtdemeoncjcbojaaW.PrintLast Go.Proofs.YtdemeoncjcbojaaW.PrintMore
set_option linter.unusedVariables false
set_option linter.unusedSimpArgs false
def sv (q : Bool) (v : Int) : Int := if q = true then -v else v
theorem sv_rep {q : Bool} {v : Int} (h : 0 ≤ v) : bigv q (rep v) = sv q v := by unfold bigv sv; rw [rep_val h]
theorem bigv_sv (q : Bool) (l : List Int) : bigv q l = sv q (val l) := rfl
theorem rep_len_le {v : Int} (h0 : 0 ≤ v) {n : Nat} (h : v < pw n) : (rep v).length ≤ n := (rep_len h0 n).2 h
theorem sgn_ge (x : Int) : sgn x ≥ 0 ↔ 0 ≤ x := by unfold sgn; split <;> (try split) <;> omega
theorem two_pw {n : Nat} {x y : Int} (hx : x < pw n) (hy : y < pw n) : x + y < pw (n + 1) := by rw [pw_succ]; have := pw_pos n; omega
theorem signed_add_ge {s s' : Bool} {a b : List Int} (ha : Dig a) (hb : Dig b) (za : Nz a) (zb : Nz b) (la : a.length ≤ 100) (lb : b.length ≤ 100) :
    ∃ q v, (∀ k, 5000 ≤ k → impl_signed_add.f k s a s' b = some (q, rep v)) ∧ 0 ≤ v ∧ (rep v).length ≤ 101 ∧ sv q v = bigv s a + bigv s' b := by
  have na := val_nonneg ha
  have nb := val_nonneg hb
  have ha2 := Int.lt_of_lt_of_le (val_lt ha) (pw_mono la)
  have hb2 := Int.lt_of_lt_of_le (val_lt hb) (pw_mono lb)
  have h2 : val a + val b < pw 101 := two_pw ha2 hb2
  rw [bigv_sv, bigv_sv]
  by_cases hs : s = s'
  · subst hs
    refine ⟨s, val a + val b, fun k hk => ?_, by omega, rep_len_le (by omega) h2, by cases s <;> simp [sv] <;> omega⟩
    unfold impl_signed_add.f
    rw [if_pos (by simp), iAdd_ge ha hb (by omega) (by omega) k (by omega)]; rfl
  · have hs' : (s == s') = false := by simp [hs]
    by_cases hc : val b ≤ val a
    · refine ⟨s, val a - val b, fun k hk => ?_, by omega, rep_len_le (by omega) (by omega), by cases s <;> cases s' <;> simp_all [sv] <;> omega⟩
      unfold impl_signed_add.f
      rw [if_neg (by rw [hs']; decide), iCmp_ge ha hb za zb (by omega) (by omega) k (by omega)]
      simp only [Option.bind_some]
      rw [if_pos ((sgn_ge _).2 (by omega)), iSub_ge ha hb zb (by omega) hc k (by omega)]; rfl
    · refine ⟨s', val b - val a, fun k hk => ?_, by omega, rep_len_le (by omega) (by omega), by cases s <;> cases s' <;> simp_all [sv] <;> omega⟩
      unfold impl_signed_add.f
      rw [if_neg (by rw [hs']; decide), iCmp_ge ha hb za zb (by omega) (by omega) k (by omega)]
      simp only [Option.bind_some]
      rw [if_neg (fun h => by have := (sgn_ge _).1 h; omega), iSub_ge hb ha za (by omega) (by omega) k (by omega)]; rfl
abbrev No : Bool × List Int × Bool := (false, [], false)
def addR (n : Bool) (l : List Int) (n' : Bool) (l' : List Int) : Bool × List Int × Bool := if okB n l = true ∧ okB n' l' = true then bigR (bigv n l + bigv n' l') else No
theorem bigs_f (n : Bool) (l : List Int) (n' : Bool) (l' : List Int) : impl_bigs.f n l n' l' = some (okB n l && okB n' l') := by
  unfold impl_bigs.f
  rw [bigOk_f, bigOk_f]
  simp only [Option.bind_some]
  cases okB n l <;> simp
theorem iBigAdd_ge (n : Bool) (l : List Int) (n' : Bool) (l' : List Int) (k : Nat) (hk : 6000 ≤ k) : impl_BigAdd.f k n l n' l' = some (addR n l n' l') := by
  unfold impl_BigAdd.f addR
  rw [bigs_f]
  simp only [Option.bind_some]
  by_cases h : okB n l = true ∧ okB n' l' = true
  · rw [if_pos h, if_pos (by rw [h.1, h.2]; rfl)]
    obtain ⟨l1, d1, z1, _⟩ := (okB_iff n l).1 h.1
    obtain ⟨l2, d2, z2, _⟩ := (okB_iff n' l').1 h.2
    obtain ⟨q, v, hq, hv, hl, he⟩ := signed_add_ge (s := n) (s' := n') d1 d2 z1 z2 (by omega) (by omega)
    simp only [impl_Big_signed.f, Option.bind_some]
    rw [hq k (by omega)]
    simp only [Option.bind_some]
    rw [big_ge (rep_dig v) (by omega) q k (by omega), sv_rep hv, he]
    rfl
  · rw [if_neg h, if_neg (by simpa using h)]
theorem jtInts_l0 {a b : List Int} (hl : a.length = b.length) (hL : a.length < 1000000) : ∀ (m k i : Nat), i + m = a.length → m + 1 ≤ k → laws_jtInts.l0 k a b (i : Int) = some (decide (a.drop i = b.drop i)) := by
  intro m
  induction m with
  | zero =>
    intro k i hi hk
    obtain ⟨k, rfl⟩ : ∃ j, k = j + 1 := ⟨k - 1, by omega⟩
    rw [laws_jtInts.l0, if_neg (by omega), List.drop_eq_nil_of_le (by omega), List.drop_eq_nil_of_le (by omega)]
    simp
  | succ m ih =>
    intro k i hi hk
    obtain ⟨k, rfl⟩ : ∃ j, k = j + 1 := ⟨k - 1, by omega⟩
    rw [laws_jtInts.l0, if_pos (by omega), if_pos (by omega), if_pos (by omega), rdN, rdN, drop_cons (l := a) (by omega), drop_cons (l := b) (by omega)]
    by_cases h : a.getD i 0 = b.getD i 0
    · rw [if_pos h, w64 (by omega) (by omega), show ((i : Int) + 1) = ((i + 1 : Nat) : Int) from by omega, ih k (i + 1) (by omega) (by omega), h]
      simp
    · rw [if_neg h]
      simp only [List.cons.injEq, h, false_and, decide_false]
theorem jtBig_ge (n : Bool) (l : List Int) (n' : Bool) (l' : List Int) (hl : l.length ≤ 1000) (k : Nat) (hk : 1010 ≤ k) : laws_jtBig.f k n l n' l' = some (decide (n = n' ∧ l = l')) := by
  unfold laws_jtBig.f laws_jtInts.f
  by_cases hn : n = n'
  · rw [if_pos (by simp [hn])]
    by_cases h : (l.length : Int) = (l'.length : Int)
    · have e := jtInts_l0 (a := l) (b := l') (by omega) (by omega) l.length k 0 (by omega) (by omega)
      rw [List.drop_zero, List.drop_zero] at e
      rw [if_pos h]
      simp only [hn, true_and]
      rw [show (0 : Int) = ((0 : Nat) : Int) from rfl, e]
      rfl
    · rw [if_neg h]
      have : l ≠ l' := fun hc => h (by rw [hc])
      simp [this]
  · rw [if_neg (by simp [hn])]
    simp [hn]
theorem okB_mk {x : Int} (h : -pw 16 < x ∧ x < pw 16) : okB (mkN x) (mkL x) = true := (okB_iff _ _).2 (mk_ok h.1 h.2)
end Go.Proofs.Ytdemeoncjcbojaa.Val
end
section
namespace Go.Proofs.Ytdemeoncjcbojaa.Val
open Go.RowKit Go.Proofs.Ytdemeoncjcbojaa.Pr Go.Proofs.Ytdemeoncjcbojaa.Ext Go.Proofs.Ytdemeoncjcbojaa.Jt Go.Proofs.YtdemeoncjcbojaaW.PrintWords Go.Proofs.YtdemeoncjcbojaaW.PrintLast Go.Proofs.YtdemeoncjcbojaaW.PrintMore
set_option linter.unusedVariables false
set_option linter.unusedSimpArgs false
theorem mul_bd {x y : Int} (hx : 0 ≤ x ∧ x ≤ 9999) (hy : 0 ≤ y ∧ y ≤ 9999) : 0 ≤ x * y ∧ x * y ≤ 99980001 := by
  constructor
  · exact Int.mul_nonneg hx.1 hy.1
  · have h1 : x * y ≤ 9999 * y := Int.mul_le_mul_of_nonneg_right hx.2 hy.1
    have h2 : 9999 * y ≤ 9999 * 9999 := Int.mul_le_mul_of_nonneg_left hy.2 (by omega)
    omega
theorem dig_set {l : List Int} (hd : Dig l) {i : Nat} {v : Int} (h0 : 0 ≤ v) (h1 : v ≤ 9999) : Dig (l.set i v) := by
  intro x hx
  rcases List.mem_or_eq_of_mem_set hx with h | h
  · exact hd x h
  · subst h; exact ⟨h0, h1⟩
theorem mul_cell {out : List Int} {p : Nat} {d e c R V : Int} (hp : p < out.length) (x : Int) (hx : x = out.getD p 0 + d * e + c) :
    val (out.set p (x % 10000)) + pw (p + 1) * (d * V + x / 10000) + R = val out + pw p * (d * (e + 10000 * V) + c) + R := by
  rw [val_set _ _ _ hp, pw_succ]
  have e1 : x = 10000 * (x / 10000) + x % 10000 := by omega
  generalize x / 10000 = q at e1 ⊢
  generalize x % 10000 = r at e1 ⊢
  generalize out.getD p 0 = o at *
  have e2 : r = o + d * e + c - 10000 * q := by omega
  subst e2
  grind
theorem iMul_l1 {a b : List Int} (hb : Dig b) (lb : b.length ≤ 50) {i : Nat} (hi : i < a.length) (la : a.length ≤ 50) {d : Int} (hd : 0 ≤ d ∧ d ≤ 9999) (K : Nat)
    (H : ∀ k out, K ≤ k → Dig out → out.length = a.length + b.length + 1 → (∀ q, i + 1 + b.length ≤ q → out.getD q 0 = 0) → impl_limbs_mul.l0 k b out a (a.length : Int) ((i + 1 : Nat) : Int) = some (rep (val out + pw (i + 1) * (val (a.drop (i + 1)) * val b)))) :
    ∀ (m k j : Nat) (out : List Int) (c : Int), j + m = b.length → K + m + 1 ≤ k → Dig out → out.length = a.length + b.length + 1 → 0 ≤ c → c ≤ 9999 → (∀ q, i + b.length ≤ q → out.getD q 0 = 0) →
      impl_limbs_mul.l1 k b out (i : Int) d c a (a.length : Int) (i : Int) b (b.length : Int) (j : Int) = some (rep (val out + pw (i + j) * (d * val (b.drop j) + c) + pw (i + 1) * (val (a.drop (i + 1)) * val b))) := by
  intro m
  induction m with
  | zero =>
    intro k j out c hj hk ho hL c0 c1 hz
    obtain ⟨k, rfl⟩ : ∃ q, k = q + 1 := ⟨k - 1, by omega⟩
    have hlt : i + b.length < out.length := by omega
    rw [impl_limbs_mul.l1, if_neg (by omega), w64 (x := (i : Int) + (b.length : Int)) (by omega) (by omega), if_pos (by omega), if_pos (by omega), rdn, show ((i : Int) + (b.length : Int)).toNat = i + b.length from by omega, hz _ (Nat.le_refl _),
      w64 (x := (0 : Int) + c) (by omega) (by omega), w64 (x := (i : Int) + 1) (by omega) (by omega), show ((i : Int) + 1) = ((i + 1 : Nat) : Int) from by omega]
    rw [H k _ (by omega) (dig_set ho (by omega) (by omega)) (by rw [List.length_set]; exact hL) (fun q hq => by rw [getD_set_ne _ hlt (by omega)]; exact hz q (by omega))]
    rw [val_set _ _ _ hlt, hz _ (Nat.le_refl _), List.drop_eq_nil_of_le (show b.length ≤ j by omega), val_nil, show i + j = i + b.length from by omega]
    congr 3
    grind
  | succ m ih =>
    intro k j out c hj hk ho hL c0 c1 hz
    obtain ⟨k, rfl⟩ : ∃ q, k = q + 1 := ⟨k - 1, by omega⟩
    have hlt : i + j < out.length := by omega
    have b1 := hb.getD j
    have b2 := ho.getD (i + j)
    have b3 := mul_bd hd b1
    rw [impl_limbs_mul.l1, if_pos (by omega), w64 (x := (i : Int) + (j : Int)) (by omega) (by omega), if_pos (by omega), if_pos (by omega), if_pos (by omega), if_pos (by omega)]
    simp only [rdn]
    rw [show ((i : Int) + (j : Int)).toNat = i + j from by omega, Int.toNat_natCast, w64 (x := d * b.getD j 0) (by omega) (by omega), w64 (x := out.getD (i + j) 0 + d * b.getD j 0) (by omega) (by omega), w64 (x := out.getD (i + j) 0 + d * b.getD j 0 + c) (by omega) (by omega),
      w64 (x := (j : Int) + 1) (by omega) (by omega), Int.tdiv_eq_ediv_of_nonneg (by omega), Int.tmod_eq_emod_of_nonneg (by omega)]
    rw [w64 (by omega) (by omega), show ((j : Int) + 1) = ((j + 1 : Nat) : Int) from by omega]
    rw [ih k (j + 1) _ _ (by omega) (by omega) (dig_set ho (by omega) (by omega)) (by rw [List.length_set]; exact hL) (by omega) (by omega) (fun q hq => by rw [getD_set_ne _ hlt (by omega)]; exact hz q hq)]
    rw [val_drop b j, show i + (j + 1) = i + j + 1 from by omega, mul_cell hlt _ rfl]
theorem iMul_l0 {a b : List Int} (ha : Dig a) (hb : Dig b) (la : a.length ≤ 50) (lb : b.length ≤ 50) : ∀ (m i : Nat), i + m = a.length → ∀ k out, 1200 + 60 * m ≤ k → Dig out → out.length = a.length + b.length + 1 → (∀ q, i + b.length ≤ q → out.getD q 0 = 0) →
    impl_limbs_mul.l0 k b out a (a.length : Int) (i : Int) = some (rep (val out + pw i * (val (a.drop i) * val b))) := by
  intro m
  induction m with
  | zero =>
    intro i hi k out hk ho hL hz
    obtain ⟨k, rfl⟩ : ∃ q, k = q + 1 := ⟨k - 1, by omega⟩
    rw [impl_limbs_mul.l0, if_neg (by omega), iTrim_ge out (by omega) k (by omega), trimL_rep ho, List.drop_eq_nil_of_le (by omega), val_nil]
    simp
  | succ m ih =>
    intro i hi k out hk ho hL hz
    obtain ⟨k, rfl⟩ : ∃ q, k = q + 1 := ⟨k - 1, by omega⟩
    have a1 := ha.getD i
    rw [impl_limbs_mul.l0, if_pos (by omega), if_pos (by omega), if_pos (by omega), rdn, Int.toNat_natCast]
    have e := iMul_l1 hb lb (i := i) (a := a) (by omega) la a1 (1200 + 60 * m) (fun k out hk h1 h2 h3 => ih (i + 1) (by omega) k out hk h1 h2 h3) b.length k 0 out 0 (by omega) (by omega) ho hL (by omega) (by omega) hz
    refine e.trans ?_
    rw [List.drop_zero, Nat.add_zero, val_drop a i, pw_succ]
    congr 2
    grind
theorem iMul_ge {a b : List Int} (ha : Dig a) (hb : Dig b) (la : a.length ≤ 50) (lb : b.length ≤ 50) (k : Nat) (hk : 5000 ≤ k) : impl_limbs_mul.f k a b = some (rep (val a * val b)) := by
  unfold impl_limbs_mul.f
  rw [w64 (x := (a.length : Int) + (b.length : Int)) (by omega) (by omega), w64 (by omega) (by omega), if_pos (by omega), if_pos (by omega), show ((a.length : Int) + (b.length : Int) + 1).toNat = a.length + b.length + 1 from by omega]
  have hz : ∀ q, (List.replicate (a.length + b.length + 1) (0 : Int)).getD q 0 = 0 := fun q => by
    rw [List.getD_eq_getElem?_getD, List.getElem?_replicate]; split <;> rfl
  have e := iMul_l0 ha hb la lb a.length 0 (by omega) k (List.replicate (a.length + b.length + 1) 0) (by omega) (dig_of_getD fun q _ => by rw [hz]; omega) (by simp) (fun q _ => hz q)
  rw [val_replicate, List.drop_zero, pw_zero] at e
  refine e.trans ?_
  congr 2
  omega
def mulR (n : Bool) (l : List Int) (n' : Bool) (l' : List Int) : Bool × List Int × Bool := if okB n l = true ∧ okB n' l' = true then bigR (bigv n l * bigv n' l') else No
theorem sv_mul {q q' : Bool} {x y : Int} : sv (q != q') (x * y) = sv q x * sv q' y := by
  cases q <;> cases q' <;> simp [sv, Int.neg_mul, Int.mul_neg]
theorem mul_len {a b : List Int} (ha : Dig a) (hb : Dig b) (la : a.length ≤ 50) (lb : b.length ≤ 50) : 0 ≤ val a * val b ∧ (rep (val a * val b)).length ≤ 100 := by
  have na := val_nonneg ha
  have nb := val_nonneg hb
  have h0 := Int.mul_nonneg na nb
  refine ⟨h0, rep_len_le h0 ?_⟩
  have h1 := Int.lt_of_lt_of_le (val_lt ha) (pw_mono la)
  have h2 := Int.lt_of_lt_of_le (val_lt hb) (pw_mono lb)
  have p := pw_pos 50
  rw [show (100 : Nat) = 50 + 50 from rfl, pw_add]
  have h3 : val a * val b ≤ val a * pw 50 := Int.mul_le_mul_of_nonneg_left (by omega) na
  have h4 : val a * pw 50 < pw 50 * pw 50 := Int.mul_lt_mul_of_pos_right h1 (by omega)
  omega
theorem smul_ge {n n' : Bool} {a b : List Int} (ha : Dig a) (hb : Dig b) (la : a.length ≤ 50) (lb : b.length ≤ 50) (k : Nat) (hk : 5000 ≤ k) : impl_signed_mul.f k n a n' b = some (n != n', rep (val a * val b)) := by
  unfold impl_signed_mul.f
  rw [iMul_ge ha hb la lb k hk, Option.bind_some]
theorem bS {α β : Type} (a : α) (f : α → Option β) : (some a).bind f = f a := by have h := Option.bind_some a f; rw [h]
theorem bsg (n : Bool) (l : List Int) : impl_Big_signed.f n l = some (n, l) := by unfold impl_Big_signed.f; have h : (some (n, l)) = some (n, l) := rfl; rw [h]
theorem eta3 (x : Bool × List Int × Bool) : (some x).bind (fun bt => some (bt.1, bt.2.1, bt.2.2)) = some x := rfl
theorem iBigMul_ge (n : Bool) (l : List Int) (n' : Bool) (l' : List Int) (k : Nat) (hk : 6000 ≤ k) : impl_BigMul.f k n l n' l' = some (mulR n l n' l') := by
  unfold impl_BigMul.f mulR
  rw [bigs_f]
  simp only [bS]
  by_cases h : okB n l = true ∧ okB n' l' = true
  · rw [if_pos h, if_pos (by rw [h.1, h.2]; rfl)]
    obtain ⟨l1, d1, z1, _⟩ := (okB_iff n l).1 h.1
    obtain ⟨l2, d2, z2, _⟩ := (okB_iff n' l').1 h.2
    obtain ⟨h0, hl⟩ := mul_len d1 d2 (by omega) (by omega)
    simp only [bsg, bS]
    rw [smul_ge d1 d2 (by omega) (by omega) k (by omega)]
    simp only [bS]
    rw [big_ge (rep_dig _) (by omega) _ k (by omega), sv_rep h0, sv_mul, ← bigv_sv, ← bigv_sv]
    exact eta3 _
  · rw [if_neg h, if_neg (by simpa using h)]
theorem u64w {x : Int} (h0 : 0 ≤ x) (h1 : x ≤ 18446744073709551615) : IntKind.u64.wrap x = x := by
  have : IntKind.u64.wrap x = x % 18446744073709551616 := by simp [IntKind.wrap, IntKind.signed, IntKind.bits]
  rw [this]; omega
theorem u64neg {x : Int} (h0 : x < 0) (h1 : -9223372036854775808 ≤ x) : IntKind.u64.wrap (-(IntKind.u64.wrap x)) = -x := by
  have e : ∀ y : Int, IntKind.u64.wrap y = y % 18446744073709551616 := fun y => by simp [IntKind.wrap, IntKind.signed, IntKind.bits]
  rw [e, e]; omega
theorem limbsOf_l0 : ∀ (m k : Nat) (x : Int) (acc : List Int), 0 ≤ x → x ≤ 9223372036854775808 → x < pw m → acc.length + m ≤ 50 → m + 1 ≤ k → Dig acc → ∃ l, impl_limbsOf.l0 k x acc = some l ∧ Dig l ∧ val l = val acc + pw acc.length * x ∧ l.length ≤ 50 := by
  intro m
  induction m with
  | zero =>
    intro k x acc h0 h1 hx hl hk hd
    obtain ⟨k, rfl⟩ : ∃ j, k = j + 1 := ⟨k - 1, by omega⟩
    rw [pw_zero] at hx
    refine ⟨acc, by rw [impl_limbsOf.l0, if_neg (by omega)], hd, by rw [show x = 0 from by omega]; omega, by omega⟩
  | succ m ih =>
    intro k x acc h0 h1 hx hl hk hd
    obtain ⟨k, rfl⟩ : ∃ j, k = j + 1 := ⟨k - 1, by omega⟩
    rw [pw_succ] at hx
    by_cases hz : x > 0
    · obtain ⟨l, e, hd', hv, hl'⟩ := ih k (x / 10000) (acc ++ [x % 10000]) (by omega) (by omega) (by omega) (by simp; omega) (by omega) (dig_push hd (by omega) (by omega))
      refine ⟨l, ?_, hd', ?_, hl'⟩
      · rw [impl_limbsOf.l0, if_pos hz, if_pos (by omega), Int.tdiv_eq_ediv_of_nonneg h0, Int.tmod_eq_emod_of_nonneg h0, u64w (by omega) (by omega), w64 (by omega) (by omega)]
        exact e
      · rw [hv, val_push, List.length_append, List.length_cons, List.length_nil, Nat.zero_add, pw_succ]
        have e3 : x = 10000 * (x / 10000) + x % 10000 := by omega
        generalize x / 10000 = q at e3 ⊢
        generalize x % 10000 = r at e3 ⊢
        subst e3
        grind
    · refine ⟨acc, by rw [impl_limbsOf.l0, if_neg hz], hd, by rw [show x = 0 from by omega]; omega, by omega⟩
theorem pw5 : pw 5 = 100000000000000000000 := by decide
theorem limbsOf_ge {x : Int} (h0 : 0 ≤ x) (h1 : x ≤ 9223372036854775808) (k : Nat) (hk : 10 ≤ k) : ∃ l, impl_limbsOf.f k x = some l ∧ Dig l ∧ val l = x ∧ l.length ≤ 50 := by
  obtain ⟨l, e, hd, hv, hl⟩ := limbsOf_l0 5 k x [] h0 h1 (by rw [pw5]; omega) (by simp) (by omega) Dig.nil
  refine ⟨l, e, hd, ?_, hl⟩
  rw [hv, List.length_nil, pw_zero, val_nil]; omega
theorem bigR_int {x : Int} (h0 : -9223372036854775808 ≤ x) (h1 : x ≤ 9223372036854775807) : bigR x = (mkN x, mkL x, true) := by
  unfold bigR
  rw [if_pos (by rw [pw16]; omega)]
theorem iBigOf_ge {x : Int} (h0 : -9223372036854775808 ≤ x) (h1 : x ≤ 9223372036854775807) (k : Nat) (hk : 2000 ≤ k) : impl_BigOf.f k x = some (mkN x, mkL x) := by
  unfold impl_BigOf.f
  by_cases h : x < 0
  · obtain ⟨l, e, hd, hv, hl⟩ := limbsOf_ge (x := -x) (by omega) (by omega) k (by omega)
    rw [if_pos h, u64neg h h0, e]
    simp only [Option.bind_some]
    rw [big_ge hd (by omega) _ k (by omega), bigv_sv, hv, decide_eq_true h, show sv true (-x) = x from by simp [sv], bigR_int h0 h1]
    rfl
  · obtain ⟨l, e, hd, hv, hl⟩ := limbsOf_ge (x := x) (by omega) (by omega) k (by omega)
    rw [if_neg h, u64w (by omega) (by omega), e]
    simp only [Option.bind_some]
    rw [big_ge hd (by omega) _ k (by omega), bigv_sv, hv, decide_eq_false h, show sv false x = x from by simp [sv], bigR_int h0 h1]
    rfl
theorem getD_last (l : List Int) (x : Int) : (l ++ [x]).getD ((l ++ [x]).length - 1) 0 = x := by
  rw [List.getD_eq_getElem?_getD, List.length_append, List.length_cons, List.length_nil, Nat.zero_add, Nat.add_sub_cancel, List.getElem?_append_right (Nat.le_refl _), Nat.sub_self]
  rfl
def ab (x : Int) : Int := if x < 0 then -x else x
theorem sBigOf_l0 (n : Int) : ∀ (m k : Nat) (x : Int) (acc : List Int), -9223372036854775808 ≤ x → x ≤ 9223372036854775807 → ab x < pw m → acc.length + m ≤ 50 → m + 1 ≤ k → Dig acc → (x = 0 → Nz acc) →
    spec_BigOf.l0 k n acc x = some (decide (n < 0), rep (val acc + pw acc.length * ab x)) := by
  intro m
  induction m with
  | zero =>
    intro k x acc h0 h1 hx hl hk hd hz
    obtain ⟨k, rfl⟩ : ∃ j, k = j + 1 := ⟨k - 1, by omega⟩
    rw [pw_zero] at hx
    have hx0 : x = 0 := by unfold ab at hx; split at hx <;> omega
    subst hx0
    rw [spec_BigOf.l0, if_pos rfl, show ab 0 = 0 from rfl, Int.mul_zero, Int.add_zero, rep_of hd (hz rfl)]
  | succ m ih =>
    intro k x acc h0 h1 hx hl hk hd hz
    obtain ⟨k, rfl⟩ : ∃ j, k = j + 1 := ⟨k - 1, by omega⟩
    rw [pw_succ] at hx
    by_cases hx0 : x = 0
    · subst hx0
      rw [spec_BigOf.l0, if_pos rfl, show ab 0 = 0 from rfl, Int.mul_zero, Int.add_zero, rep_of hd (hz rfl)]
    · have go : ∀ d : Int, d = ab x % 10000 → ab (Int.tdiv x 10000) = ab x / 10000 → -9223372036854775808 ≤ Int.tdiv x 10000 → Int.tdiv x 10000 ≤ 9223372036854775807 →
          spec_BigOf.l0 k n (acc ++ [d]) (wrap64 (Int.tdiv x 10000)) = some (decide (n < 0), rep (val acc + pw acc.length * ab x)) := by
        intro d hdd hq q0 q1
        have hax : 0 ≤ ab x := by unfold ab; split <;> omega
        rw [w64 q0 q1, ih k (Int.tdiv x 10000) (acc ++ [d]) q0 q1 (by rw [hq]; omega) (by simp; omega) (by omega) (dig_push hd (by omega) (by omega)) (fun hz0 => by
          right
          rw [getD_last]
          rw [hz0] at hq
          have : ab x ≠ 0 := by unfold ab; split <;> omega
          have h00 : ab 0 = 0 := rfl
          omega)]
        rw [val_push, List.length_append, List.length_cons, List.length_nil, Nat.zero_add, pw_succ, hq]
        have e3 : ab x = 10000 * (ab x / 10000) + ab x % 10000 := by omega
        rw [← hdd] at e3
        generalize ab x / 10000 = q at e3 ⊢
        rw [e3]
        congr 3
        grind
      rw [spec_BigOf.l0, if_neg hx0]
      by_cases hneg : x < 0
      · have t1 : Int.tdiv x 10000 = -((-x) / 10000) := by
          have := Int.neg_tdiv (a := -x) (b := 10000)
          rw [Int.neg_neg] at this
          rw [this, Int.tdiv_eq_ediv_of_nonneg (by omega)]
        have t2 : Int.tmod x 10000 = -((-x) % 10000) := by
          have := Int.neg_tmod (a := -x) (b := 10000)
          rw [Int.neg_neg] at this
          rw [this, Int.tmod_eq_emod_of_nonneg (by omega)]
        have hab : ab x = -x := if_pos hneg
        have habq : ab (Int.tdiv x 10000) = ab x / 10000 := by rw [t1, hab]; unfold ab; split <;> omega
        by_cases hd0 : Int.tmod x 10000 < 0
        · rw [if_pos hd0, if_pos (by omega)]
          exact go _ (by rw [t2, Int.neg_neg, w64 (by omega) (by omega), hab]) habq (by rw [t1]; omega) (by rw [t1]; omega)
        · rw [if_neg hd0, if_pos (by omega)]
          exact go _ (by rw [hab]; rw [t2] at hd0 ⊢; omega) habq (by rw [t1]; omega) (by rw [t1]; omega)
      · have t1 : Int.tdiv x 10000 = x / 10000 := Int.tdiv_eq_ediv_of_nonneg (by omega)
        have t2 : Int.tmod x 10000 = x % 10000 := Int.tmod_eq_emod_of_nonneg (by omega)
        have hab : ab x = x := if_neg hneg
        have habq : ab (Int.tdiv x 10000) = ab x / 10000 := by rw [t1, hab]; unfold ab; split <;> omega
        rw [if_neg (by rw [t2]; omega), if_pos (by omega)]
        exact go _ (by rw [t2, hab]) habq (by rw [t1]; omega) (by rw [t1]; omega)
theorem sBigOf_ge {x : Int} (h0 : -9223372036854775808 ≤ x) (h1 : x ≤ 9223372036854775807) (k : Nat) (hk : 20 ≤ k) : spec_BigOf.f k x = some (mkN x, mkL x) := by
  unfold spec_BigOf.f
  rw [sBigOf_l0 x 5 k x [] h0 h1 (by rw [pw5]; unfold ab; split <;> omega) (by simp) (by omega) Dig.nil (fun _ => .inl rfl), List.length_nil, pw_zero, val_nil]
  unfold mkN mkL ab
  congr 3
  omega
end Go.Proofs.Ytdemeoncjcbojaa.Val
end
section
namespace Go.Proofs.Ytdemeoncjcbojaa.Val
open Go.RowKit Go.Proofs.Ytdemeoncjcbojaa.Pr Go.Proofs.Ytdemeoncjcbojaa.Ext Go.Proofs.Ytdemeoncjcbojaa.Jt Go.Proofs.YtdemeoncjcbojaaW.PrintWords Go.Proofs.YtdemeoncjcbojaaW.PrintLast Go.Proofs.YtdemeoncjcbojaaW.PrintMore
set_option linter.unusedVariables false
set_option linter.unusedSimpArgs false
theorem wf8 {a : Int} (h : (Lit.int .u8 a).wf = true) : 0 ≤ a ∧ a ≤ 255 := by
  simp [Lit.wf, IntKind.min, IntKind.max, IntKind.signed, IntKind.bits] at h; omega
theorem rd_mem {l : List Int} {i : Int} (h0 : 0 ≤ i) (h : i < (l.length : Int)) : rd l i ∈ l := by
  have hi : i.toNat < l.length := by omega
  unfold rd
  rw [List.getD_eq_getElem?_getD, List.getElem?_eq_getElem hi]
  exact List.getElem_mem hi
theorem xor_nonneg {x y : Int} (hx : 0 ≤ x) (hx' : x < 4611686018427387904) (hy : 0 ≤ y) (hy' : y < 4611686018427387904) : 0 ≤ Go.bits .xor .i64 x y := by
  obtain ⟨a, rfl⟩ := Int.eq_ofNat_of_zero_le hx
  obtain ⟨b, rfl⟩ := Int.eq_ofNat_of_zero_le hy
  have ha : a < 2 ^ 62 := by omega
  have hb : b < 2 ^ 62 := by omega
  have hlt := Nat.xor_lt_two_pow ha hb
  have ha' : a % 2 ^ IntKind.i64.bits = a := Nat.mod_eq_of_lt (by show a < 2 ^ 64; omega)
  have hb' : b % 2 ^ IntKind.i64.bits = b := Nat.mod_eq_of_lt (by show b < 2 ^ 64; omega)
  have e : Go.bits .xor .i64 (a : Int) (b : Int) = ((a ^^^ b : Nat) : Int) := by
    simp only [Go.bits, BitVec.ofInt_natCast, BitVec.toNat_xor, BitVec.toNat_ofNat, ha', hb']
    rw [IntKind.wrap_i64]
    omega
  rw [e]
  omega
def BytesOk (b : List Int) : Prop := b.length ≤ 2000 ∧ ∀ x ∈ b, 0 ≤ x ∧ x ≤ 255
theorem pick_any {b : List Int} (hb : BytesOk b) {p n : Int} (hp : 0 ≤ p) (hp' : p ≤ 1000000) (hn : 1 ≤ n) :
    ∃ r, (∀ k, spec_l1Rd_pick.f (k + 1) b p n = some (r, p + 1)) ∧ 0 ≤ r ∧ r < n := by
  have e1 : wrap64 (p + 1) = p + 1 := w64 (by omega) (by omega)
  have e2 : wrap64 (p + 1 - 1) = p := by rw [w64 (by omega) (by omega)]; omega
  have hl := hb.1
  by_cases h0 : b.length = 0
  · refine ⟨0, fun k => ?_, by omega, by omega⟩
    have hz : ((b.length : Int) == 0) = true := by rw [h0]; rfl
    unfold spec_l1Rd_pick.f
    rw [if_neg (by omega), e1, hz]
    simp only [spec_l1Rd_pick.j0, if_true]
  · have hz : ((b.length : Int) == 0) = false := by rw [beq_eq_false_iff_ne]; omega
    by_cases hk : p < (b.length : Int)
    · have hm := hb.2 _ (rd_mem hp hk)
      refine ⟨Int.tmod (rd b p) n, fun k => ?_, Int.tmod_nonneg _ hm.1, Int.tmod_lt_of_pos _ (by omega)⟩
      unfold spec_l1Rd_pick.f
      rw [if_neg (by omega), e1, hz]
      simp only [spec_l1Rd_pick.j0]
      rw [if_neg (by decide), e2, if_pos hk, if_pos hp, if_neg (by omega), w64 (by omega) (by omega)]
    · have hL : (0 : Int) < (b.length : Int) := by omega
      have e7 : wrap64 (wrap64 (p * 7) + 3) = p * 7 + 3 := by
        rw [w64 (x := p * 7) (by omega) (by omega), w64 (by omega) (by omega)]
      have i1 := Int.tmod_nonneg (b.length : Int) hp
      have j1 := Int.tmod_lt_of_pos p hL
      have i2 := Int.tmod_nonneg (b.length : Int) (show 0 ≤ p * 7 + 3 by omega)
      have j2 := Int.tmod_lt_of_pos (p * 7 + 3) hL
      have hA := hb.2 _ (rd_mem i1 j1)
      have hB := hb.2 _ (rd_mem i2 j2)
      have hq0 : 0 ≤ Int.tdiv p (b.length : Int) := Int.tdiv_nonneg hp (by omega)
      have hq1 : Int.tdiv p (b.length : Int) ≤ p := by
        rw [Int.tdiv_eq_ediv_of_nonneg hp]; exact Int.ediv_le_self _ hp
      generalize hAe : rd b (Int.tmod p (b.length : Int)) = A at hA
      generalize hBe : rd b (Int.tmod (p * 7 + 3) (b.length : Int)) = B at hB
      generalize hQe : Int.tdiv p (b.length : Int) = Q at hq0 hq1
      have hX : 0 ≤ wrap64 (wrap64 (wrap64 (wrap64 (wrap64 A * 131) + wrap64 (wrap64 B * 1117)) + wrap64 (p * 29)) + wrap64 (wrap64 Q * 53)) ∧
          wrap64 (wrap64 (wrap64 (wrap64 (wrap64 A * 131) + wrap64 (wrap64 B * 1117)) + wrap64 (p * 29)) + wrap64 (wrap64 Q * 53)) < 1000000000 := by
        rw [w64 (x := A) (by omega) (by omega), w64 (x := B) (by omega) (by omega), w64 (x := Q) (by omega) (by omega), w64 (x := A * 131) (by omega) (by omega), w64 (x := B * 1117) (by omega) (by omega),
          w64 (x := p * 29) (by omega) (by omega), w64 (x := Q * 53) (by omega) (by omega), w64 (x := A * 131 + B * 1117) (by omega) (by omega), w64 (x := A * 131 + B * 1117 + p * 29) (by omega) (by omega),
          w64 (by omega) (by omega)]
        omega
      generalize hXe : wrap64 (wrap64 (wrap64 (wrap64 (wrap64 A * 131) + wrap64 (wrap64 B * 1117)) + wrap64 (p * 29)) + wrap64 (wrap64 Q * 53)) = X at hX
      have hY : 0 ≤ wrap64 (Int.tdiv X 64) ∧ wrap64 (Int.tdiv X 64) < 1000000000 := by
        rw [Int.tdiv_eq_ediv_of_nonneg hX.1, w64 (by omega) (by omega)]; omega
      refine ⟨Int.tmod (Go.bits .xor .i64 X (wrap64 (Int.tdiv X 64))) n, fun k => ?_, Int.tmod_nonneg _ (xor_nonneg hX.1 (by omega) hY.1 (by omega)), Int.tmod_lt_of_pos _ (by omega)⟩
      unfold spec_l1Rd_pick.f
      rw [if_neg (by omega), e1, hz]
      simp only [spec_l1Rd_pick.j0]
      rw [if_neg (by decide), e2, if_neg hk, if_neg (by omega), if_pos i1, if_pos j1, e7, if_pos i2, if_pos j2, if_neg (by omega), hAe, hBe, hQe, hXe]
theorem open_any {l : List Int} (hl : ∀ x ∈ l, (Lit.int .u8 x).wf = true) : ∃ b, spec_l1Open.f l = some (b, 0) ∧ BytesOk b := by
  unfold spec_l1Open.f
  by_cases h : (l.length : Int) > 2000
  · rw [if_pos h, if_pos (by omega)]
    exact ⟨_, rfl, by rw [List.length_take]; omega, fun x hx => wf8 (hl x (List.mem_of_mem_take hx))⟩
  · rw [if_neg h]
    exact ⟨_, rfl, by omega, fun x hx => wf8 (hl x hx)⟩
theorem one_any {b : List Int} (hb : BytesOk b) {p : Int} (hp : 0 ≤ p) (hp' : p ≤ 1000000) {l : List Int} (hl : 1 ≤ l.length) :
    ∃ r, (∀ k, spec_l1Rd_one.f (k + 1) b p l = some (r, p + 1)) ∧ r ∈ l := by
  obtain ⟨i, hi, h0, h1⟩ := pick_any hb hp hp' (n := (l.length : Int)) (by omega)
  refine ⟨rd l i, fun k => ?_, rd_mem h0 h1⟩
  unfold spec_l1Rd_one.f
  rw [hi k]
  simp only [Option.bind_some]
  rw [if_pos h0, if_pos h1]
theorem pick_ge {b : List Int} (hb : BytesOk b) {p n : Int} (hp : 0 ≤ p) (hp' : p ≤ 1000000) (hn : 1 ≤ n) :
    ∃ r, (∀ k, 1 ≤ k → spec_l1Rd_pick.f k b p n = some (r, p + 1)) ∧ 0 ≤ r ∧ r < n := by
  obtain ⟨r, h, h0, h1⟩ := pick_any hb hp hp' hn
  exact ⟨r, fun k hk => by obtain ⟨m, rfl⟩ : ∃ m, k = m + 1 := ⟨k - 1, by omega⟩; exact h m, h0, h1⟩
theorem one_ge {b : List Int} (hb : BytesOk b) {p : Int} (hp : 0 ≤ p) (hp' : p ≤ 1000000) {l : List Int} (hl : 1 ≤ l.length) :
    ∃ r, (∀ k, 1 ≤ k → spec_l1Rd_one.f k b p l = some (r, p + 1)) ∧ r ∈ l := by
  obtain ⟨r, h, h0⟩ := one_any hb hp hp' hl
  exact ⟨r, fun k hk => by obtain ⟨m, rfl⟩ : ∃ m, k = m + 1 := ⟨k - 1, by omega⟩; exact h m, h0⟩
end Go.Proofs.Ytdemeoncjcbojaa.Val
end
section
namespace Go.Proofs.Ytdemeoncjcbojaa.Pure
open Go.RowKit Go.Proofs.Ytdemeoncjcbojaa.Pr Go.Proofs.Ytdemeoncjcbojaa.Ext Go.Proofs.Ytdemeoncjcbojaa.Jt Go.Proofs.Ytdemeoncjcbojaa.Val Go.Proofs.YtdemeoncjcbojaaW.PrintWords Go.Proofs.YtdemeoncjcbojaaW.PrintLast Go.Proofs.YtdemeoncjcbojaaW.PrintMore
set_option linter.unusedVariables false
set_option linter.unusedSimpArgs false
namespace BFnBigOf
theorem i64_wrap (x : Int) : -9223372036854775808 ≤ wrap64 x ∧ wrap64 x ≤ 9223372036854775807 := by unfold wrap64; omega
theorem drawOf_any {l : List Int} (hl : ∀ x ∈ l, (Lit.int .u8 x).wf = true) : ∃ x, (∀ k, 10 ≤ k → spec_DrawBigOf.f k l = some x) ∧ -9223372036854775808 ≤ x ∧ x ≤ 9223372036854775807 := by
  obtain ⟨b, hb, hB⟩ := open_any hl
  obtain ⟨p1, h1, _, _⟩ := pick_ge hB (p := 0) (by omega) (by omega) (n := 256) (by omega)
  obtain ⟨p2, h2, _, _⟩ := pick_ge hB (p := 0 + 1) (by omega) (by omega) (n := 256) (by omega)
  obtain ⟨p3, h3, _, _⟩ := pick_ge hB (p := 0 + 1 + 1) (by omega) (by omega) (n := 256) (by omega)
  obtain ⟨p4, h4, _, _⟩ := pick_ge hB (p := 0 + 1 + 1 + 1) (by omega) (by omega) (n := 256) (by omega)
  obtain ⟨p5, h5, h50, h51⟩ := pick_ge hB (p := 0 + 1 + 1 + 1 + 1) (by omega) (by omega) (n := 1000) (by omega)
  obtain ⟨x, h6, hx⟩ := one_ge hB (p := 0 + 1 + 1 + 1 + 1 + 1) (by omega) (by omega) (l := [0, 1, (-1), 9999, 10000, (-10000), 99999999, 9223372036854775807, (-9223372036854775808), wrap64 ((wrap64 ((wrap64 ((wrap64 (p1 * 16777216)) + (wrap64 (p2 * 65536)))) + (wrap64 (p3 * 256)))) + p4), wrap64 (-(wrap64 ((wrap64 ((wrap64 ((wrap64 (p1 * 16777216)) + (wrap64 (p2 * 65536)))) + (wrap64 (p3 * 256)))) + p4))), wrap64 ((wrap64 ((wrap64 ((wrap64 ((wrap64 (p1 * 16777216)) + (wrap64 (p2 * 65536)))) + (wrap64 (p3 * 256)))) + p4)) * 1000000), p5]) (by simp)
  refine ⟨x, fun k hk => ?_, ?_⟩
  · unfold spec_DrawBigOf.f
    rw [hb]; simp only [Option.bind_some]
    rw [h1 k (by omega)]; simp only [Option.bind_some]
    rw [h2 k (by omega)]; simp only [Option.bind_some]
    rw [h3 k (by omega)]; simp only [Option.bind_some]
    rw [h4 k (by omega)]; simp only [Option.bind_some]
    rw [h5 k (by omega)]; simp only [Option.bind_some]
    rw [h6 k (by omega)]; rfl
  · simp only [List.mem_cons, List.not_mem_nil, or_false] at hx
    rcases hx with h | h | h | h | h | h | h | h | h | h | h | h | h
    all_goals first
      | omega
      | (rw [h]; exact i64_wrap _)
theorem tdiv4 {x : Int} (h0 : -9223372036854775808 ≤ x) (h1 : x ≤ 9223372036854775807) : -2305843009213693952 ≤ Int.tdiv x 4 ∧ Int.tdiv x 4 ≤ 2305843009213693951 := by
  by_cases h : x < 0
  · have := Int.neg_tdiv (a := -x) (b := 4)
    rw [Int.neg_neg] at this
    rw [this, Int.tdiv_eq_ediv_of_nonneg (by omega)]; omega
  · rw [Int.tdiv_eq_ediv_of_nonneg (by omega)]; omega
theorem tmodb (x : Int) : -999999999 ≤ Int.tmod x 1000000000 ∧ Int.tmod x 1000000000 ≤ 999999999 := by
  by_cases h : x < 0
  · have := Int.neg_tmod (a := -x) (b := 1000000000)
    rw [Int.neg_neg] at this
    rw [this, Int.tmod_eq_emod_of_nonneg (by omega)]; omega
  · rw [Int.tmod_eq_emod_of_nonneg (by omega)]; omega
theorem mulb {x y : Int} (hx : -999999999 ≤ x ∧ x ≤ 999999999) (hy : -999999999 ≤ y ∧ y ≤ 999999999) : -1000000000000000000 ≤ x * y ∧ x * y ≤ 1000000000000000000 := by
  have h := Int.natAbs_mul x y
  have h2 : x.natAbs * y.natAbs ≤ 999999999 * 999999999 := Nat.mul_le_mul (by omega) (by omega)
  generalize x * y = z at *
  generalize x.natAbs * y.natAbs = n at *
  omega
theorem in16 {x : Int} (h0 : -9223372036854775808 ≤ x) (h1 : x ≤ 9223372036854775807) : -pw 16 < x ∧ x < pw 16 := by rw [pw16]; omega
theorem addInt {x y : Int} (hx : -2305843009213693952 ≤ x ∧ x ≤ 2305843009213693951) (hy : -2305843009213693952 ≤ y ∧ y ≤ 2305843009213693951) : addR (mkN x) (mkL x) (mkN y) (mkL y) = (mkN (x + y), mkL (x + y), true) := by
  unfold addR
  rw [if_pos ⟨okB_mk (in16 (by omega) (by omega)), okB_mk (in16 (by omega) (by omega))⟩, mk_v, mk_v, bigR_int (by omega) (by omega)]
theorem mulInt {x y : Int} (hx : -999999999 ≤ x ∧ x ≤ 999999999) (hy : -999999999 ≤ y ∧ y ≤ 999999999) : mulR (mkN x) (mkL x) (mkN y) (mkL y) = (mkN (x * y), mkL (x * y), true) := by
  have hb := mulb hx hy
  unfold mulR
  rw [if_pos ⟨okB_mk (in16 (by omega) (by omega)), okB_mk (in16 (by omega) (by omega))⟩, mk_v, mk_v, bigR_int (by omega) (by omega)]
theorem mkL_len {x : Int} (h0 : -9223372036854775808 ≤ x) (h1 : x ≤ 9223372036854775807) : (mkL x).length ≤ 16 := (mk_ok (in16 h0 h1).1 (in16 h0 h1).2).1
theorem of_main {x y : Int} (x0 : -9223372036854775808 ≤ x) (x1 : x ≤ 9223372036854775807) (y0 : -9223372036854775808 ≤ y) (y1 : y ≤ 9223372036854775807) {l m : List Int}
    (hx : ∀ k, 10 ≤ k → spec_DrawBigOf.f k l = some x) (hy : ∀ k, 10 ≤ k → spec_DrawBigOf.f k m = some y) : laws_FnBigOf.j0 (8000 + 1) l m false = some true := by
  have qx := tdiv4 x0 x1
  have qy := tdiv4 y0 y1
  have rx := tmodb (Int.tdiv x 4)
  have ry := tmodb (Int.tdiv y 4)
  have hm := mulb rx ry
  rw [laws_FnBigOf.j0, if_neg (by decide), hx 8000 (by omega)]; simp only [bS]
  rw [hy 8000 (by omega)]; simp only [bS]
  rw [iBigOf_ge x0 x1 8000 (by omega)]; simp only [bS]
  rw [sBigOf_ge x0 x1 8000 (by omega)]; simp only [bS]
  rw [jtBig_ge _ _ _ _ (by have := mkL_len x0 x1; omega) 8000 (by omega)]; simp only [bS]
  rw [if_pos (by simp), bigOk_f]; simp only [bS]
  rw [if_pos (okB_mk (in16 x0 x1)), w64 (x := Int.tdiv x 4) (by omega) (by omega), w64 (x := Int.tdiv y 4) (by omega) (by omega)]
  rw [iBigOf_ge (x := Int.tdiv x 4) (by omega) (by omega) 8000 (by omega)]; simp only [bS]
  rw [iBigOf_ge (x := Int.tdiv y 4) (by omega) (by omega) 8000 (by omega)]; simp only [bS]
  rw [iBigAdd_ge _ _ _ _ 8000 (by omega), addInt qx qy]; simp only [bS]
  rw [iBigOf_ge (x := Int.tmod (Int.tdiv x 4) 1000000000) (by omega) (by omega) 8000 (by omega)]; simp only [bS]
  rw [iBigOf_ge (x := Int.tmod (Int.tdiv y 4) 1000000000) (by omega) (by omega) 8000 (by omega)]; simp only [bS]
  rw [iBigMul_ge _ _ _ _ 8000 (by omega), mulInt rx ry]; simp only [bS]
  rw [if_pos trivial, if_pos trivial, w64 (x := Int.tdiv x 4 + Int.tdiv y 4) (by omega) (by omega), iBigOf_ge (x := Int.tdiv x 4 + Int.tdiv y 4) (by omega) (by omega) 8000 (by omega)]; simp only [bS]
  rw [jtBig_ge _ _ _ _ (by have := mkL_len (x := Int.tdiv x 4 + Int.tdiv y 4) (by omega) (by omega); omega) 8000 (by omega)]; simp only [bS]
  rw [if_pos (by simp), w64 (x := Int.tmod (Int.tdiv x 4) 1000000000 * Int.tmod (Int.tdiv y 4) 1000000000) (by omega) (by omega), iBigOf_ge (x := Int.tmod (Int.tdiv x 4) 1000000000 * Int.tmod (Int.tdiv y 4) 1000000000) (by omega) (by omega) 8000 (by omega)]; simp only [bS]
  rw [jtBig_ge _ _ _ _ (by have := mkL_len (x := Int.tmod (Int.tdiv x 4) 1000000000 * Int.tmod (Int.tdiv y 4) 1000000000) (by omega) (by omega); omega) 8000 (by omega)]
  simp
end BFnBigOf
open BFnBigOf
theorem FnBigOf : laws_FnBigOf.Pure := by
  intro l m _ _ hl _ _ hm
  refine ⟨8001, ?_⟩
  unfold laws_FnBigOf.f
  have yes : laws_FnBigOf.j0 (8000 + 1) l m true = some true := by rw [laws_FnBigOf.j0, if_pos rfl]
  by_cases hlen : (l.length : Int) > 1048576
  · rw [if_pos hlen]; exact yes
  · rw [if_neg hlen]
    by_cases hlen2 : (m.length : Int) > 1048576
    · rw [decide_eq_true hlen2]; exact yes
    · rw [decide_eq_false hlen2]
      obtain ⟨x, hx, x0, x1⟩ := drawOf_any hl
      obtain ⟨y, hy, y0, y1⟩ := drawOf_any hm
      exact of_main x0 x1 y0 y1 hx hy
end Go.Proofs.Ytdemeoncjcbojaa.Pure
end
