/- What the claim's row needs of the contracts and words below it, and no more. -/
import Derived.Test.YtgeloncilhighaaDoorQDq1
import Derived.Lib.ItoaNum
import Derived.Lib.Atoi
import Derived.Lib.AtoiAllMem
import Derived.Lib.IndexLaws
import Derived.Lib.AtoiAllCases
import Derived.Lib.SplitLaws
import Derived.Test.YtgeloncilhighaaDoorRows
import Derived.Stop.LaidErr
import Derived.Lib.LaidTab
import Derived.Shelf.Vars
import Derived.SizedLaws
import Derived.KernelRfl
section
namespace Go.Proofs.YtgeloncilhighaaDoor.Pr
open Go.RowKit Go.Proofs.YtgeloncilhighaaDoorW.PrintWords Go.Proofs.YtgeloncilhighaaDoorW.PrintLast Go.Proofs.YtgeloncilhighaaDoor.Ext Go.Proofs.YtgeloncilhighaaDoorW.PrintMore
attribute [local go_sem] max2_int min2_int max_two min_two max_three min_three max_four min_four
set_option linter.unusedVariables false
set_option linter.unusedSimpArgs false
mutual
def laws_FnDayPut.j0 : Nat → List Int → List Int → Bool → Option (Bool)
  | 0, _, _, _ => none
  | k + 1, x0, x1, x18 => if x18 = true then (some true) else ((spec_DrawDayPut.f k x0).bind fun t495 => ((spec_DrawDayPut.f k x1).bind fun t496 => ((impl_DayPut.f k t495).bind fun t497 => ((impl_DayPut.f k t496).bind fun t498 => ((spec_DayPut.f k t495).bind fun t499 => (if t497.toList = t499.toList then (if t497.toList = ([] : List UInt8) then (laws_FnDayPut.j1 k t495 t496 t497 t498 true) else (laws_FnDayPut.j1 k t495 t496 t497 t498 (t498.toList == ([] : List UInt8)))) else (laws_FnDayPut.j1 k t495 t496 t497 t498 true)))))))
def laws_FnDayPut.j1 : Nat → Int → Int → ByteArray → ByteArray → Bool → Option (Bool)
  | 0, _, _, _, _, _ => none
  | k + 1, x5, x6, x7, x8, x38 => if x38 = true then ((spec_DayPut.f k x5).bind fun t500 => (some (x7.toList == t500.toList))) else ((impl_DayGet.f k x7).bind fun bt501 => (if bt501.2 = true then (if bt501.1 = x5 then (if ((Op.bytesLess x7.toList x8.toList) == (decide (x5 < x6))) = true then (some ((x7.size : Int) == 10)) else (some false)) else (some false)) else (some false)))
end
def laws_FnDayPut.f (k : Nat) (l0 : List Int) (l1 : List Int) : Option (Bool) := if (l0.length : Int) > 1048576 then (laws_FnDayPut.j0 k l0 l1 true) else (laws_FnDayPut.j0 k l0 l1 (decide ((l1.length : Int) > 1048576)))
set_option maxHeartbeats 8000000 in
set_option maxRecDepth 100000 in
theorem laws_FnDayPut.calls (k : Nat) (A0 : Option Addr) (c0 : Nat) (l0 : List Int) (A1 : Option Addr) (c1 : Nat) (l1 : List Int) (r : Bool) (w : World) (hT : EnvA w) (hr0 : Kd.C (Kd.int .u8) w A0 l0.length l0) (hc0 : l0.length ≤ c0) (hr1 : Kd.C (Kd.int .u8) w A1 l1.length l1) (hc1 : l1.length ≤ c1) (h : laws_FnDayPut.f k l0 l1 = some r) :
    Calls Tryd.prog 9 #[.slice A0 l0.length c0, .slice A1 l1.length c1] w fun e w' => e = .returned (.bool r) ∧ Below w.heap.size w w' := by
  have HR0 := Aside0.mk hr0
  have HC0 := Aside0.mk hc0
  clear hr0 hc0
  have HR1 := Aside0.mk hr1
  have HC1 := Aside0.mk hc1
  clear hr1 hc1
  have HB := Aside0.mk (Below.refl w.heap.size w)
  have HT := Aside0.mk hT
  clear hT
  have H : (if (l0.length : Int) > 1048576 then (laws_FnDayPut.j0 k l0 l1 true) else (laws_FnDayPut.j0 k l0 l1 (decide ((l1.length : Int) > 1048576)))) = some r := h
  clear h
  have HC3 := Aside0.mk H
  clear H
  go_enter Tryd.func9, Tryd.ntmps9
  go_upto_region 1 with (fail)
  go_cut [18] (fun v18 wc => ∃ (kq : Nat) (x18_2 : Bool), v18 = .bool x18_2 ∧ Aside0 (laws_FnDayPut.j0 kq l0 l1 x18_2 = some r) ∧ Aside0 (kq ≤ k) ∧ Aside0 (Below w.heap.size w wc))
  case first =>
    have H := HC3.out
    clear HC3
    by_cases c4 : (l0.length : Int) > 1048576
    · rw [if_pos c4] at H
      have c4b0 : decide (1048576 < (l0.length : Int)) = true := decide_eq_true c4
      have c4b1 : decide (1048576 < l0.length) = true := decide_eq_true (by omega)
      clear c4
      (first | rw [c4b0] | (simp only [i64_w, i32_w]; rw [c4b0]) | skip)
      have H' := Aside0.mk H
      clear H
      go_wp2
      go_meet
      case rel => exact ⟨_, (true), (by first | rfl | (simp; done) | (simp [*]; done)), H', ⟨by first | omega | exact Nat.le_refl _⟩, ⟨zb⟩⟩
    · rw [if_neg c4] at H
      have c4b0 : decide (1048576 < (l0.length : Int)) = false := decide_eq_false c4
      have c4b1 : decide (1048576 < l0.length) = false := decide_eq_false (by omega)
      clear c4
      (first | rw [c4b0] | (simp only [i64_w, i32_w]; rw [c4b0]) | skip)
      have H' := Aside0.mk H
      clear H
      go_wp2
      go_meet
      case rel => exact ⟨_, (decide ((l1.length : Int) > 1048576)), (by first | rfl | (simp; done) | (simp [*]; done)), H', ⟨by first | omega | exact Nat.le_refl _⟩, ⟨zb⟩⟩
  case rest =>
    clear HC3
    try clear c1
    try clear p2
    try clear c4
    try clear c4b0
    try clear c4b1
    obtain ⟨kq, x18_2, rfl, HA, HJ2, HB⟩ := hcut
    cases kq with
    | zero => exact absurd HA.out (by simp [laws_FnDayPut.j0])
    | succ kj2 =>
      have H := HA.out
      clear HA
      simp only [laws_FnDayPut.j0] at H
      by_cases c5 : x18_2 = true
      · subst c5
        have H1 : (some true) = some r := by rw [if_pos rfl] at H; exact H
        clear H
        have H := H1
        clear H1
        obtain rfl := Option.some.inj H
        go_wp2
        go_ret
        exact ⟨by first | rfl | (simp [errW_none, errW_some] <;> rfl) | (simp [*, errW_none, errW_some] <;> rfl), zb⟩
      · replace c5 := Bool.eq_false_iff.mpr c5
        subst c5
        have H1 : ((spec_DrawDayPut.f kj2 l0).bind fun t495 => ((spec_DrawDayPut.f kj2 l1).bind fun t496 => ((impl_DayPut.f kj2 t495).bind fun t497 => ((impl_DayPut.f kj2 t496).bind fun t498 => ((spec_DayPut.f kj2 t495).bind fun t499 => (if t497.toList = t499.toList then (if t497.toList = ([] : List UInt8) then (laws_FnDayPut.j1 kj2 t495 t496 t497 t498 true) else (laws_FnDayPut.j1 kj2 t495 t496 t497 t498 (t498.toList == ([] : List UInt8)))) else (laws_FnDayPut.j1 kj2 t495 t496 t497 t498 true))))))) = some r := by rw [if_neg (show ¬ (false = true) by decide)] at H; exact H
        clear H
        have H := H1
        clear H1
        replace H := Option.bind_eq_some_iff.mp H
        obtain ⟨t495, A60, H⟩ := H
        replace H : ((spec_DrawDayPut.f kj2 l1).bind fun t496 => ((impl_DayPut.f kj2 t495).bind fun t497 => ((impl_DayPut.f kj2 t496).bind fun t498 => ((spec_DayPut.f kj2 t495).bind fun t499 => (if t497.toList = t499.toList then (if t497.toList = ([] : List UInt8) then (laws_FnDayPut.j1 kj2 t495 t496 t497 t498 true) else (laws_FnDayPut.j1 kj2 t495 t496 t497 t498 (t498.toList == ([] : List UInt8)))) else (laws_FnDayPut.j1 kj2 t495 t496 t497 t498 true)))))) = some r := H
        have A6 := Aside0.mk A60
        clear A60
        replace H := Option.bind_eq_some_iff.mp H
        obtain ⟨t496, A70, H⟩ := H
        replace H : ((impl_DayPut.f kj2 t495).bind fun t497 => ((impl_DayPut.f kj2 t496).bind fun t498 => ((spec_DayPut.f kj2 t495).bind fun t499 => (if t497.toList = t499.toList then (if t497.toList = ([] : List UInt8) then (laws_FnDayPut.j1 kj2 t495 t496 t497 t498 true) else (laws_FnDayPut.j1 kj2 t495 t496 t497 t498 (t498.toList == ([] : List UInt8)))) else (laws_FnDayPut.j1 kj2 t495 t496 t497 t498 true))))) = some r := H
        have A7 := Aside0.mk A70
        clear A70
        replace H := Option.bind_eq_some_iff.mp H
        obtain ⟨t497, A80, H⟩ := H
        replace H : ((impl_DayPut.f kj2 t496).bind fun t498 => ((spec_DayPut.f kj2 t495).bind fun t499 => (if t497.toList = t499.toList then (if t497.toList = ([] : List UInt8) then (laws_FnDayPut.j1 kj2 t495 t496 t497 t498 true) else (laws_FnDayPut.j1 kj2 t495 t496 t497 t498 (t498.toList == ([] : List UInt8)))) else (laws_FnDayPut.j1 kj2 t495 t496 t497 t498 true)))) = some r := H
        have A8 := Aside0.mk A80
        clear A80
        replace H := Option.bind_eq_some_iff.mp H
        obtain ⟨t498, A90, H⟩ := H
        replace H : ((spec_DayPut.f kj2 t495).bind fun t499 => (if t497.toList = t499.toList then (if t497.toList = ([] : List UInt8) then (laws_FnDayPut.j1 kj2 t495 t496 t497 t498 true) else (laws_FnDayPut.j1 kj2 t495 t496 t497 t498 (t498.toList == ([] : List UInt8)))) else (laws_FnDayPut.j1 kj2 t495 t496 t497 t498 true))) = some r := H
        have A9 := Aside0.mk A90
        clear A90
        have HC10 := Aside0.mk H
        clear H
        go_upto_region 7 with (first | ((with_reducible refine gate_callee (f := 28) rfl ?_); refine goesL_ (some 20) rfl rfl Tryd.func28 (by kernel_rfl) rfl #[.slice A0 l0.length c0] rfl za ?_; (with_reducible refine (spec_DrawDayPut.calls kj2 _ _ l0 t495 _ ?side1 ?side2 A6.out).mono ?_); (case side1 => repeat (first | exact (Kd.C_below HR0.out HB.out) | (with_reducible refine Kd.C_alloc ?_ _) | (with_reducible refine Kd.C_drewN ?_ _) | (with_reducible refine Kd.C_drew ?_))); (case side2 => exact HC0.out); rintro e w11 ⟨rfl, hb⟩; refine ⟨_, rfl, ?_⟩; have n0_ := Aside0.mk (below_step zb hb); clear HB; have HB := n0_; clear n0_; (try clear hb); (try clear hb2); (try clear hk); (try clear hi)) | ((with_reducible refine gate_callee (f := 28) rfl ?_); refine goesL_ (some 22) rfl rfl Tryd.func28 (by kernel_rfl) rfl #[.slice A1 l1.length c1] rfl za ?_; (with_reducible refine (spec_DrawDayPut.calls kj2 _ _ l1 t496 _ ?side1 ?side2 A7.out).mono ?_); (case side1 => repeat (first | exact (Kd.C_below HR1.out HB.out) | (with_reducible refine Kd.C_alloc ?_ _) | (with_reducible refine Kd.C_drewN ?_ _) | (with_reducible refine Kd.C_drew ?_))); (case side2 => exact HC1.out); rintro e w12 ⟨rfl, hb⟩; refine ⟨_, rfl, ?_⟩; have n0_ := Aside0.mk (below_step zb hb); clear HB; have HB := n0_; clear n0_; (try clear hb); (try clear hb2); (try clear hk); (try clear hi)) | ((with_reducible refine gate_callee (f := 18) rfl ?_); refine goesL_ (some 24) rfl rfl Tryd.func18 (by kernel_rfl) rfl #[.int .i64 t495] rfl za ?_; (with_reducible refine (impl_DayPut.calls kj2 t495 t497 _ ?side1 A8.out).mono ?_); (case side1 => exact HT.out.toI.below zb); rintro e w13 ⟨rfl, hb⟩; refine ⟨_, rfl, ?_⟩; have n0_ := Aside0.mk (below_step zb hb); clear HB; have HB := n0_; clear n0_; (try clear hb); (try clear hb2); (try clear hk); (try clear hi)) | ((with_reducible refine gate_callee (f := 18) rfl ?_); refine goesL_ (some 26) rfl rfl Tryd.func18 (by kernel_rfl) rfl #[.int .i64 t496] rfl za ?_; (with_reducible refine (impl_DayPut.calls kj2 t496 t498 _ ?side1 A9.out).mono ?_); (case side1 => exact HT.out.toI.below zb); rintro e w14 ⟨rfl, hb⟩; refine ⟨_, rfl, ?_⟩; have n0_ := Aside0.mk (below_step zb hb); clear HB; have HB := n0_; clear n0_; (try clear hb); (try clear hb2); (try clear hk); (try clear hi)))
        (try simp only [Act.put, List.setIfInBounds_toArray, List.set_cons_zero, List.set_cons_succ])
        go_cut [38] (fun v38 wc => ∃ (kq : Nat) (x38_9 : Bool), v38 = .bool x38_9 ∧ Aside0 (laws_FnDayPut.j1 kq t495 t496 t497 t498 x38_9 = some r) ∧ Aside0 (kq ≤ kj2) ∧ Aside0 (Below w.heap.size w wc))
        case first =>
          have H := HC10.out
          clear HC10
          replace H := Option.bind_eq_some_iff.mp H
          obtain ⟨t499, A150, H⟩ := H
          replace H : (if t497.toList = t499.toList then (if t497.toList = ([] : List UInt8) then (laws_FnDayPut.j1 kj2 t495 t496 t497 t498 true) else (laws_FnDayPut.j1 kj2 t495 t496 t497 t498 (t498.toList == ([] : List UInt8)))) else (laws_FnDayPut.j1 kj2 t495 t496 t497 t498 true)) = some r := H
          have A15 := Aside0.mk A150
          clear A150
          by_cases c16 : t497.toList = t499.toList
          · rw [if_pos c16] at H
            have c16b0 : (t497.toList == t499.toList) = true := beq_iff_eq.mpr c16
            have c16b1 : (t497.toList != t499.toList) = false := bne_eq_false_iff_eq.mpr c16
            clear c16
            (first | rw [c16b0] | (simp only [i64_w, i32_w]; rw [c16b0]) | skip)
            by_cases c17 : t497.toList = ([] : List UInt8)
            · rw [if_pos c17] at H
              have c17b0 : (t497.toList == ([] : List UInt8)) = true := beq_iff_eq.mpr c17
              have c17b1 : (t497.toList != ([] : List UInt8)) = false := bne_eq_false_iff_eq.mpr c17
              clear c17
              have H' := Aside0.mk H
              clear H
              go_wp2_with (first | ((with_reducible refine gate_callee (f := 17) rfl ?_); refine goesL_ (some 29) rfl rfl Tryd.func17 (by kernel_rfl) rfl #[.int .i64 t495] rfl za ?_; (with_reducible refine (spec_DayPut.calls kj2 t495 t499 _ A15.out).mono ?_); rintro e w18 ⟨rfl, hb⟩; refine ⟨_, rfl, ?_⟩; have n0_ := Aside0.mk (below_step zb hb); clear HB; have HB := n0_; clear n0_; (try clear hb); (try clear hb2); (try clear hk); (try clear hi)))
              go_meet
              case rel => exact ⟨_, (true), (by first | rfl | (simp; done) | (simp [*]; done)), H', ⟨by have := HJ2.out; first | omega | exact Nat.le_refl _⟩, ⟨zb⟩⟩
            · rw [if_neg c17] at H
              have c17b0 : (t497.toList == ([] : List UInt8)) = false := beq_eq_false_iff_ne.mpr c17
              have c17b1 : (t497.toList != ([] : List UInt8)) = true := bne_iff_ne.mpr c17
              have H' := Aside0.mk H
              clear H
              go_wp2_with (first | ((with_reducible refine gate_callee (f := 17) rfl ?_); refine goesL_ (some 29) rfl rfl Tryd.func17 (by kernel_rfl) rfl #[.int .i64 t495] rfl za ?_; (with_reducible refine (spec_DayPut.calls kj2 t495 t499 _ A15.out).mono ?_); rintro e w19 ⟨rfl, hb⟩; refine ⟨_, rfl, ?_⟩; have n0_ := Aside0.mk (below_step zb hb); clear HB; have HB := n0_; clear n0_; (try clear hb); (try clear hb2); (try clear hk); (try clear hi)))
              go_meet
              case rel => exact ⟨_, ((t498.toList == ([] : List UInt8))), (by first | rfl | (simp; done) | (simp [*]; done)), H', ⟨by have := HJ2.out; first | omega | exact Nat.le_refl _⟩, ⟨zb⟩⟩
          · rw [if_neg c16] at H
            have c16b0 : (t497.toList == t499.toList) = false := beq_eq_false_iff_ne.mpr c16
            have c16b1 : (t497.toList != t499.toList) = true := bne_iff_ne.mpr c16
            (first | rw [c16b0] | (simp only [i64_w, i32_w]; rw [c16b0]) | skip)
            have H' := Aside0.mk H
            clear H
            go_wp2_with (first | ((with_reducible refine gate_callee (f := 17) rfl ?_); refine goesL_ (some 29) rfl rfl Tryd.func17 (by kernel_rfl) rfl #[.int .i64 t495] rfl za ?_; (with_reducible refine (spec_DayPut.calls kj2 t495 t499 _ A15.out).mono ?_); rintro e w20 ⟨rfl, hb⟩; refine ⟨_, rfl, ?_⟩; have n0_ := Aside0.mk (below_step zb hb); clear HB; have HB := n0_; clear n0_; (try clear hb); (try clear hb2); (try clear hk); (try clear hi)))
            go_meet
            case rel => exact ⟨_, (true), (by first | rfl | (simp; done) | (simp [*]; done)), H', ⟨by have := HJ2.out; first | omega | exact Nat.le_refl _⟩, ⟨zb⟩⟩
        case rest =>
          clear HC10
          try clear c1
          try clear c2
          try clear p2
          try clear c4
          try clear c4b0
          try clear c4b1
          try clear c5
          try clear c9
          try clear c16
          try clear c16b0
          try clear c16b1
          try clear c17
          try clear c17b0
          try clear c17b1
          try clear c18
          try clear p2
          obtain ⟨kq, x38_9, rfl, HA, HJ9, HB⟩ := hcut
          cases kq with
          | zero => exact absurd HA.out (by simp [laws_FnDayPut.j1])
          | succ kj9 =>
            have H := HA.out
            clear HA
            simp only [laws_FnDayPut.j1] at H
            by_cases c21 : x38_9 = true
            · subst c21
              have H1 : ((spec_DayPut.f kj9 t495).bind fun t500 => (some (t497.toList == t500.toList))) = some r := by rw [if_pos rfl] at H; exact H
              clear H
              have H := H1
              clear H1
              replace H := Option.bind_eq_some_iff.mp H
              obtain ⟨t500, A220, H⟩ := H
              replace H : (some (t497.toList == t500.toList)) = some r := H
              have A22 := Aside0.mk A220
              clear A220
              obtain rfl := Option.some.inj H
              go_wp2_with (first | ((with_reducible refine gate_callee (f := 17) rfl ?_); refine goesL_ (some 41) rfl rfl Tryd.func17 (by kernel_rfl) rfl #[.int .i64 t495] rfl za ?_; (with_reducible refine (spec_DayPut.calls kj9 t495 t500 _ A22.out).mono ?_); rintro e w23 ⟨rfl, hb⟩; refine ⟨_, rfl, ?_⟩; have n0_ := Aside0.mk (below_step zb hb); clear HB; have HB := n0_; clear n0_; (try clear hb); (try clear hb2); (try clear hk); (try clear hi)))
              go_ret
              exact ⟨by first | rfl | (simp [errW_none, errW_some] <;> rfl) | (simp [*, errW_none, errW_some] <;> rfl), zb⟩
            · replace c21 := Bool.eq_false_iff.mpr c21
              subst c21
              have H1 : ((impl_DayGet.f kj9 t497).bind fun bt501 => (if bt501.2 = true then (if bt501.1 = t495 then (if ((Op.bytesLess t497.toList t498.toList) == (decide (t495 < t496))) = true then (some ((t497.size : Int) == 10)) else (some false)) else (some false)) else (some false))) = some r := by rw [if_neg (show ¬ (false = true) by decide)] at H; exact H
              clear H
              have H := H1
              clear H1
              replace H := Option.bind_eq_some_iff.mp H
              obtain ⟨⟨t501, t502⟩, A240, H⟩ := H
              replace H : (if t502 = true then (if t501 = t495 then (if ((Op.bytesLess t497.toList t498.toList) == (decide (t495 < t496))) = true then (some ((t497.size : Int) == 10)) else (some false)) else (some false)) else (some false)) = some r := H
              have A24 := Aside0.mk A240
              clear A240
              by_cases c25 : t502 = true
              · subst c25
                have H1 : (if t501 = t495 then (if ((Op.bytesLess t497.toList t498.toList) == (decide (t495 < t496))) = true then (some ((t497.size : Int) == 10)) else (some false)) else (some false)) = some r := by rw [if_pos rfl] at H; exact H
                clear H
                have H := H1
                clear H1
                by_cases c26 : t501 = t495
                · rw [if_pos c26] at H
                  have c26b0 : (t501 == t495) = true := beq_iff_eq.mpr c26
                  have c26b1 : (t501 != t495) = false := bne_eq_false_iff_eq.mpr c26
                  clear c26
                  by_cases c27 : ((Op.bytesLess t497.toList t498.toList) == (decide (t495 < t496))) = true
                  · rw [if_pos c27] at H
                    have c27b0 : ((Op.bytesLess t497.toList t498.toList) == (decide (t495 < t496))) = true := c27
                    (try (have c27b1 : decide ((Op.bytesLess t497.toList t498.toList) = (decide (t495 < t496))) = true := by simpa using c27))
                    (try (have c27b2 : ((Op.bytesLess t497.toList t498.toList) == (decide (t495 < t496))) = true := by simpa using c27))
                    clear c27
                    obtain rfl := Option.some.inj H
                    go_wp2_with (first | ((with_reducible refine gate_callee (f := 27) rfl ?_); refine goesL_ (some 45) rfl rfl Tryd.func27 (by kernel_rfl) rfl #[.string t497] rfl za ?_; (with_reducible refine (impl_DayGet.calls kj9 t497 t501 true _ ?side1 A24.out).mono ?_); (case side1 => exact HT.out.below zb); rintro e w28 ⟨rfl, hb⟩; refine ⟨_, rfl, ?_⟩; have n0_ := Aside0.mk (below_step zb hb); clear HB; have HB := n0_; clear n0_; (try clear hb); (try clear hb2); (try clear hk); (try clear hi)))
                    go_ret
                    exact ⟨by first | rfl | (simp [errW_none, errW_some] <;> rfl) | (simp [*, errW_none, errW_some] <;> rfl), zb⟩
                  · rw [if_neg c27] at H
                    have c27b0 : ((Op.bytesLess t497.toList t498.toList) == (decide (t495 < t496))) = false := by simpa using c27
                    (try (have c27b1 : decide ((Op.bytesLess t497.toList t498.toList) = (decide (t495 < t496))) = false := by simpa using c27))
                    (try (have c27b2 : ((Op.bytesLess t497.toList t498.toList) == (decide (t495 < t496))) = false := by simpa using c27))
                    (try (have c27b3 : ¬ ((Op.bytesLess t497.toList t498.toList) = (decide (t495 < t496))) := by simpa using c27))
                    clear c27
                    obtain rfl := Option.some.inj H
                    go_wp2_with (first | ((with_reducible refine gate_callee (f := 27) rfl ?_); refine goesL_ (some 45) rfl rfl Tryd.func27 (by kernel_rfl) rfl #[.string t497] rfl za ?_; (with_reducible refine (impl_DayGet.calls kj9 t497 t501 true _ ?side1 A24.out).mono ?_); (case side1 => exact HT.out.below zb); rintro e w29 ⟨rfl, hb⟩; refine ⟨_, rfl, ?_⟩; have n0_ := Aside0.mk (below_step zb hb); clear HB; have HB := n0_; clear n0_; (try clear hb); (try clear hb2); (try clear hk); (try clear hi)))
                    go_ret
                    exact ⟨by first | rfl | (simp [errW_none, errW_some] <;> rfl) | (simp [*, errW_none, errW_some] <;> rfl), zb⟩
                · rw [if_neg c26] at H
                  have c26b0 : (t501 == t495) = false := beq_eq_false_iff_ne.mpr c26
                  have c26b1 : (t501 != t495) = true := bne_iff_ne.mpr c26
                  obtain rfl := Option.some.inj H
                  go_wp2_with (first | ((with_reducible refine gate_callee (f := 27) rfl ?_); refine goesL_ (some 45) rfl rfl Tryd.func27 (by kernel_rfl) rfl #[.string t497] rfl za ?_; (with_reducible refine (impl_DayGet.calls kj9 t497 t501 true _ ?side1 A24.out).mono ?_); (case side1 => exact HT.out.below zb); rintro e w30 ⟨rfl, hb⟩; refine ⟨_, rfl, ?_⟩; have n0_ := Aside0.mk (below_step zb hb); clear HB; have HB := n0_; clear n0_; (try clear hb); (try clear hb2); (try clear hk); (try clear hi)))
                  go_ret
                  exact ⟨by first | rfl | (simp [errW_none, errW_some] <;> rfl) | (simp [*, errW_none, errW_some] <;> rfl), zb⟩
              · replace c25 := Bool.eq_false_iff.mpr c25
                subst c25
                have H1 : (some false) = some r := by rw [if_neg (show ¬ (false = true) by decide)] at H; exact H
                clear H
                have H := H1
                clear H1
                obtain rfl := Option.some.inj H
                go_wp2_with (first | ((with_reducible refine gate_callee (f := 27) rfl ?_); refine goesL_ (some 45) rfl rfl Tryd.func27 (by kernel_rfl) rfl #[.string t497] rfl za ?_; (with_reducible refine (impl_DayGet.calls kj9 t497 t501 false _ ?side1 A24.out).mono ?_); (case side1 => exact HT.out.below zb); rintro e w31 ⟨rfl, hb⟩; refine ⟨_, rfl, ?_⟩; have n0_ := Aside0.mk (below_step zb hb); clear HB; have HB := n0_; clear n0_; (try clear hb); (try clear hb2); (try clear hk); (try clear hi)))
                go_ret
                exact ⟨by first | rfl | (simp [errW_none, errW_some] <;> rfl) | (simp [*, errW_none, errW_some] <;> rfl), zb⟩
def laws_FnDayPut.Pure : Prop := ∀ (l0 : List Int) (l1 : List Int), l0.length ≤ maxLen → l0.length * 1 ≤ 140737488351232 → (∀ x ∈ l0, (Lit.int .u8 x).wf = true) → l1.length ≤ maxLen → l1.length * 1 ≤ 140737488351232 → (∀ x ∈ l1, (Lit.int .u8 x).wf = true) → ∃ k, laws_FnDayPut.f k l0 l1 = some true
theorem laws_FnDayPut.walk (P : laws_FnDayPut.Pure) (a0 : Option Addr) (len0 cap0 : Nat) (z0 : List Int) (a1 : Option Addr) (len1 cap1 : Nat) (z1 : List Int) (w : World) (hT : EnvA w) (w0 : (a0 = none ∧ len0 = 0 ∧ cap0 = 0 ∧ z0 = []) ∨ ∃ x, a0 = some x ∧ len0 ≤ cap0 ∧ cap0 ≤ maxLen ∧ z0.length = cap0 ∧ (∀ i, i < z0.length → w.cell? (x.add i) = some (.int .u8 (z0.getD i 0))) ∧ ∀ n ∈ z0, (Lit.int .u8 n).wf = true) (y0 : len0 * 1 ≤ 140737488351232) (w1 : (a1 = none ∧ len1 = 0 ∧ cap1 = 0 ∧ z1 = []) ∨ ∃ x, a1 = some x ∧ len1 ≤ cap1 ∧ cap1 ≤ maxLen ∧ z1.length = cap1 ∧ (∀ i, i < z1.length → w.cell? (x.add i) = some (.int .u8 (z1.getD i 0))) ∧ ∀ n ∈ z1, (Lit.int .u8 n).wf = true) (y1 : len1 * 1 ≤ 140737488351232) :
    Calls Tryd.prog 9 #[.slice a0 len0 cap0, .slice a1 len1 cap1] w fun e w' => e = .returned (.bool true) ∧ Below w.heap.size w w' := by
  obtain ⟨l0, rfl, hr0, hm0, hw0, hc0⟩ := ReadsInt.ofRowC w0
  obtain ⟨l1, rfl, hr1, hm1, hw1, hc1⟩ := ReadsInt.ofRowC w1
  obtain ⟨k, h⟩ := P l0 l1 hm0 y0 hw0 hm1 y1 hw1
  refine (laws_FnDayPut.calls k _ _ l0 _ _ l1 true w hT (Kd.C_of_reads (d := (0 : Int)) (h1 := fun _ => rfl) hr0) hc0 (Kd.C_of_reads (d := (0 : Int)) (h1 := fun _ => rfl) hr1) hc1 h).mono ?_
  rintro e w' ⟨rfl, hd⟩
  exact ⟨rfl, hd⟩
end Go.Proofs.YtgeloncilhighaaDoor.Pr
end
section
namespace Go.Proofs.YtgeloncilhighaaDoor.Dec
open Go.Lib
set_option linter.unusedVariables false
set_option linter.unusedSimpArgs false
def IsD (b : UInt8) : Prop := 48 ≤ b.toNat ∧ b.toNat ≤ 57
instance (b : UInt8) : Decidable (IsD b) := inferInstanceAs (Decidable (_ ∧ _))
def Digs (l : List UInt8) : Prop := ∀ b ∈ l, IsD b
instance (l : List UInt8) : Decidable (Digs l) := inferInstanceAs (Decidable (∀ b ∈ l, IsD b))
def dvalA (a : Nat) (l : List UInt8) : Nat := l.foldl (fun a b => a * 10 + (b.toNat - 48)) a
def dval (l : List UInt8) : Nat := dvalA 0 l
theorem Digs.append {a b : List UInt8} (ha : Digs a) (hb : Digs b) : Digs (a ++ b) := fun x hx => (List.mem_append.1 hx).elim (ha x) (hb x)
theorem Digs.tail {x : UInt8} {a : List UInt8} (h : Digs (x :: a)) : Digs a := fun y hy => h y (by simp [hy])
theorem Digs.head {x : UInt8} {a : List UInt8} (h : Digs (x :: a)) : IsD x := h x (by simp)
theorem dvalA_nil (a : Nat) : dvalA a [] = a := List.foldl_nil
theorem dvalA_cons (a : Nat) (b : UInt8) (r : List UInt8) : dvalA a (b :: r) = dvalA (a * 10 + (b.toNat - 48)) r := List.foldl_cons ..
theorem dvalA_eq0 (l : List UInt8) : ∀ a, dvalA a l = a * 10 ^ l.length + dvalA 0 l := by
  induction l with
  | nil => intro a; rw [dvalA_nil, dvalA_nil, List.length_nil, Nat.pow_zero, Nat.mul_one, Nat.add_zero]
  | cons b r ih =>
    intro a
    rw [dvalA_cons, dvalA_cons, ih, ih (0 * 10 + (b.toNat - 48)), List.length_cons, Nat.pow_succ]
    generalize 10 ^ r.length = P
    generalize b.toNat - 48 = d
    rw [Nat.zero_mul, Nat.zero_add, Nat.add_mul, Nat.mul_assoc, Nat.mul_comm 10 P, Nat.add_assoc]
theorem dvalA_eq (l : List UInt8) (a : Nat) : dvalA a l = a * 10 ^ l.length + dval l := dvalA_eq0 l a
theorem dvalA_append (x b : List UInt8) (n : Nat) : dvalA n (x ++ b) = dvalA (dvalA n x) b := List.foldl_append ..
theorem dval_append (a b : List UInt8) : dval (a ++ b) = dval a * 10 ^ b.length + dval b := by
  unfold dval
  rw [dvalA_append, dvalA_eq b]
  rfl
theorem dval_nil : dval [] = 0 := dvalA_nil 0
theorem dval_one (b : UInt8) : dval [b] = b.toNat - 48 := by unfold dval; rw [dvalA_cons, dvalA_nil, Nat.zero_mul, Nat.zero_add]
theorem dval_cons (b : UInt8) (l : List UInt8) : dval (b :: l) = (b.toNat - 48) * 10 ^ l.length + dval l := by
  unfold dval
  rw [dvalA_cons, dvalA_eq0, Nat.zero_mul, Nat.zero_add]
theorem dval_snoc (l : List UInt8) (b : UInt8) : dval (l ++ [b]) = dval l * 10 + (b.toNat - 48) := by rw [dval_append, dval_one]; simp
theorem dval_lt {l : List UInt8} (h : Digs l) : dval l < 10 ^ l.length := by
  induction l with
  | nil => simp [dval_nil]
  | cons b r ih =>
    have h1 := ih h.tail
    have h2 := h.head
    unfold IsD at h2
    rw [dval_cons, List.length_cons, Nat.pow_succ]
    have h3 : (b.toNat - 48) * 10 ^ r.length ≤ 9 * 10 ^ r.length := Nat.mul_le_mul_right _ (by omega)
    omega
def zerosL (n : Nat) : List UInt8 := List.replicate n 48
theorem zerosL_digs (n : Nat) : Digs (zerosL n) := fun b hb => by
  rw [List.eq_of_mem_replicate hb]; decide
theorem zerosL_dval (n : Nat) : dval (zerosL n) = 0 := by
  induction n with
  | zero => rfl
  | succ n ih => unfold zerosL at *; rw [List.replicate_succ, dval_cons, ih]; simp
theorem zerosL_len (n : Nat) : (zerosL n).length = n := List.length_replicate
theorem ofNat_toNat {d : Nat} (h : d < 10) : (UInt8.ofNat (48 + d)).toNat = 48 + d := by
  rw [UInt8.toNat_ofNat']
  exact Nat.mod_eq_of_lt (by omega)
theorem decDigits_digs (n : Nat) : Digs (decDigits n) := by
  induction n using Nat.strongRecOn with
  | ind n ih =>
    rw [decDigits]
    split
    · intro b hb
      rw [List.mem_singleton.1 hb]
      unfold IsD
      rw [ofNat_toNat (by omega)]
      omega
    · refine (ih (n / 10) (by omega)).append ?_
      intro b hb
      rw [List.mem_singleton.1 hb]
      unfold IsD
      rw [ofNat_toNat (by omega)]
      omega
theorem decDigits_dval (n : Nat) : dval (decDigits n) = n := by
  induction n using Nat.strongRecOn with
  | ind n ih =>
    rw [decDigits]
    split
    · rw [dval_one, ofNat_toNat (by omega)]; omega
    · rw [dval_snoc, ih (n / 10) (by omega), ofNat_toNat (by omega)]; omega
def Canon (l : List UInt8) : Prop := l.length = 1 ∨ (1 < l.length ∧ l.head? ≠ some 48)
instance (l : List UInt8) : Decidable (Canon l) := inferInstanceAs (Decidable (_ ∨ _))
theorem decDigits_len_pos (n : Nat) : 0 < (decDigits n).length := by rw [decDigits]; split <;> simp
theorem decDigits_head (n : Nat) (h : n ≠ 0) : (decDigits n).head? ≠ some 48 := by
  induction n using Nat.strongRecOn with
  | ind n ih =>
    rw [decDigits]
    split
    · intro e
      rw [List.head?_cons, Option.some.injEq] at e
      have := congrArg UInt8.toNat e
      rw [ofNat_toNat (by omega)] at this
      have h48 : (48 : UInt8).toNat = 48 := rfl
      omega
    · have h1 := ih (n / 10) (by omega) (by omega)
      have h2 := decDigits_len_pos (n / 10)
      cases hd : decDigits (n / 10) with
      | nil => rw [hd] at h2; simp at h2
      | cons x xs => rw [hd] at h1; simpa using h1
theorem dval_ge {l : List UInt8} (h : Digs l) (h1 : l.head? ≠ some 48) (h0 : l ≠ []) : 10 ^ (l.length - 1) ≤ dval l := by
  cases l with
  | nil => exact absurd rfl h0
  | cons x xs =>
    have hx := h.head
    have : x.toNat ≠ 48 := fun e => h1 (by rw [List.head?_cons, UInt8.toNat_inj.1 (show x.toNat = (48 : UInt8).toNat from e)])
    unfold IsD at hx
    rw [dval_cons]
    have := Nat.mul_le_mul_right (10 ^ xs.length) (show 1 ≤ x.toNat - 48 by omega)
    simp only [List.length_cons, Nat.add_sub_cancel]
    omega
theorem decDigits_len_le {n k : Nat} (hk : 0 < k) (h : n < 10 ^ k) : (decDigits n).length ≤ k := by
  apply Nat.le_of_not_lt
  intro hlt
  have hn : n ≠ 0 := by
    intro e
    subst e
    have : (decDigits 0).length = 1 := by rw [decDigits, dif_pos (by decide)]; rfl
    omega
  have g := dval_ge (decDigits_digs n) (decDigits_head n hn) (by intro e; have := decDigits_len_pos n; rw [e] at this; simp at this)
  rw [decDigits_dval] at g
  have := Nat.pow_le_pow_right (show 0 < 10 by decide) (show k ≤ (decDigits n).length - 1 by omega)
  omega
def padL (n : Nat) (w : Nat) : List UInt8 := zerosL (w - (decDigits n).length) ++ decDigits n
theorem padL_digs (n w : Nat) : Digs (padL n w) := (zerosL_digs _).append (decDigits_digs n)
theorem padL_dval (n w : Nat) : dval (padL n w) = n := by unfold padL; rw [dval_append, zerosL_dval, decDigits_dval]; omega
theorem padL_len {n w : Nat} (hw : 0 < w) (h : n < 10 ^ w) : (padL n w).length = w := by
  have := decDigits_len_le hw h
  unfold padL
  rw [List.length_append, zerosL_len]; omega
end Go.Proofs.YtgeloncilhighaaDoor.Dec
end
section
namespace Go.Proofs.YtgeloncilhighaaDoor.Str
open Go.Lib Go.RowKit Go.Proofs.YtgeloncilhighaaDoor.Dec Go.Proofs.YtgeloncilhighaaDoor.Pr Go.Proofs.YtgeloncilhighaaDoor.Ext Go.Proofs.YtgeloncilhighaaDoorW.PrintWords Go.Proofs.YtgeloncilhighaaDoorW.PrintLast Go.Proofs.YtgeloncilhighaaDoorW.PrintMore
set_option linter.unusedVariables false
set_option linter.unusedSimpArgs false
def str (l : List UInt8) : ByteArray := ⟨l.toArray⟩
theorem str_size (l : List UInt8) : (str l).size = l.length := by unfold str; simp [ByteArray.size]
theorem str_data (l : List UInt8) : (str l).data.toList = l := by unfold str; simp
theorem str_toList (l : List UInt8) : (str l).toList = l := by rw [ByteArray.toList_eq, str_data]
theorem str_append (a b : List UInt8) : str a ++ str b = str (a ++ b) := by
  apply ByteArray.ext
  simp [str]
theorem str_inj {a b : List UInt8} : str a = str b ↔ a = b := by
  constructor
  · intro h; rw [← str_data a, h, str_data]
  · rintro rfl; rfl
theorem str_extract (l : List UInt8) (a b : Nat) : (str l).extract a b = str ((l.drop a).take (b - a)) := by
  rw [extract_eq, str_data]; rfl
theorem bS {α β : Type} (a : α) (f : α → Option β) : (some a).bind f = f a := by have h := Option.bind_some a f; rw [h]
theorem w64 {x : Int} (h : -9223372036854775808 ≤ x) (h' : x ≤ 9223372036854775807) : wrap64 x = x := by unfold wrap64; omega
theorem itoa_f {n : Int} (h0 : -9223372036854775808 ≤ n) (h1 : n ≤ 9223372036854775807) : lib_Itoa.f n = some (str (itoa n)) := by
  unfold lib_Itoa.f
  rw [if_pos ⟨h0, h1⟩]; rfl
theorem strOf_one {d : Int} (h0 : 0 ≤ d) (h1 : d < 10) : strOfNums [(wrap64 (48 + d)) % 256] = str [UInt8.ofNat (48 + d.toNat)] := by
  rw [w64 (by omega) (by omega), show (48 + d) % 256 = 48 + d from by omega]
  have e : (48 + d).toNat = 48 + d.toNat := by omega
  unfold strOfNums str
  simp [e]
theorem itoa_nonneg {n : Int} (h : 0 ≤ n) : itoa n = decDigits n.toNat := by unfold itoa; rw [if_neg (by omega)]
theorem itoa_neg {n : Int} (h : n < 0) : itoa n = 45 :: decDigits n.natAbs := by unfold itoa; rw [if_pos h]
theorem decDigits_le (n : Nat) : (decDigits n).length ≤ n + 1 := by
  induction n using Nat.strongRecOn with
  | ind n ih =>
    rw [decDigits]
    split
    · simp
    · have := ih (n / 10) (by omega)
      rw [List.length_append, List.length_singleton]; omega
theorem l1Dec_nonneg (m : Nat) : ∀ (k : Nat) (n : Int), 0 ≤ n → n ≤ 9223372036854775807 → n < 10 ^ m → m < k → spec_l1Dec.f k n = some (str (decDigits n.toNat)) := by
  induction m with
  | zero =>
    intro k n h0 _ hm hk
    obtain ⟨k, rfl⟩ : ∃ j, k = j + 1 := ⟨k - 1, by omega⟩
    have hn : n = 0 := by simp at hm; omega
    subst hn
    rw [spec_l1Dec.f, if_neg (by omega), if_neg (by omega), if_pos (by omega), strOf_one (by omega) (by omega), decDigits, dif_pos (by decide)]
  | succ m ih =>
    intro k n h0 h1 hm hk
    obtain ⟨k, rfl⟩ : ∃ j, k = j + 1 := ⟨k - 1, by omega⟩
    rw [spec_l1Dec.f, if_neg (by omega), if_neg (by omega)]
    by_cases h : n < 10
    · rw [if_pos h, strOf_one h0 h, decDigits, dif_pos (by omega)]
    · have hp : (10 : Int) ^ (m + 1) = 10 ^ m * 10 := Int.pow_succ ..
      rw [if_neg h, Int.tdiv_eq_ediv_of_nonneg h0, w64 (by omega) (by omega), ih k (n / 10) (by omega) (by omega) (by rw [hp] at hm; omega) (by omega), Int.tmod_eq_emod_of_nonneg h0]
      simp only [bS]
      have hd := decDigits_le (n / 10).toNat
      have hd2 : (decDigits (n / 10).toNat).length ≤ 19 := decDigits_len_le (by decide) (by omega)
      rw [strOf_one (by omega) (by omega), str_size, str_size, if_pos (by simp; omega), str_append]
      congr 2
      rw [show n.toNat = n.toNat from rfl, decDigits.eq_def n.toNat, dif_neg (by omega)]
      rw [show (n / 10).toNat = n.toNat / 10 from by omega, show (n % 10).toNat = n.toNat % 10 from by omega]
theorem p19 : (10 : Int) ^ 19 = 10000000000000000000 := by decide
theorem l1Dec_eq {n : Int} (h0 : -9223372036854775808 ≤ n) (h1 : n ≤ 9223372036854775807) (k : Nat) (hk : 25 ≤ k) : spec_l1Dec.f k n = some (str (itoa n)) := by
  by_cases h : 0 ≤ n
  · rw [l1Dec_nonneg 19 k n h h1 (by rw [p19]; omega) (by omega), itoa_nonneg h]
  · obtain ⟨k, rfl⟩ : ∃ j, k = j + 1 := ⟨k - 1, by omega⟩
    rw [spec_l1Dec.f]
    by_cases hm : n < -9223372036854775807
    · have : n = -9223372036854775808 := by omega
      subst this
      rw [if_pos hm]
      have e : itoa (-9223372036854775808) = [45, 57, 50, 50, 51, 51, 55, 50, 48, 51, 54, 56, 53, 52, 55, 55, 53, 56, 48, 56] := by decide +kernel
      rw [e]; rfl
    · have hd2 : (decDigits (-n).toNat).length ≤ 19 := decDigits_len_le (by decide) (by omega)
      rw [if_neg hm, if_pos (by omega), w64 (by omega) (by omega), l1Dec_nonneg 19 k (-n) (by omega) (by omega) (by rw [p19]; omega) (by omega)]
      simp only [bS]
      rw [str_size, if_pos (by omega), itoa_neg (by omega), show n.natAbs = (-n).toNat from by omega]
      exact congrArg some (str_append [45] _)
theorem itoa_len {n : Int} (h0 : -9223372036854775808 ≤ n) (h1 : n ≤ 9223372036854775807) : (itoa n).length ≤ 20 := by
  by_cases h : 0 ≤ n
  · rw [itoa_nonneg h]
    have : (decDigits n.toNat).length ≤ 19 := decDigits_len_le (by decide) (by omega)
    omega
  · rw [itoa_neg (by omega)]
    have : (decDigits n.natAbs).length ≤ 19 := decDigits_len_le (by decide) (by omega)
    rw [List.length_cons]; omega
end Go.Proofs.YtgeloncilhighaaDoor.Str
end
section
namespace Go.Proofs.YtgeloncilhighaaDoor.Drw
open Go.RowKit Go.Lib Go.Proofs.YtgeloncilhighaaDoor.Pr Go.Proofs.YtgeloncilhighaaDoor.Ext Go.Proofs.YtgeloncilhighaaDoor.Str Go.Proofs.YtgeloncilhighaaDoorW.PrintWords Go.Proofs.YtgeloncilhighaaDoorW.PrintLast Go.Proofs.YtgeloncilhighaaDoorW.PrintMore
set_option linter.unusedVariables false
set_option linter.unusedSimpArgs false
theorem wf8 {a : Int} (h : (Lit.int .u8 a).wf = true) : 0 ≤ a ∧ a ≤ 255 := by
  simp [Lit.wf, IntKind.min, IntKind.max, IntKind.signed, IntKind.bits] at h; omega
theorem rd_mem {l : List Int} {i : Int} (h0 : 0 ≤ i) (h : i < (l.length : Int)) : rd l i ∈ l := by
  have hi : i.toNat < l.length := by omega
  unfold rd
  rw [List.getD_eq_getElem?_getD, List.getElem?_eq_getElem hi]
  exact List.getElem_mem hi
theorem xor_nonneg {x y : Int} (hx : 0 ≤ x) (hx' : x < 4611686018427387904) (hy : 0 ≤ y) (hy' : y < 4611686018427387904) : 0 ≤ Go.bits .xor .i64 x y := by
  obtain ⟨a, rfl⟩ := Int.eq_ofNat_of_zero_le hx
  obtain ⟨b, rfl⟩ := Int.eq_ofNat_of_zero_le hy
  have ha : a < 2 ^ 62 := by omega
  have hb : b < 2 ^ 62 := by omega
  have hlt := Nat.xor_lt_two_pow ha hb
  have ha' : a % 2 ^ IntKind.i64.bits = a := Nat.mod_eq_of_lt (by show a < 2 ^ 64; omega)
  have hb' : b % 2 ^ IntKind.i64.bits = b := Nat.mod_eq_of_lt (by show b < 2 ^ 64; omega)
  have e : Go.bits .xor .i64 (a : Int) (b : Int) = ((a ^^^ b : Nat) : Int) := by
    simp only [Go.bits, BitVec.ofInt_natCast, BitVec.toNat_xor, BitVec.toNat_ofNat, ha', hb']
    rw [IntKind.wrap_i64]
    omega
  rw [e]
  omega
def BytesOk (b : List Int) : Prop := b.length ≤ 2000 ∧ ∀ x ∈ b, 0 ≤ x ∧ x ≤ 255
theorem pick_any {b : List Int} (hb : BytesOk b) {p n : Int} (hp : 0 ≤ p) (hp' : p ≤ 1000000) (hn : 1 ≤ n) :
    ∃ r, (∀ k, spec_l1Rd_pick.f (k + 1) b p n = some (r, p + 1)) ∧ 0 ≤ r ∧ r < n := by
  have e1 : wrap64 (p + 1) = p + 1 := w64 (by omega) (by omega)
  have e2 : wrap64 (p + 1 - 1) = p := by rw [w64 (by omega) (by omega)]; omega
  have hl := hb.1
  by_cases h0 : b.length = 0
  · refine ⟨0, fun k => ?_, by omega, by omega⟩
    have hz : ((b.length : Int) == 0) = true := by rw [h0]; rfl
    unfold spec_l1Rd_pick.f
    rw [if_neg (by omega), e1, hz]
    simp only [spec_l1Rd_pick.j0, if_true]
  · have hz : ((b.length : Int) == 0) = false := by rw [beq_eq_false_iff_ne]; omega
    by_cases hk : p < (b.length : Int)
    · have hm := hb.2 _ (rd_mem hp hk)
      refine ⟨Int.tmod (rd b p) n, fun k => ?_, Int.tmod_nonneg _ hm.1, Int.tmod_lt_of_pos _ (by omega)⟩
      unfold spec_l1Rd_pick.f
      rw [if_neg (by omega), e1, hz]
      simp only [spec_l1Rd_pick.j0]
      rw [if_neg (by decide), e2, if_pos hk, if_pos hp, if_neg (by omega), w64 (by omega) (by omega)]
    · have hL : (0 : Int) < (b.length : Int) := by omega
      have e7 : wrap64 (wrap64 (p * 7) + 3) = p * 7 + 3 := by
        rw [w64 (x := p * 7) (by omega) (by omega), w64 (by omega) (by omega)]
      have i1 := Int.tmod_nonneg (b.length : Int) hp
      have j1 := Int.tmod_lt_of_pos p hL
      have i2 := Int.tmod_nonneg (b.length : Int) (show 0 ≤ p * 7 + 3 by omega)
      have j2 := Int.tmod_lt_of_pos (p * 7 + 3) hL
      have hA := hb.2 _ (rd_mem i1 j1)
      have hB := hb.2 _ (rd_mem i2 j2)
      have hq0 : 0 ≤ Int.tdiv p (b.length : Int) := Int.tdiv_nonneg hp (by omega)
      have hq1 : Int.tdiv p (b.length : Int) ≤ p := by
        rw [Int.tdiv_eq_ediv_of_nonneg hp]; exact Int.ediv_le_self _ hp
      generalize hAe : rd b (Int.tmod p (b.length : Int)) = A at hA
      generalize hBe : rd b (Int.tmod (p * 7 + 3) (b.length : Int)) = B at hB
      generalize hQe : Int.tdiv p (b.length : Int) = Q at hq0 hq1
      have hX : 0 ≤ wrap64 (wrap64 (wrap64 (wrap64 (wrap64 A * 131) + wrap64 (wrap64 B * 1117)) + wrap64 (p * 29)) + wrap64 (wrap64 Q * 53)) ∧
          wrap64 (wrap64 (wrap64 (wrap64 (wrap64 A * 131) + wrap64 (wrap64 B * 1117)) + wrap64 (p * 29)) + wrap64 (wrap64 Q * 53)) < 1000000000 := by
        rw [w64 (x := A) (by omega) (by omega), w64 (x := B) (by omega) (by omega), w64 (x := Q) (by omega) (by omega), w64 (x := A * 131) (by omega) (by omega), w64 (x := B * 1117) (by omega) (by omega),
          w64 (x := p * 29) (by omega) (by omega), w64 (x := Q * 53) (by omega) (by omega), w64 (x := A * 131 + B * 1117) (by omega) (by omega), w64 (x := A * 131 + B * 1117 + p * 29) (by omega) (by omega),
          w64 (by omega) (by omega)]
        omega
      generalize hXe : wrap64 (wrap64 (wrap64 (wrap64 (wrap64 A * 131) + wrap64 (wrap64 B * 1117)) + wrap64 (p * 29)) + wrap64 (wrap64 Q * 53)) = X at hX
      have hY : 0 ≤ wrap64 (Int.tdiv X 64) ∧ wrap64 (Int.tdiv X 64) < 1000000000 := by
        rw [Int.tdiv_eq_ediv_of_nonneg hX.1, w64 (by omega) (by omega)]; omega
      refine ⟨Int.tmod (Go.bits .xor .i64 X (wrap64 (Int.tdiv X 64))) n, fun k => ?_, Int.tmod_nonneg _ (xor_nonneg hX.1 (by omega) hY.1 (by omega)), Int.tmod_lt_of_pos _ (by omega)⟩
      unfold spec_l1Rd_pick.f
      rw [if_neg (by omega), e1, hz]
      simp only [spec_l1Rd_pick.j0]
      rw [if_neg (by decide), e2, if_neg hk, if_neg (by omega), if_pos i1, if_pos j1, e7, if_pos i2, if_pos j2, if_neg (by omega), hAe, hBe, hQe, hXe]
theorem open_any {l : List Int} (hl : ∀ x ∈ l, (Lit.int .u8 x).wf = true) : ∃ b, spec_l1Open.f l = some (b, 0) ∧ BytesOk b := by
  unfold spec_l1Open.f
  by_cases h : (l.length : Int) > 2000
  · rw [if_pos h, if_pos (by omega)]
    exact ⟨_, rfl, by rw [List.length_take]; omega, fun x hx => wf8 (hl x (List.mem_of_mem_take hx))⟩
  · rw [if_neg h]
    exact ⟨_, rfl, by omega, fun x hx => wf8 (hl x hx)⟩
theorem one_any {b : List Int} (hb : BytesOk b) {p : Int} (hp : 0 ≤ p) (hp' : p ≤ 1000000) {l : List Int} (hl : 1 ≤ l.length) :
    ∃ r, (∀ k, spec_l1Rd_one.f (k + 1) b p l = some (r, p + 1)) ∧ r ∈ l := by
  obtain ⟨i, hi, h0, h1⟩ := pick_any hb hp hp' (n := (l.length : Int)) (by omega)
  refine ⟨rd l i, fun k => ?_, rd_mem h0 h1⟩
  unfold spec_l1Rd_one.f
  rw [hi k]
  simp only [Option.bind_some]
  rw [if_pos h0, if_pos h1]
theorem pick_ge {b : List Int} (hb : BytesOk b) {p n : Int} (hp : 0 ≤ p) (hp' : p ≤ 1000000) (hn : 1 ≤ n) :
    ∃ r, (∀ k, 1 ≤ k → spec_l1Rd_pick.f k b p n = some (r, p + 1)) ∧ 0 ≤ r ∧ r < n := by
  obtain ⟨r, h, h0, h1⟩ := pick_any hb hp hp' hn
  exact ⟨r, fun k hk => by obtain ⟨m, rfl⟩ : ∃ m, k = m + 1 := ⟨k - 1, by omega⟩; exact h m, h0, h1⟩
theorem one_ge {b : List Int} (hb : BytesOk b) {p : Int} (hp : 0 ≤ p) (hp' : p ≤ 1000000) {l : List Int} (hl : 1 ≤ l.length) :
    ∃ r, (∀ k, 1 ≤ k → spec_l1Rd_one.f k b p l = some (r, p + 1)) ∧ r ∈ l := by
  obtain ⟨r, h, h0⟩ := one_any hb hp hp' hl
  exact ⟨r, fun k hk => by obtain ⟨m, rfl⟩ : ∃ m, k = m + 1 := ⟨k - 1, by omega⟩; exact h m, h0⟩
end Go.Proofs.YtgeloncilhighaaDoor.Drw
end
section
namespace Go.Proofs.YtgeloncilhighaaDoor.Cal
open Go.RowKit Go.Proofs.YtgeloncilhighaaDoor.Pr Go.Proofs.YtgeloncilhighaaDoor.Ext Go.Proofs.YtgeloncilhighaaDoorW.PrintWords Go.Proofs.YtgeloncilhighaaDoorW.PrintLast Go.Proofs.YtgeloncilhighaaDoorW.PrintMore
set_option linter.unusedVariables false
set_option linter.unusedSimpArgs false
theorem w64 {x : Int} (h : -9223372036854775808 ≤ x) (h' : x ≤ 9223372036854775807) : wrap64 x = x := by unfold wrap64; omega
def lpI (y : Int) : Int := if y % 4 = 0 ∧ (y % 100 ≠ 0 ∨ y % 400 = 0) then 1 else 0
theorem lpI_01 (y : Int) : lpI y = 0 ∨ lpI y = 1 := by unfold lpI; split <;> omega
def ld (y m : Int) : Int := if m = 2 then 28 + lpI y else if m = 4 then 30 else if m = 6 then 30 else if m = 9 then 30 else if m = 11 then 30 else 31
theorem ld_bd (y m : Int) : 28 ≤ ld y m ∧ ld y m ≤ 31 := by
  have := lpI_01 y
  unfold ld
  repeat' split
  all_goals omega
def cum (l m : Int) : Int :=
  if m ≤ 1 then 0 else if m = 2 then 31 else if m = 3 then 59 + l else if m = 4 then 90 + l else if m = 5 then 120 + l else if m = 6 then 151 + l else if m = 7 then 181 + l
  else if m = 8 then 212 + l else if m = 9 then 243 + l else if m = 10 then 273 + l else if m = 11 then 304 + l else if m = 12 then 334 + l else 365 + l
theorem mcases {m : Int} (h1 : 1 ≤ m) (h2 : m ≤ 12) : m = 1 ∨ m = 2 ∨ m = 3 ∨ m = 4 ∨ m = 5 ∨ m = 6 ∨ m = 7 ∨ m = 8 ∨ m = 9 ∨ m = 10 ∨ m = 11 ∨ m = 12 := by omega
theorem cum_succ (y m : Int) (h1 : 1 ≤ m) (h2 : m ≤ 12) : cum (lpI y) (m + 1) = cum (lpI y) m + ld y m := by
  rcases mcases h1 h2 with rfl | rfl | rfl | rfl | rfl | rfl | rfl | rfl | rfl | rfl | rfl | rfl <;> simp [cum, ld] <;> omega
theorem cum_one (l : Int) : cum l 1 = 0 := rfl
theorem cum_13 (l : Int) : cum l 13 = 365 + l := rfl
theorem ite_bd {P : Prop} [Decidable P] {a b lo hi : Int} (ha : lo ≤ a ∧ a ≤ hi) (hb : lo ≤ b ∧ b ≤ hi) : lo ≤ (if P then a else b) ∧ (if P then a else b) ≤ hi := by split <;> assumption
theorem cum_bd (y m : Int) : 0 ≤ cum (lpI y) m ∧ cum (lpI y) m ≤ 366 := by
  have := lpI_01 y
  unfold cum
  repeat' refine ite_bd ?_ ?_
  all_goals omega
def dby (y : Int) : Int := 365 * (y - 1) + (y - 1) / 4 - (y - 1) / 100 + (y - 1) / 400
theorem dby_succ (y : Int) : dby (y + 1) = dby y + 365 + lpI y := by
  unfold dby lpI
  split <;> omega
theorem dby_bd {y : Int} (h1 : 1 ≤ y) (h2 : y ≤ 10000) : 0 ≤ dby y ∧ dby y ≤ 3652059 := by unfold dby; omega
theorem dby_mono {a b : Int} (h : a ≤ b) : dby a ≤ dby b := by unfold dby; omega
def num (y m d : Int) : Int := dby y + cum (lpI y) m + d
def ms (K : Int) : Int := dby (K / 12) + cum (lpI (K / 12)) (K % 12 + 1)
def ml (K : Int) : Int := ld (K / 12) (K % 12 + 1)
theorem ml_bd (K : Int) : 28 ≤ ml K ∧ ml K ≤ 31 := ld_bd _ _
theorem ms_succ (K : Int) : ms (K + 1) = ms K + ml K := by
  unfold ms ml
  by_cases h : K % 12 = 11
  · have e1 : (K + 1) / 12 = K / 12 + 1 := by omega
    have e2 : (K + 1) % 12 = 0 := by omega
    have hs := cum_succ (K / 12) 12 (by omega) (by omega)
    rw [show (12 : Int) + 1 = 13 from rfl, cum_13] at hs
    have hd := dby_succ (K / 12)
    rw [e1, e2, h, show (0 : Int) + 1 = 1 from rfl, cum_one, show (11 : Int) + 1 = 12 from rfl]
    omega
  · have e1 : (K + 1) / 12 = K / 12 := by omega
    have e2 : (K + 1) % 12 = K % 12 + 1 := by omega
    have hs := cum_succ (K / 12) (K % 12 + 1) (by omega) (by omega)
    rw [e1, e2]
    omega
theorem ms_add (K : Int) (n : Nat) : ms K + 28 * n ≤ ms (K + n) ∧ ms (K + n) ≤ ms K + 31 * n := by
  induction n with
  | zero => simp
  | succ n ih =>
    have h := ms_succ (K + n)
    have hb := ml_bd (K + n)
    have e : K + ((n + 1 : Nat) : Int) = K + n + 1 := by omega
    rw [e]
    omega
theorem ms_le {a b : Int} (h : a ≤ b) : ms a + 28 * (b - a) ≤ ms b ∧ ms b ≤ ms a + 31 * (b - a) := by
  have := ms_add a (b - a).toNat
  rw [show a + ((b - a).toNat : Int) = b from by omega, show (((b - a).toNat : Nat) : Int) = b - a from by omega] at this
  exact this
theorem ms_lt {a b : Int} (h : a < b) : ms a + ml a ≤ ms b := by
  have h1 := ms_succ a
  have h2 := ms_le (show a + 1 ≤ b by omega)
  omega
theorem ms_12 : ms 12 = 0 := by decide
theorem ms_120000 : ms 120000 = 3652059 := by decide
def At (n K d : Int) : Prop := 12 ≤ K ∧ K ≤ 119999 ∧ 1 ≤ d ∧ d ≤ ml K ∧ n = ms K + d
theorem At.bd {n K d : Int} (h : At n K d) : 1 ≤ n ∧ n ≤ 3652059 := by
  obtain ⟨h1, h2, h3, h4, rfl⟩ := h
  have a := ms_le h1
  have b := ms_lt (show K < 120000 by omega)
  rw [ms_12] at a
  rw [ms_120000] at b
  omega
theorem At.lt {n K d n' K' d' : Int} (h : At n K d) (h' : At n' K' d') : n < n' ↔ K < K' ∨ K = K' ∧ d < d' := by
  obtain ⟨h1, h2, h3, h4, e⟩ := h
  obtain ⟨h1', h2', h3', h4', e'⟩ := h'
  rcases Int.lt_trichotomy K K' with hlt | rfl | hlt
  · have := ms_lt hlt; omega
  · omega
  · have := ms_lt hlt; omega
theorem at_ym {y m d : Int} (h1 : 1 ≤ y) (h2 : y ≤ 9999) (h3 : 1 ≤ m) (h4 : m ≤ 12) (h5 : 1 ≤ d) (h6 : d ≤ ld y m) : At (dby y + cum (lpI y) m + d) (12 * y + m - 1) d := by
  have e1 : (12 * y + m - 1) / 12 = y := by omega
  have e2 : (12 * y + m - 1) % 12 + 1 = m := by omega
  exact ⟨by omega, by omega, h5, by unfold ml; rw [e1, e2]; exact h6, by unfold ms; rw [e1, e2]⟩
theorem specLeap_eq {y : Int} (h : 0 ≤ y) : spec_l3Leap.f y = some (decide (lpI y = 1)) := by
  unfold spec_l3Leap.f lpI
  rw [Int.tmod_eq_emod_of_nonneg h, Int.tmod_eq_emod_of_nonneg h, Int.tmod_eq_emod_of_nonneg h]
  by_cases h4 : y % 4 = 0 <;> by_cases h100 : y % 100 = 0 <;> by_cases h400 : y % 400 = 0 <;> simp [h4, h100, h400] <;> omega
theorem implLeap_eq {y : Int} (h : 0 ≤ y) : impl_leap.f y = some (decide (lpI y = 1)) := by
  unfold impl_leap.f lpI
  rw [Int.tmod_eq_emod_of_nonneg h, Int.tmod_eq_emod_of_nonneg h, Int.tmod_eq_emod_of_nonneg h]
  by_cases h4 : y % 4 = 0 <;> by_cases h100 : y % 100 = 0 <;> by_cases h400 : y % 400 = 0 <;> simp [h4, h100, h400]
theorem specLast_eq {y : Int} (h : 0 ≤ y) (m : Int) : spec_l3Last.f y m = some (ld y m) := by
  unfold spec_l3Last.f ld
  rw [specLeap_eq h]
  have := lpI_01 y
  by_cases h2 : m = 2
  · rw [if_pos h2, if_pos h2]
    rcases this with e | e <;> simp [e]
  · rw [if_neg h2, if_neg h2]
    repeat' split
    all_goals rfl
def okYM (y m : Int) : Prop := 1 ≤ y ∧ y ≤ 9999 ∧ 1 ≤ m ∧ m ≤ 12
instance (y m : Int) : Decidable (okYM y m) := by unfold okYM; infer_instance
def dl (y m : Int) : Int := if okYM y m then ld y m else 0
theorem dl_ok {y m : Int} (h1 : 1 ≤ y) (h2 : y ≤ 9999) (h3 : 1 ≤ m) (h4 : m ≤ 12) : dl y m = ld y m := by unfold dl; rw [if_pos (show okYM y m from ⟨h1, h2, h3, h4⟩)]
theorem implLast_eq (k : Nat) (y m : Int) : impl_DayLast.f (k + 2) y m = some (dl y m) := by
  unfold impl_DayLast.f impl_in.f
  by_cases hy1 : y ≥ 1
  · by_cases hy2 : y ≤ 9999
    · by_cases hm1 : m ≥ 1
      · by_cases hm2 : m ≤ 12
        · rw [dl_ok hy1 hy2 hm1 hm2]
          have := lpI_01 y
          simp only [hy1, hy2, hm1, hm2, if_true, decide_true, Option.bind_some, Bool.not_true, impl_DayLast.j0, implLeap_eq (show 0 ≤ y by omega)]
          unfold ld
          by_cases h2 : m = 2
          · rcases this with e | e <;> simp [impl_DayLast.j1, h2, e]
          · simp only [impl_DayLast.j1, h2, if_false]
            simp only [Bool.false_eq_true, if_false]
            repeat' split
            all_goals rfl
        · have : dl y m = 0 := by unfold dl; rw [if_neg (by unfold okYM; omega)]
          simp [hy1, hy2, hm1, hm2, impl_DayLast.j0, this]
      · have : dl y m = 0 := by unfold dl; rw [if_neg (by unfold okYM; omega)]
        simp [hy1, hy2, hm1, impl_DayLast.j0, this]
    · have : dl y m = 0 := by unfold dl; rw [if_neg (by unfold okYM; omega)]
      simp [hy1, hy2, impl_DayLast.j0, this]
  · have : dl y m = 0 := by unfold dl; rw [if_neg (by unfold okYM; omega)]
    simp [hy1, impl_DayLast.j0, this]
theorem implLast_ge {k : Nat} (h : 2 ≤ k) (y m : Int) : impl_DayLast.f k y m = some (dl y m) := by
  obtain ⟨j, rfl⟩ : ∃ j, k = j + 2 := ⟨k - 2, by omega⟩
  exact implLast_eq j y m
theorem ahead_eq {y : Int} (h1 : 1 ≤ y) (h2 : y ≤ 10000) : impl_ahead.f y = some (dby y) := by
  unfold impl_ahead.f dby
  rw [w64 (x := y - 1) (by omega) (by omega), Int.tdiv_eq_ediv_of_nonneg (show 0 ≤ y - 1 by omega), Int.tdiv_eq_ediv_of_nonneg (show 0 ≤ y - 1 by omega), Int.tdiv_eq_ediv_of_nonneg (show 0 ≤ y - 1 by omega)]
  rw [w64 (x := 365 * (y - 1)) (by omega) (by omega), w64 (x := (y - 1) / 4) (by omega) (by omega), w64 (x := (y - 1) / 100) (by omega) (by omega), w64 (x := (y - 1) / 400) (by omega) (by omega)]
  rw [w64 (x := 365 * (y - 1) + (y - 1) / 4) (by omega) (by omega), w64 (x := 365 * (y - 1) + (y - 1) / 4 - (y - 1) / 100) (by omega) (by omega), w64 (by omega) (by omega)]
theorem implOf_l0 {y m : Int} (hy1 : 1 ≤ y) (hy2 : y ≤ 9999) (hm2 : m ≤ 12) (d : Nat) : ∀ (k : Nat) (n j : Int), 0 ≤ n → n ≤ 10000000 + 31 * j → 1 ≤ j → j ≤ m → m - j = d → d < k →
    impl_DayOf.l0 (k + 2) y m n j = some (n + cum (lpI y) m - cum (lpI y) j) := by
  induction d with
  | zero =>
    intro k n j h0 h1 hj1 hj2 hd hk
    obtain rfl : j = m := by omega
    obtain ⟨k, rfl⟩ : ∃ i, k = i + 1 := ⟨k - 1, by omega⟩
    rw [impl_DayOf.l0]
    rw [if_neg (by omega)]
    congr 1; omega
  | succ d ih =>
    intro k n j h0 h1 hj1 hj2 hd hk
    obtain ⟨k, rfl⟩ : ∃ i, k = i + 1 := ⟨k - 1, by omega⟩
    have hb := ld_bd y j
    have hs := cum_succ y j hj1 (by omega)
    show impl_DayOf.l0 (k + 2 + 1) y m n j = _
    rw [impl_DayOf.l0]
    rw [if_pos (by omega), implLast_eq, dl_ok hy1 hy2 hj1 (by omega)]
    simp only [Option.bind_some]
    rw [w64 (by omega) (by omega), w64 (by omega) (by omega), ih k _ _ (by omega) (by omega) (by omega) (by omega) (by omega) (by omega), hs]
    congr 1; omega
def okD (y m d : Int) : Prop := okYM y m ∧ 1 ≤ d ∧ d ≤ ld y m
instance (y m d : Int) : Decidable (okD y m d) := by unfold okD; infer_instance
def dof (y m d : Int) : Int := if okD y m d then num y m d else 0
theorem implOf_eq (k : Nat) (y m d : Int) : impl_DayOf.f (k + 16) y m d = some (dof y m d) := by
  unfold impl_DayOf.f
  rw [show k + 16 = (k + 14) + 2 from rfl, implLast_eq]
  simp only [Option.bind_some]
  unfold impl_in.f dof
  by_cases h : okD y m d
  · have h' := h
    obtain ⟨⟨h1, h2, h3, h4⟩, h5, h6⟩ := h'
    have hb := dby_bd h1 (show y ≤ 10000 by omega)
    have hl := ld_bd y m
    rw [if_pos h, dl_ok h1 h2 h3 h4, if_pos h5]
    simp only [Option.bind_some]
    rw [if_pos (decide_eq_true h6), ahead_eq h1 (by omega)]
    simp only [Option.bind_some]
    rw [w64 (by omega) (by omega), implOf_l0 h1 h2 h4 (m - 1).toNat (k + 14) _ 1 (by omega) (by omega) (by omega) h3 (by omega) (by omega), cum_one]
    unfold num
    congr 1; omega
  · rw [if_neg h]
    by_cases h5 : d ≥ 1
    · have h6 : ¬ d ≤ dl y m := by
        intro h6
        apply h
        unfold dl at h6
        by_cases hq : okYM y m
        · rw [if_pos hq] at h6; exact ⟨hq, h5, h6⟩
        · rw [if_neg hq] at h6; omega
      simp [h5, h6]
    · simp [h5]
theorem implOf_ge {k : Nat} (h : 16 ≤ k) (y m d : Int) : impl_DayOf.f k y m d = some (dof y m d) := by
  obtain ⟨j, rfl⟩ : ∃ j, k = j + 16 := ⟨k - 16, by omega⟩
  exact implOf_eq j y m d
theorem dof_at {K x : Int} (h1 : 12 ≤ K) (h2 : K ≤ 119999) (h3 : 1 ≤ x) (h4 : x ≤ ml K) : dof (K / 12) (K % 12 + 1) x = ms K + x := by
  unfold dof
  rw [if_pos ⟨⟨by omega, by omega, by omega, by omega⟩, h3, h4⟩]
  rfl
theorem isDay_eq (n : Int) : impl_isDay.f n = some (decide (1 ≤ n ∧ n ≤ 3652059)) := by
  unfold impl_isDay.f impl_in.f
  by_cases h1 : n ≥ 1 <;> by_cases h2 : n ≤ 3652059 <;> simp [h1, h2]
theorem cum_le (y m : Int) : cum (lpI y) m ≤ 365 + lpI y := by
  have h01 := lpI_01 y
  have : 0 ≤ cum (lpI y) m ∧ cum (lpI y) m ≤ 365 + lpI y := by
    unfold cum
    repeat' refine ite_bd ?_ ?_
    all_goals omega
  exact this.2
theorem exists_at {n : Int} (h1 : 1 ≤ n) (h2 : n ≤ 3652059) : ∃ K d, At n K d := by
  have key : ∀ (j : Nat), (12 : Int) + j ≤ 120000 → n ≤ ms (12 + j) → ∃ K d, At n K d := by
    intro j
    induction j with
    | zero =>
      intro _ hn
      have := ms_12
      simp at hn
      omega
    | succ j ih =>
      intro hj hn
      by_cases hlt : n ≤ ms (12 + j)
      · exact ih (by omega) hlt
      · have hs := ms_succ (12 + j)
        have e : (12 : Int) + ((j + 1 : Nat) : Int) = 12 + j + 1 := by omega
        rw [e] at hn
        exact ⟨12 + j, n - ms (12 + j), by omega, by omega, by omega, by omega, by omega⟩
  have h := ms_120000
  refine key 119988 (by decide) ?_
  rw [show (12 : Int) + ((119988 : Nat) : Int) = 120000 from by decide, h]
  exact h2
theorem ms_ym {y m : Int} (h3 : 1 ≤ m) (h4 : m ≤ 12) : ms (12 * y + m - 1) = dby y + cum (lpI y) m ∧ ml (12 * y + m - 1) = ld y m := by
  have e1 : (12 * y + m - 1) / 12 = y := by omega
  have e2 : (12 * y + m - 1) % 12 + 1 = m := by omega
  unfold ms ml
  rw [e1, e2]
  exact ⟨rfl, rfl⟩
theorem year_in {n K d : Int} (h : At n K d) : dby (K / 12) < n ∧ n ≤ dby (K / 12 + 1) := by
  obtain ⟨h1, h2, h3, h4, e⟩ := h
  have a := cum_bd (K / 12) (K % 12 + 1)
  have b := cum_succ (K / 12) (K % 12 + 1) (by omega) (by omega)
  have c := cum_le (K / 12) (K % 12 + 1 + 1)
  have s := dby_succ (K / 12)
  unfold ml at h4
  unfold ms at e
  omega
theorem year_lt {a b n : Int} (ha : dby a < n) (hb : n ≤ dby (b + 1)) : a ≤ b := by
  apply Int.le_of_not_gt
  intro h
  have := dby_mono (show b + 1 ≤ a by omega)
  omega
theorem ms_bd {K : Int} (h1 : 12 ≤ K) (h2 : K ≤ 120000) : 0 ≤ ms K ∧ ms K ≤ 3652059 := by
  have a := (ms_le h1).1
  have b := (ms_le h2).1
  rw [ms_12] at a
  rw [ms_120000] at b
  omega
theorem implParts_l1 {n K d : Int} (h : At n K d) (e : Nat) : ∀ (k : Nat) (J : Int), 12 * (K / 12) ≤ J → J ≤ K → K - J = e → e + 3 < k →
    impl_DayParts.l1 k (K / 12) (n - ms J) (J - 12 * (K / 12) + 1) = some (K / 12, K % 12 + 1, d, true) := by
  obtain ⟨h1, h2, h3, h4, hn⟩ := h
  induction e with
  | zero =>
    intro k J j1 j2 hd hk
    obtain rfl : J = K := by omega
    obtain ⟨k, rfl⟩ : ∃ i, k = i + 1 := ⟨k - 1, by omega⟩
    rw [show J - 12 * (J / 12) + 1 = J % 12 + 1 from by omega, impl_DayParts.l1, implLast_ge (by omega), dl_ok (by omega) (by omega) (by omega) (by omega)]
    simp only [Option.bind_some]
    unfold ml at h4
    rw [if_neg (by omega), show n - ms J = d from by omega]
  | succ e ih =>
    intro k J j1 j2 hd hk
    obtain ⟨k, rfl⟩ : ∃ i, k = i + 1 := ⟨k - 1, by omega⟩
    have y1 : J / 12 = K / 12 := by omega
    have y2 : J % 12 + 1 = J - 12 * (K / 12) + 1 := by omega
    have hl : ml J = ld (K / 12) (J - 12 * (K / 12) + 1) := by unfold ml; rw [y1, y2]
    have hs := ms_succ J
    have hle := (ms_le (show J + 1 ≤ K by omega)).1
    have hb := ms_bd (show 12 ≤ J by omega) (by omega)
    have hb2 := ms_bd (show 12 ≤ J + 1 by omega) (by omega)
    have hk1 := ms_bd h1 (show K ≤ 120000 by omega)
    have hml := ml_bd K
    rw [impl_DayParts.l1, implLast_ge (by omega), dl_ok (by omega) (by omega) (by omega) (by omega), ← hl]
    simp only [Option.bind_some]
    rw [if_pos (by omega), w64 (by omega) (by omega), w64 (by omega) (by omega), show n - ms J - ml J = n - ms (J + 1) from by omega, show J - 12 * (K / 12) + 1 + 1 = (J + 1) - 12 * (K / 12) + 1 from by omega]
    exact ih k (J + 1) (by omega) (by omega) (by omega) (by omega)
theorem implParts_l0 {n K d : Int} (h : At n K d) (g : Nat) : ∀ (k : Nat) (lo hi : Int), 1 ≤ lo → lo ≤ K / 12 → K / 12 ≤ hi → hi ≤ 9999 → hi - lo ≤ g → g + 20 < k →
    impl_DayParts.l0 k n lo hi = some (K / 12, K % 12 + 1, d, true) := by
  have hy := year_in h
  have hbd := h.bd
  obtain ⟨h1, h2, h3, h4, hn⟩ := id h
  induction g with
  | zero =>
    intro k lo hi l1 l2 l3 l4 hg hk
    obtain rfl : lo = K / 12 := by omega
    obtain ⟨k, rfl⟩ : ∃ i, k = i + 1 := ⟨k - 1, by omega⟩
    rw [impl_DayParts.l0, if_neg (by omega), ahead_eq (by omega) (by omega)]
    simp only [Option.bind_some]
    have hb := dby_bd (show 1 ≤ K / 12 by omega) (show K / 12 ≤ 10000 by omega)
    have e0 : ms (12 * (K / 12)) = dby (K / 12) := by
      have := (ms_ym (y := K / 12) (m := 1) (by omega) (by omega)).1
      rw [show 12 * (K / 12) + 1 - 1 = 12 * (K / 12) from by omega, cum_one] at this
      omega
    rw [w64 (by omega) (by omega), ← e0]
    have := implParts_l1 h (K - 12 * (K / 12)).toNat k (12 * (K / 12)) (by omega) (by omega) (by omega) (by omega)
    rw [show 12 * (K / 12) - 12 * (K / 12) + 1 = 1 from by omega] at this
    exact this
  | succ g ih =>
    intro k lo hi l1 l2 l3 l4 hg hk
    by_cases hlt : lo < hi
    · obtain ⟨k, rfl⟩ : ∃ i, k = i + 1 := ⟨k - 1, by omega⟩
      have e1 : wrap64 (Int.tdiv (wrap64 (wrap64 (lo + hi) + 1)) 2) = (lo + hi + 1) / 2 := by
        rw [w64 (x := lo + hi) (by omega) (by omega), w64 (x := lo + hi + 1) (by omega) (by omega), Int.tdiv_eq_ediv_of_nonneg (by omega), w64 (by omega) (by omega)]
      rw [impl_DayParts.l0, if_pos hlt, e1, ahead_eq (by omega) (by omega)]
      simp only [Option.bind_some]
      by_cases hc : dby ((lo + hi + 1) / 2) < n
      · rw [if_pos hc]
        have := year_lt hc hy.2
        exact ih k _ _ (by omega) (by omega) (by omega) (by omega) (by omega) (by omega)
      · rw [if_neg hc, w64 (by omega) (by omega)]
        have : ¬ (lo + hi + 1) / 2 ≤ K / 12 := fun hle => by have := dby_mono hle; omega
        exact ih k _ _ (by omega) (by omega) (by omega) (by omega) (by omega) (by omega)
    · exact ih k lo hi l1 l2 l3 l4 (by omega) (by omega)
theorem implParts_yes {n K d : Int} (h : At n K d) {k : Nat} (hk : 11000 ≤ k) : impl_DayParts.f k n = some (K / 12, K % 12 + 1, d, true) := by
  have hbd := h.bd
  obtain ⟨h1, h2, h3, h4, hn⟩ := id h
  unfold impl_DayParts.f
  rw [isDay_eq, decide_eq_true hbd]
  simp only [Option.bind_some, if_true]
  exact implParts_l0 h 9998 k 1 9999 (by omega) (by omega) (by omega) (by omega) (by omega) (by omega)
theorem implParts_no {n : Int} (h : ¬ (1 ≤ n ∧ n ≤ 3652059)) (k : Nat) : impl_DayParts.f k n = some (0, 0, 0, false) := by
  unfold impl_DayParts.f
  rw [isDay_eq, decide_eq_false h]
  simp
theorem before_eq {y : Int} (h1 : 1 ≤ y) (h2 : y ≤ 10000) : spec_l3Before.f y = some (dby y) := by
  unfold spec_l3Before.f dby
  rw [w64 (x := y - 1) (by omega) (by omega), Int.tdiv_eq_ediv_of_nonneg (show 0 ≤ y - 1 by omega), Int.tdiv_eq_ediv_of_nonneg (show 0 ≤ y - 1 by omega), Int.tdiv_eq_ediv_of_nonneg (show 0 ≤ y - 1 by omega)]
  rw [w64 (x := 365 * (y - 1)) (by omega) (by omega), w64 (x := (y - 1) / 4) (by omega) (by omega), w64 (x := (y - 1) / 100) (by omega) (by omega), w64 (x := (y - 1) / 400) (by omega) (by omega)]
  rw [w64 (x := 365 * (y - 1) + (y - 1) / 4) (by omega) (by omega), w64 (x := 365 * (y - 1) + (y - 1) / 4 - (y - 1) / 100) (by omega) (by omega), w64 (by omega) (by omega)]
theorem specOf_l0 {y m : Int} (hy1 : 1 ≤ y) (hm2 : m ≤ 12) (d : Nat) : ∀ (k : Nat) (n j : Int), 0 ≤ n → n ≤ 10000000 + 31 * j → 1 ≤ j → j ≤ m → m - j = d → d < k →
    spec_l3Of.l0 k y m n j = some (n + cum (lpI y) m - cum (lpI y) j) := by
  induction d with
  | zero =>
    intro k n j h0 h1 hj1 hj2 hd hk
    obtain rfl : j = m := by omega
    obtain ⟨k, rfl⟩ : ∃ i, k = i + 1 := ⟨k - 1, by omega⟩
    rw [spec_l3Of.l0]
    rw [if_neg (by omega)]
    congr 1; omega
  | succ d ih =>
    intro k n j h0 h1 hj1 hj2 hd hk
    obtain ⟨k, rfl⟩ : ∃ i, k = i + 1 := ⟨k - 1, by omega⟩
    have hb := ld_bd y j
    have hs := cum_succ y j hj1 (by omega)
    rw [spec_l3Of.l0]
    rw [if_pos (by omega), specLast_eq (by omega)]
    simp only [Option.bind_some]
    rw [w64 (by omega) (by omega), w64 (by omega) (by omega), ih k _ _ (by omega) (by omega) (by omega) (by omega) (by omega) (by omega), hs]
    congr 1; omega
theorem specL3Of_eq (k : Nat) {y m d : Int} (h1 : 1 ≤ y) (h2 : y ≤ 9999) (h3 : 1 ≤ m) (h4 : m ≤ 12) (h5 : 0 ≤ d) (h6 : d ≤ 31) : spec_l3Of.f (k + 12) y m d = some (num y m d) := by
  unfold spec_l3Of.f
  have hb := dby_bd h1 (show y ≤ 10000 by omega)
  rw [before_eq h1 (by omega)]
  simp only [Option.bind_some]
  rw [w64 (by omega) (by omega), specOf_l0 h1 h4 (m - 1).toNat (k + 12) _ 1 (by omega) (by omega) (by omega) h3 (by omega) (by omega), cum_one]
  unfold num
  congr 1; omega
theorem specL3Of_ge {k : Nat} (hk : 12 ≤ k) {y m d : Int} (h1 : 1 ≤ y) (h2 : y ≤ 9999) (h3 : 1 ≤ m) (h4 : m ≤ 12) (h5 : 0 ≤ d) (h6 : d ≤ 31) : spec_l3Of.f k y m d = some (num y m d) := by
  obtain ⟨j, rfl⟩ : ∃ j, k = j + 12 := ⟨k - 12, by omega⟩
  exact specL3Of_eq j h1 h2 h3 h4 h5 h6
theorem is_eq (n : Int) : spec_l3Is.f n = some (decide (1 ≤ n ∧ n ≤ 3652059)) := by
  unfold spec_l3Is.f spec_l1In.f
  by_cases h1 : n ≥ 1 <;> by_cases h2 : n ≤ 3652059 <;> simp [h1, h2]
theorem specYear_l0 {n K d : Int} (h : At n K d) (g : Nat) : ∀ (k : Nat) (lo hi : Int), 1 ≤ lo → lo ≤ K / 12 → K / 12 < hi → hi ≤ 10000 → hi - lo ≤ g + 1 → g < k →
    spec_l3Year.l0 k n lo hi = some (K / 12) := by
  have hy := year_in h
  have hbd := h.bd
  obtain ⟨h1, h2, h3, h4, hn⟩ := id h
  induction g with
  | zero =>
    intro k lo hi l1 l2 l3 l4 hg hk
    obtain rfl : lo = K / 12 := by omega
    obtain ⟨k, rfl⟩ : ∃ i, k = i + 1 := ⟨k - 1, by omega⟩
    rw [spec_l3Year.l0, w64 (by omega) (by omega), if_neg (by omega)]
  | succ g ih =>
    intro k lo hi l1 l2 l3 l4 hg hk
    by_cases hlt : hi - lo > 1
    · obtain ⟨k, rfl⟩ : ∃ i, k = i + 1 := ⟨k - 1, by omega⟩
      have e1 : wrap64 (Int.tdiv (wrap64 (lo + hi)) 2) = (lo + hi) / 2 := by
        rw [w64 (x := lo + hi) (by omega) (by omega), Int.tdiv_eq_ediv_of_nonneg (by omega), w64 (by omega) (by omega)]
      rw [spec_l3Year.l0, w64 (x := hi - lo) (by omega) (by omega), if_pos hlt, e1, before_eq (by omega) (by omega)]
      simp only [Option.bind_some]
      by_cases hc : dby ((lo + hi) / 2) < n
      · rw [if_pos hc]
        have := year_lt hc hy.2
        exact ih k _ _ (by omega) (by omega) (by omega) (by omega) (by omega) (by omega)
      · rw [if_neg hc]
        have : ¬ (lo + hi) / 2 ≤ K / 12 := fun hle => by have := dby_mono hle; omega
        exact ih k _ _ (by omega) (by omega) (by omega) (by omega) (by omega) (by omega)
    · exact ih k lo hi l1 l2 l3 l4 (by omega) (by omega)
theorem specYear_eq {n K d : Int} (h : At n K d) {k : Nat} (hk : 10000 ≤ k) : spec_l3Year.f k n = some (K / 12) := by
  obtain ⟨h1, h2, h3, h4, hn⟩ := id h
  unfold spec_l3Year.f
  exact specYear_l0 h 9998 k 1 10000 (by omega) (by omega) (by omega) (by omega) (by omega) (by omega)
theorem specMonth_l0 {n K d : Int} (h : At n K d) (e : Nat) : ∀ (k : Nat) (J : Int), 12 * (K / 12) ≤ J → J ≤ K → K - J = e → e < k →
    spec_l3Month.l0 k (K / 12) (J - 12 * (K / 12) + 1) (n - ms J) = some (K % 12 + 1) := by
  obtain ⟨h1, h2, h3, h4, hn⟩ := h
  induction e with
  | zero =>
    intro k J j1 j2 hd hk
    obtain rfl : J = K := by omega
    obtain ⟨k, rfl⟩ : ∃ i, k = i + 1 := ⟨k - 1, by omega⟩
    rw [show J - 12 * (J / 12) + 1 = J % 12 + 1 from by omega, spec_l3Month.l0, specLast_eq (by omega)]
    simp only [Option.bind_some]
    unfold ml at h4
    rw [if_neg (by omega)]
  | succ e ih =>
    intro k J j1 j2 hd hk
    obtain ⟨k, rfl⟩ : ∃ i, k = i + 1 := ⟨k - 1, by omega⟩
    have y1 : J / 12 = K / 12 := by omega
    have y2 : J % 12 + 1 = J - 12 * (K / 12) + 1 := by omega
    have hl : ml J = ld (K / 12) (J - 12 * (K / 12) + 1) := by unfold ml; rw [y1, y2]
    have hs := ms_succ J
    have hle := (ms_le (show J + 1 ≤ K by omega)).1
    have hb := ms_bd (show 12 ≤ J by omega) (by omega)
    have hb2 := ms_bd (show 12 ≤ J + 1 by omega) (by omega)
    have hk1 := ms_bd h1 (show K ≤ 120000 by omega)
    have hml := ml_bd K
    rw [spec_l3Month.l0, specLast_eq (by omega), ← hl]
    simp only [Option.bind_some]
    rw [if_pos (by omega), w64 (by omega) (by omega), w64 (by omega) (by omega), show n - ms J - ml J = n - ms (J + 1) from by omega, show J - 12 * (K / 12) + 1 + 1 = (J + 1) - 12 * (K / 12) + 1 from by omega]
    exact ih k (J + 1) (by omega) (by omega) (by omega) (by omega)
theorem ms_year {K : Int} : ms (12 * (K / 12)) = dby (K / 12) := by
  have := (ms_ym (y := K / 12) (m := 1) (by omega) (by omega)).1
  rw [show 12 * (K / 12) + 1 - 1 = 12 * (K / 12) from by omega, cum_one] at this
  omega
theorem specMonth_eq {n K d : Int} (h : At n K d) {k : Nat} (hk : 20 ≤ k) : spec_l3Month.f k n (K / 12) = some (K % 12 + 1) := by
  have hbd := h.bd
  obtain ⟨h1, h2, h3, h4, hn⟩ := id h
  unfold spec_l3Month.f
  rw [before_eq (by omega) (by omega)]
  simp only [Option.bind_some]
  have hb := dby_bd (show 1 ≤ K / 12 by omega) (show K / 12 ≤ 10000 by omega)
  rw [w64 (by omega) (by omega), ← ms_year]
  have := specMonth_l0 h (K - 12 * (K / 12)).toNat k (12 * (K / 12)) (by omega) (by omega) (by omega) (by omega)
  rw [show 12 * (K / 12) - 12 * (K / 12) + 1 = 1 from by omega] at this
  exact this
theorem num_at (K d : Int) : num (K / 12) (K % 12 + 1) d = ms K + d := rfl
theorem specDay_eq {n K d : Int} (h : At n K d) {k : Nat} (hk : 10000 ≤ k) : spec_l3Day.f k n = some d := by
  have hbd := h.bd
  obtain ⟨h1, h2, h3, h4, hn⟩ := id h
  have hb := ms_bd h1 (show K ≤ 120000 by omega)
  unfold spec_l3Day.f
  rw [specYear_eq h hk]; simp only [Option.bind_some]
  rw [specMonth_eq h (by omega)]; simp only [Option.bind_some]
  rw [specL3Of_ge (by omega) (by omega) (by omega) (by omega) (by omega) (by omega) (by omega), num_at]; simp only [Option.bind_some]
  rw [w64 (x := n - (ms K + 1)) (by omega) (by omega), w64 (by omega) (by omega), show n - (ms K + 1) + 1 = d from by omega]
end Go.Proofs.YtgeloncilhighaaDoor.Cal
end
section
namespace Go.Proofs.YtgeloncilhighaaDoor.Str
open Go.Lib Go.RowKit Go.Proofs.YtgeloncilhighaaDoor.Dec Go.Proofs.YtgeloncilhighaaDoor.Cal Go.Proofs.YtgeloncilhighaaDoor.Pr Go.Proofs.YtgeloncilhighaaDoor.Ext Go.Proofs.YtgeloncilhighaaDoorW.PrintWords Go.Proofs.YtgeloncilhighaaDoorW.PrintLast Go.Proofs.YtgeloncilhighaaDoorW.PrintMore
set_option linter.unusedVariables false
set_option linter.unusedSimpArgs false
theorem repeat_zeros (c : Nat) : repeatL [48] c = zerosL c := by
  induction c with
  | zero => rfl
  | succ c ih => unfold zerosL at *; rw [repeatL, ih, List.replicate_succ]; rfl
theorem implPadded {n w : Int} (h0 : 0 ≤ n) (h1 : n ≤ 9223372036854775807) (w0 : 0 ≤ w) (w1 : w ≤ 1000) : impl_padded.f n w = some (str (padL n.toNat w.toNat)) := by
  unfold impl_padded.f
  have hl := itoa_len (n := n) (by omega) h1
  rw [itoa_nonneg h0] at hl
  rw [itoa_f (by omega) h1, itoa_nonneg h0]
  simp only [bS, str_size]
  rw [Str.w64 (x := w - ((decDigits n.toNat).length : Int)) (by omega) (by omega)]
  have e : mx 0 (w - ((decDigits n.toNat).length : Int)) = ((w.toNat - (decDigits n.toNat).length : Nat) : Int) := by unfold mx; split <;> omega
  rw [e]
  unfold lib_Repeat.f
  rw [if_pos (by rw [show (⟨#[48]⟩ : ByteArray) = str [48] from rfl, str_size, List.length_singleton]; omega), show (⟨#[48]⟩ : ByteArray) = str [48] from rfl, str_data, Int.toNat_natCast, repeat_zeros]
  simp only [bS]
  rw [show (⟨(zerosL (w.toNat - (decDigits n.toNat).length)).toArray⟩ : ByteArray) = str (zerosL (w.toNat - (decDigits n.toNat).length)) from rfl, str_size, zerosL_len, if_pos (by omega), str_append]
  rfl
theorem specWide_l0 (d : Nat) : ∀ (k : Nat) (w : Int) (l : List UInt8), w ≤ 100 → l.length ≤ 100 → w - l.length ≤ d → d < k → spec_l1Wide.l0 k w (str l) = some (str (zerosL (w.toNat - l.length) ++ l)) := by
  induction d with
  | zero =>
    intro k w l hw hl hd hk
    obtain ⟨k, rfl⟩ : ∃ j, k = j + 1 := ⟨k - 1, by omega⟩
    rw [spec_l1Wide.l0, str_size, if_neg (by omega), show w.toNat - l.length = 0 by omega]
    rfl
  | succ d ih =>
    intro k w l hw hl hd hk
    obtain ⟨k, rfl⟩ : ∃ j, k = j + 1 := ⟨k - 1, by omega⟩
    rw [spec_l1Wide.l0, str_size]
    by_cases h : (l.length : Int) < w
    · rw [if_pos h, if_pos (by omega), show (⟨#[48]⟩ : ByteArray) = str [48] from rfl, str_append]
      by_cases h2 : l.length + 1 ≤ 100
      · rw [ih k w ([48] ++ l) hw (by simp; omega) (by simp; omega) (by omega)]
        congr 2
        rw [List.length_append, List.length_singleton, ← List.append_assoc]
        congr 1
        rw [show w.toNat - l.length = (w.toNat - (1 + l.length)) + 1 by omega]
        unfold zerosL
        rw [List.replicate_succ']
      · exfalso; omega
    · rw [if_neg h, show w.toNat - l.length = 0 by omega]
      rfl
theorem specWide {n w : Int} (h0 : 0 ≤ n) (h1 : n ≤ 9223372036854775807) (w0 : 0 ≤ w) (w1 : w ≤ 90) (k : Nat) (hk : 120 ≤ k) : spec_l1Wide.f k n w = some (str (padL n.toNat w.toNat)) := by
  unfold spec_l1Wide.f
  have hl := itoa_len (n := n) (by omega) h1
  rw [l1Dec_eq (by omega) h1 k (by omega)]
  simp only [bS]
  rw [itoa_nonneg h0] at hl ⊢
  rw [specWide_l0 100 k w _ (by omega) (by omega) (by omega) (by omega)]
  rfl
def dayT (y m d : Int) : List UInt8 := (((padL y.toNat 4 ++ [45]) ++ padL m.toNat 2) ++ [45]) ++ padL d.toNat 2
theorem padL_len_le (n w : Nat) : (padL n w).length ≤ w + (decDigits n).length := by unfold padL; rw [List.length_append, zerosL_len]; omega
theorem pad_small {n : Int} (h0 : 0 ≤ n) (h1 : n ≤ 9999) (w : Nat) : (padL n.toNat w).length ≤ w + 4 := by
  have := padL_len_le n.toNat w
  have : (decDigits n.toNat).length ≤ 4 := decDigits_len_le (by decide) (by omega)
  omega
theorem implDayPut {n K d : Int} (h : At n K d) (k : Nat) (hk : 11000 ≤ k) : impl_DayPut.f k n = some (str (dayT (K / 12) (K % 12 + 1) d)) := by
  obtain ⟨h1, h2, h3, h4, hn⟩ := id h
  have hm := ml_bd K
  have l1 := pad_small (n := K / 12) (by omega) (by omega) 4
  have l2 := pad_small (n := K % 12 + 1) (by omega) (by omega) 2
  have l3 := pad_small (n := d) (by omega) (by omega) 2
  unfold impl_DayPut.f
  rw [implParts_yes h hk]
  simp only [bS, if_true]
  rw [implPadded (by omega) (by omega) (by omega) (by omega), show (4 : Int).toNat = 4 from rfl]
  simp only [bS]
  rw [str_size, if_pos (by omega), implPadded (by omega) (by omega) (by omega) (by omega)]
  simp only [bS]
  rw [show (⟨#[45]⟩ : ByteArray) = str [45] from rfl]
  simp only [str_append, str_size, List.length_append, List.length_cons, List.length_nil]
  rw [show (2 : Int).toNat = 2 from rfl]
  rw [if_pos (by omega), if_pos (by omega), implPadded (by omega) (by omega) (by omega) (by omega)]
  simp only [bS]
  rw [str_size, show (2 : Int).toNat = 2 from rfl, if_pos (by omega), str_append]
  rfl
theorem implDayPut_no {n : Int} (h : ¬ (1 ≤ n ∧ n ≤ 3652059)) (k : Nat) : impl_DayPut.f k n = some (str []) := by
  unfold impl_DayPut.f
  rw [implParts_no h]
  simp only [bS]
  rfl
theorem specL3Put {n K d : Int} (h : At n K d) (k : Nat) (hk : 11000 ≤ k) : spec_l3Put.f k n = some (str (dayT (K / 12) (K % 12 + 1) d)) := by
  obtain ⟨h1, h2, h3, h4, hn⟩ := id h
  have hm := ml_bd K
  have l1 := pad_small (n := K / 12) (by omega) (by omega) 4
  have l2 := pad_small (n := K % 12 + 1) (by omega) (by omega) 2
  have l3 := pad_small (n := d) (by omega) (by omega) 2
  unfold spec_l3Put.f
  rw [specYear_eq h (by omega)]; simp only [bS]
  rw [specWide (by omega) (by omega) (by omega) (by omega) k (by omega)]; simp only [bS]
  rw [str_size, show (4 : Int).toNat = 4 from rfl, if_pos (by omega), specMonth_eq h (by omega)]; simp only [bS]
  rw [specWide (by omega) (by omega) (by omega) (by omega) k (by omega)]; simp only [bS]
  rw [show (⟨#[45]⟩ : ByteArray) = str [45] from rfl]
  simp only [str_append, str_size, List.length_append, List.length_cons, List.length_nil]
  rw [show (2 : Int).toNat = 2 from rfl, if_pos (by omega), if_pos (by omega), specDay_eq h (by omega)]; simp only [bS]
  rw [specWide (by omega) (by omega) (by omega) (by omega) k (by omega)]; simp only [bS]
  rw [str_size, show (2 : Int).toNat = 2 from rfl, if_pos (by omega), str_append]
  rfl
theorem specDayPut {n K d : Int} (h : At n K d) (k : Nat) (hk : 11000 ≤ k) : spec_DayPut.f k n = some (str (dayT (K / 12) (K % 12 + 1) d)) := by
  unfold spec_DayPut.f
  rw [is_eq, decide_eq_true h.bd]; simp only [bS, if_true]
  rw [specL3Put h k hk]; simp only [bS]
theorem specDayPut_no {n : Int} (h : ¬ (1 ≤ n ∧ n ≤ 3652059)) (k : Nat) : spec_DayPut.f k n = some (str []) := by
  unfold spec_DayPut.f
  rw [is_eq, decide_eq_false h]; simp only [bS]
  rfl
theorem dayPut_any (n : Int) : ∃ l, (∀ k, 11000 ≤ k → impl_DayPut.f k n = some (str l)) ∧ (∀ k, 11000 ≤ k → spec_DayPut.f k n = some (str l)) ∧ (l = [] ↔ ¬ (1 ≤ n ∧ n ≤ 3652059)) := by
  by_cases h : 1 ≤ n ∧ n ≤ 3652059
  · obtain ⟨K, d, hA⟩ := exists_at h.1 h.2
    refine ⟨_, implDayPut hA, specDayPut hA, ?_⟩
    constructor
    · intro e; unfold dayT at e; simp at e
    · intro e; exact absurd h e
  · exact ⟨[], fun k _ => implDayPut_no h k, fun k _ => specDayPut_no h k, by simp [h]⟩
end Go.Proofs.YtgeloncilhighaaDoor.Str
end
section
namespace Go.Proofs.YtgeloncilhighaaDoor.Str
open Go.Lib Go.RowKit Go.Proofs.YtgeloncilhighaaDoor.Dec Go.Proofs.YtgeloncilhighaaDoor.Pr Go.Proofs.YtgeloncilhighaaDoor.Ext Go.Proofs.YtgeloncilhighaaDoorW.PrintWords Go.Proofs.YtgeloncilhighaaDoorW.PrintLast Go.Proofs.YtgeloncilhighaaDoorW.PrintMore
set_option linter.unusedVariables false
set_option linter.unusedSimpArgs false
def spanOk (a b : Int) : Prop := (-120000 ≤ a ∧ a ≤ 120000) ∧ (-4000000 ≤ b ∧ b ≤ 4000000)
instance (a b : Int) : Decidable (spanOk a b) := inferInstanceAs (Decidable (_ ∧ _))
end Go.Proofs.YtgeloncilhighaaDoor.Str
end
section
namespace Go.Proofs.YtgeloncilhighaaDoor.Str
open Go.Lib Go.RowKit Go.Proofs.YtgeloncilhighaaDoor.Dec Go.Proofs.YtgeloncilhighaaDoor.Pr Go.Proofs.YtgeloncilhighaaDoor.Ext Go.Proofs.YtgeloncilhighaaDoorW.PrintWords Go.Proofs.YtgeloncilhighaaDoorW.PrintLast Go.Proofs.YtgeloncilhighaaDoorW.PrintMore
set_option linter.unusedVariables false
set_option linter.unusedSimpArgs false
theorem parse_digs : ∀ (l : List UInt8) (a : Nat), Digs l → (a + 1) * 10 ^ l.length ≤ 10 ^ 18 → parseUint10 a l = .ok (dvalA a l)
  | [], a, _, _ => by rw [parseUint10, dvalA_nil]
  | b :: r, a, hd, hb => by
    have h0 := hd.head
    unfold IsD at h0
    rw [List.length_cons, Nat.pow_succ] at hb
    have hp : 1 ≤ 10 ^ r.length := Nat.one_le_pow _ _ (by decide)
    have h1 : (a + 1) * 1 ≤ (a + 1) * 10 ^ r.length := Nat.mul_le_mul_left _ hp
    have h2 : (a + 1) * (10 ^ r.length * 10) = ((a + 1) * 10 ^ r.length) * 10 := (Nat.mul_assoc ..).symm
    rw [h2] at hb
    have e18 : 10 ^ 18 = 1000000000000000000 := by decide
    rw [e18] at hb
    have ha : a + 1 ≤ 100000000000000000 := by omega
    simp only [parseUint10]
    rw [if_pos h0, if_neg (by omega), if_neg (by omega), dvalA_cons]
    refine parse_digs r _ hd.tail ?_
    rw [e18]
    have h3 : (a * 10 + (b.toNat - 48) + 1) * 10 ^ r.length ≤ ((a + 1) * 10) * 10 ^ r.length := Nat.mul_le_mul_right _ (by omega)
    have h4 : ((a + 1) * 10) * 10 ^ r.length = ((a + 1) * 10 ^ r.length) * 10 := by rw [Nat.mul_assoc, Nat.mul_comm 10, ← Nat.mul_assoc]
    omega
theorem atoiAll_digs {l : List UInt8} (hd : Digs l) (h0 : l ≠ []) (hl : l.length ≤ 18) : atoiAll l = .ok (dval l : Int) := by
  cases l with
  | nil => exact absurd rfl h0
  | cons b r =>
    have hb := hd.head
    unfold IsD at hb
    have hp := parse_digs (b :: r) 0 hd (by
      have : 10 ^ (b :: r).length ≤ 10 ^ 18 := Nat.pow_le_pow_right (by decide) hl
      omega)
    have hv : dvalA 0 (b :: r) < 9223372036854775808 := by
      have h1 := dval_lt hd
      have h2 : 10 ^ (b :: r).length ≤ 10 ^ 18 := Nat.pow_le_pow_right (by decide) hl
      have e18 : 10 ^ 18 = 1000000000000000000 := by decide
      unfold dval at h1
      omega
    unfold atoiAll
    simp only
    rw [if_neg (by omega)]
    unfold parseMag
    rw [if_neg (by simp), hp]
    simp only
    rw [if_neg (by omega), if_neg (by omega), if_neg (by omega)]
    rfl
theorem occ_one (l : List UInt8) (c : UInt8) (i : Nat) : occAt l [c] i = true ↔ l[i]? = some c := by
  unfold occAt
  rw [List.isPrefixOf_iff_prefix]
  constructor
  · rintro ⟨t, ht⟩
    have : (l.drop i)[0]? = some c := by rw [← ht]; rfl
    rwa [List.getElem?_drop, Nat.add_zero] at this
  · intro h
    obtain ⟨hi, he⟩ := List.getElem?_eq_some_iff.1 h
    rw [List.drop_eq_getElem_cons hi, he]
    exact ⟨_, rfl⟩
end Go.Proofs.YtgeloncilhighaaDoor.Str
end
section
namespace Go.Proofs.YtgeloncilhighaaDoor.Str
open Go.Lib Go.RowKit Go.Proofs.YtgeloncilhighaaDoor.Dec Go.Proofs.YtgeloncilhighaaDoor.Pr Go.Proofs.YtgeloncilhighaaDoor.Ext Go.Proofs.YtgeloncilhighaaDoorW.PrintWords Go.Proofs.YtgeloncilhighaaDoorW.PrintLast Go.Proofs.YtgeloncilhighaaDoorW.PrintMore
set_option linter.unusedVariables false
set_option linter.unusedSimpArgs false
def numOk (l : List UInt8) : Prop := Digs l ∧ l.length ≤ 9 ∧ Canon l
instance (l : List UInt8) : Decidable (numOk l) := inferInstanceAs (Decidable (_ ∧ _))
end Go.Proofs.YtgeloncilhighaaDoor.Str
end
section
namespace Go.Proofs.YtgeloncilhighaaDoor.Str
open Go.Lib Go.RowKit Go.Proofs.YtgeloncilhighaaDoor.Dec Go.Proofs.YtgeloncilhighaaDoor.Cal Go.Proofs.YtgeloncilhighaaDoor.Pr Go.Proofs.YtgeloncilhighaaDoor.Ext Go.Proofs.YtgeloncilhighaaDoorW.PrintWords Go.Proofs.YtgeloncilhighaaDoorW.PrintLast Go.Proofs.YtgeloncilhighaaDoorW.PrintMore
set_option linter.unusedVariables false
set_option linter.unusedSimpArgs false
def IsDay (s : List UInt8) (n : Int) : Prop := ∃ K d, At n K d ∧ s = dayT (K / 12) (K % 12 + 1) d
def ToldD (s : List UInt8) (r : Int × Bool) : Prop := (r.2 = true ∧ 1 ≤ r.1 ∧ r.1 ≤ 3652059 ∧ IsDay s r.1) ∨ (r = (0, false) ∧ ∀ n, ¬ IsDay s n)
theorem parts_eq {a b c : List UInt8} (ha : a.length = 4) (hb : b.length = 2) (hc : c.length = 2) :
    ((((a ++ [45]) ++ b) ++ [45]) ++ c).length = 10 ∧ ((((a ++ [45]) ++ b) ++ [45]) ++ c).take 4 = a ∧ (((((a ++ [45]) ++ b) ++ [45]) ++ c).drop 5).take 2 = b ∧ (((((a ++ [45]) ++ b) ++ [45]) ++ c).drop 8).take 2 = c ∧ ((((a ++ [45]) ++ b) ++ [45]) ++ c).getD 4 0 = 45 ∧ ((((a ++ [45]) ++ b) ++ [45]) ++ c).getD 7 0 = 45 := by
  obtain ⟨a0, a1, a2, a3, rfl⟩ : ∃ a0 a1 a2 a3, a = [a0, a1, a2, a3] := by
    match a, ha with
    | [a0, a1, a2, a3], _ => exact ⟨a0, a1, a2, a3, rfl⟩
  obtain ⟨b0, b1, rfl⟩ : ∃ b0 b1, b = [b0, b1] := by
    match b, hb with
    | [b0, b1], _ => exact ⟨b0, b1, rfl⟩
  obtain ⟨c0, c1, rfl⟩ : ∃ c0 c1, c = [c0, c1] := by
    match c, hc with
    | [c0, c1], _ => exact ⟨c0, c1, rfl⟩
  exact ⟨rfl, rfl, rfl, rfl, rfl, rfl⟩
theorem pads {n K d : Int} (h : At n K d) : (padL (K / 12).toNat 4).length = 4 ∧ (padL (K % 12 + 1).toNat 2).length = 2 ∧ (padL d.toNat 2).length = 2 := by
  obtain ⟨h1, h2, h3, h4, hn⟩ := id h
  have hm := ml_bd K
  exact ⟨padL_len (by decide) (by omega), padL_len (by decide) (by omega), padL_len (by decide) (by omega)⟩
theorem dayT_parts {n K d : Int} (h : At n K d) : (dayT (K / 12) (K % 12 + 1) d).length = 10 ∧ (dayT (K / 12) (K % 12 + 1) d).take 4 = padL (K / 12).toNat 4 ∧ ((dayT (K / 12) (K % 12 + 1) d).drop 5).take 2 = padL (K % 12 + 1).toNat 2 ∧ ((dayT (K / 12) (K % 12 + 1) d).drop 8).take 2 = padL d.toNat 2 ∧ (dayT (K / 12) (K % 12 + 1) d).getD 4 0 = 45 ∧ (dayT (K / 12) (K % 12 + 1) d).getD 7 0 = 45 := by
  obtain ⟨p, q, r⟩ := pads h
  unfold dayT
  exact parts_eq p q r
theorem IsDay.uniq {s : List UInt8} {n n' : Int} (h : IsDay s n) (h' : IsDay s n') : n = n' := by
  obtain ⟨K, d, a, rfl⟩ := h
  obtain ⟨K', d', a', e⟩ := h'
  obtain ⟨_, p, q, r, _⟩ := dayT_parts a
  obtain ⟨_, p', q', r', _⟩ := dayT_parts a'
  rw [e] at p q r
  have e1 := congrArg dval (p.symm.trans p')
  have e2 := congrArg dval (q.symm.trans q')
  have e3 := congrArg dval (r.symm.trans r')
  rw [padL_dval, padL_dval] at e1 e2 e3
  obtain ⟨h1, h2, h3, h4, hn⟩ := a
  obtain ⟨h1', h2', h3', h4', hn'⟩ := a'
  have eK : K = K' := by omega
  subst eK
  omega
theorem dof_day {y m d : Int} (h : dof y m d ≠ 0) : ∃ K, At (dof y m d) K d ∧ K / 12 = y ∧ K % 12 + 1 = m := by
  unfold dof at h ⊢
  split at h
  · rename_i ho
    obtain ⟨⟨h1, h2, h3, h4⟩, h5, h6⟩ := id ho
    rw [if_pos ho]
    exact ⟨12 * y + m - 1, at_ym h1 h2 h3 h4 h5 h6, by omega, by omega⟩
  · exact absurd rfl h
theorem dof_of {n K d : Int} (h : At n K d) : dof (K / 12) (K % 12 + 1) d = n := by
  obtain ⟨h1, h2, h3, h4, hn⟩ := h
  rw [dof_at h1 h2 h3 h4, hn]
theorem split_at {a r : List UInt8} (h : (45 : UInt8) ∉ a) : splitB (str [45]) 0 (countB (str (a ++ 45 :: r)) (str [45])) (str (a ++ 45 :: r)) = str a :: splitB (str [45]) 0 (countB (str r) (str [45])) (str r) := by
  have hi : indexB (str (a ++ 45 :: r)) (str [45]) = (a.length : Nat) := by
    show index (str (a ++ 45 :: r)).data.toList (str [45]).data.toList = _
    rw [str_data, str_data]
    refine index_hit (fun j hj => ?_) (by simp) ?_
    · apply Bool.eq_false_iff.2
      intro ho
      rw [occ_one, List.getElem?_append_left hj] at ho
      exact h (List.mem_of_getElem? ho)
    · rw [occ_one, List.getElem?_append_right (Nat.le_refl _), Nat.sub_self]; rfl
  have he : (str (a ++ 45 :: r)).extract (a.length + (str [45]).size) (str (a ++ 45 :: r)).size = str r := by
    rw [str_extract, str_size, str_size]
    congr 1
    rw [List.length_singleton, List.length_append, List.length_cons, show a ++ 45 :: r = (a ++ [45]) ++ r by simp, show a.length + 1 = (a ++ [45]).length by simp, List.drop_left, List.take_of_length_le]
    simp; omega
  rw [countB_hit _ _ a.length (by rw [str_size]; decide) hi, he, Nat.add_comm 1, splitB_hit _ _ _ _ _ hi, he]
  congr 1
  rw [str_extract]
  simp
theorem split_end {a : List UInt8} (h : (45 : UInt8) ∉ a) : splitB (str [45]) 0 (countB (str a) (str [45])) (str a) = [str a] := by
  refine splitB_miss _ _ _ _ ?_
  show index (str a).data.toList (str [45]).data.toList = _
  rw [str_data, str_data]
  refine index_none (fun j hj => ?_)
  apply Bool.eq_false_iff.2
  intro ho
  rw [occ_one] at ho
  exact h (List.mem_of_getElem? ho)
theorem split_sizes (sep : ByteArray) : ∀ (k : Nat) (s x : ByteArray), x ∈ splitB sep 0 k s → x.size ≤ s.size
  | 0, s, x, h => by rw [splitB_zero, List.mem_singleton] at h; rw [h]; exact Nat.le_refl _
  | k + 1, s, x, h => by
    unfold splitB at h
    split at h
    · rw [List.mem_singleton] at h; rw [h]; exact Nat.le_refl _
    · rcases List.mem_cons.1 h with h | h
      · rw [h, ByteArray.size_extract]; omega
      · have := split_sizes sep k _ x h
        rw [ByteArray.size_extract] at this
        omega
theorem no_dash {l : List UInt8} (h : Digs l) : (45 : UInt8) ∉ l := fun hm => by have := h 45 hm; unfold IsD at this; have e : (45 : UInt8).toNat = 45 := rfl; omega
theorem atoiV_pad {n w : Nat} (hl : (padL n w).length ≤ 18) (h0 : (padL n w).length ≠ 0) : atoiV (padL n w) = (n : Int) := by
  unfold atoiV
  rw [atoiAll_digs (padL_digs n w) (by intro e; rw [e] at h0; exact h0 rfl) hl, padL_dval]
theorem implDayGet (s : List UInt8) (hs : s.length ≤ 4000000000) : ∃ r, (∀ k, 11010 ≤ k → impl_DayGet.f k (str s) = some r) ∧ ToldD s r := by
  have sp : lib_Split.f (str s) (⟨#[45]⟩ : ByteArray) = some (splitB (str [45]) 0 (countB (str s) (str [45])) (str s)) := by
    unfold lib_Split.f
    rw [show (⟨#[45]⟩ : ByteArray) = str [45] from rfl, if_pos ⟨by rw [str_size]; omega, by rw [str_size]; decide⟩]
  by_cases hy : ∃ n, IsDay s n
  · obtain ⟨n, K, d, a, e⟩ := id hy
    obtain ⟨p1, p2, p3⟩ := pads a
    have hb := a.bd
    obtain ⟨a1, a2, a3, a4, a5⟩ := id a
    refine ⟨(n, true), fun k hk => ?_, .inl ⟨rfl, hb.1, hb.2, K, d, a, e⟩⟩
    obtain ⟨k, rfl⟩ : ∃ j, k = j + 1 := ⟨k - 1, by omega⟩
    have hl : s.length = 10 := by rw [e]; exact (dayT_parts a).1
    have e2 : s = padL (K / 12).toNat 4 ++ 45 :: (padL (K % 12 + 1).toNat 2 ++ 45 :: padL d.toNat 2) := by rw [e]; unfold dayT; simp
    have es : splitB (str [45]) 0 (countB (str s) (str [45])) (str s) = [str (padL (K / 12).toNat 4), str (padL (K % 12 + 1).toNat 2), str (padL d.toNat 2)] := by
      rw [e2, split_at (no_dash (padL_digs _ _)), split_at (no_dash (padL_digs _ _)), split_end (no_dash (padL_digs _ _))]
    unfold impl_DayGet.f
    rw [sp, es]; simp only [bS]
    rw [str_size, if_pos (by omega), show (([str (padL (K / 12).toNat 4), str (padL (K % 12 + 1).toNat 2), str (padL d.toNat 2)].length : Int) != 3) = false from rfl, impl_DayGet.j0, if_neg (by decide), if_pos (by simp)]
    rw [show rdOf ByteArray.empty [str (padL (K / 12).toNat 4), str (padL (K % 12 + 1).toNat 2), str (padL d.toNat 2)] 0 = str (padL (K / 12).toNat 4) from rfl, show rdOf ByteArray.empty [str (padL (K / 12).toNat 4), str (padL (K % 12 + 1).toNat 2), str (padL d.toNat 2)] 1 = str (padL (K % 12 + 1).toNat 2) from rfl, show rdOf ByteArray.empty [str (padL (K / 12).toNat 4), str (padL (K % 12 + 1).toNat 2), str (padL d.toNat 2)] 2 = str (padL d.toNat 2) from rfl]
    have hA : ∀ l : List UInt8, l.length ≤ 100 → lib_Atoi.f (str l) = some (atoiV l, true) := fun l h => by
      unfold lib_Atoi.f
      rw [if_pos (by rw [str_size]; omega), str_data]
    rw [hA _ (by omega)]; simp only [bS]
    rw [if_pos (by simp), hA _ (by omega)]; simp only [bS]
    rw [if_pos (by simp), hA _ (by omega)]; simp only [bS]
    rw [atoiV_pad (by omega) (by omega), atoiV_pad (by omega) (by omega), atoiV_pad (by omega) (by omega)]
    rw [show (((K / 12).toNat : Nat) : Int) = K / 12 by omega, show (((K % 12 + 1).toNat : Nat) : Int) = K % 12 + 1 by omega, show ((d.toNat : Nat) : Int) = d by omega, implOf_ge (by omega), dof_of a]; simp only [bS]
    rw [if_neg (by omega), implDayPut a k (by omega)]; simp only [bS]
    rw [← e, if_pos rfl]
  · have no : ∀ n, ¬ IsDay s n := fun n h => hy ⟨n, h⟩
    refine ⟨(0, false), fun k hk => ?_, .inr ⟨rfl, no⟩⟩
    obtain ⟨k, rfl⟩ : ∃ j, k = j + 1 := ⟨k - 1, by omega⟩
    unfold impl_DayGet.f
    rw [sp]; simp only [bS]
    have sz := split_sizes (str [45]) (countB (str s) (str [45])) (str s)
    rw [str_size] at sz
    generalize splitB (str [45]) 0 (countB (str s) (str [45])) (str s) = L at *
    rw [str_size]
    by_cases hl : (s.length : Int) = 10
    · rw [if_pos hl, impl_DayGet.j0]
      by_cases h3 : ((L.length : Int) != 3) = true
      · rw [if_pos h3]
      · rw [if_neg h3]
        have h3' : L.length = 3 := by
          have : ¬ ((L.length : Int) ≠ 3) := fun hne => h3 (bne_iff_ne.2 hne)
          omega
        match L, h3' with
        | [x, y, z], _ =>
          have sx := sz x (by simp)
          have sy := sz y (by simp)
          have sw := sz z (by simp)
          rw [if_pos (by simp)]
          rw [show rdOf ByteArray.empty [x, y, z] 0 = x from rfl, show rdOf ByteArray.empty [x, y, z] 1 = y from rfl, show rdOf ByteArray.empty [x, y, z] 2 = z from rfl]
          unfold lib_Atoi.f
          rw [if_pos (by omega)]; simp only [bS]
          rw [if_pos (by simp), if_pos (by omega)]; simp only [bS]
          rw [if_pos (by simp), if_pos (by omega)]; simp only [bS]
          rw [implOf_ge (by omega)]; simp only [bS]
          by_cases h0 : dof (atoiV x.data.toList) (atoiV y.data.toList) (atoiV z.data.toList) = 0
          · rw [if_pos h0]
          · rw [if_neg h0]
            obtain ⟨K, a, e1, e2⟩ := dof_day h0
            rw [implDayPut a k (by omega)]; simp only [bS]
            rw [if_neg]
            rw [str_toList, str_toList]
            exact fun e => no _ ⟨K, _, a, e.symm⟩
    · rw [if_neg hl, impl_DayGet.j0, if_pos rfl]
end Go.Proofs.YtgeloncilhighaaDoor.Str
end
section
namespace Go.Proofs.YtgeloncilhighaaDoor.Drw
open Go.Lib Go.RowKit Go.Proofs.YtgeloncilhighaaDoor.Dec Go.Proofs.YtgeloncilhighaaDoor.Cal Go.Proofs.YtgeloncilhighaaDoor.Str Go.Proofs.YtgeloncilhighaaDoor.Pr Go.Proofs.YtgeloncilhighaaDoor.Ext Go.Proofs.YtgeloncilhighaaDoorW.PrintWords Go.Proofs.YtgeloncilhighaaDoorW.PrintLast Go.Proofs.YtgeloncilhighaaDoorW.PrintMore
set_option linter.unusedVariables false
set_option linter.unusedSimpArgs false
theorem num_bd {y m d : Int} (h1 : 1 ≤ y) (h2 : y ≤ 9999) (h3 : 1 ≤ m) (h4 : m ≤ 12) (h5 : 1 ≤ d) (h6 : d ≤ ld y m) : 1 ≤ num y m d ∧ num y m d ≤ 3652059 := (at_ym h1 h2 h3 h4 h5 h6).bd
theorem day_any {b : List Int} (hb : BytesOk b) {p : Int} (hp : 0 ≤ p) (hp' : p ≤ 900000) : ∃ n p', (∀ k, 12 ≤ k → spec_l14Day.f k b p = some (n, p')) ∧ p ≤ p' ∧ p' ≤ p + 10 ∧ 1 ≤ n ∧ n ≤ 3652059 := by
  obtain ⟨r, hr, r0, r6⟩ := pick_ge hb hp (by omega) (n := 6) (by omega)
  by_cases h0 : r = 0
  · obtain ⟨x, hx, mx⟩ := one_ge hb (p := p + 1) (by omega) (by omega) (l := [1, 2, 31, 59, 60, 3652059, 3652058, 366]) (by decide)
    simp only [List.mem_cons, List.not_mem_nil, or_false] at mx
    refine ⟨x, p + 1 + 1, fun k hk => ?_, by omega, by omega, by omega, by omega⟩
    unfold spec_l14Day.f
    rw [hr k (by omega)]; simp only [bS]
    rw [if_pos h0, hx k (by omega)]; simp only [bS]
  · by_cases h1 : r = 1
    · obtain ⟨y, hy, my⟩ := one_ge hb (p := p + 1) (by omega) (by omega) (l := [4, 1900, 2000, 2023, 2024, 2100, 9999]) (by decide)
      obtain ⟨m, hm, mm⟩ := one_ge hb (p := p + 1 + 1) (by omega) (by omega) (l := [1, 2, 2, 3, 12]) (by decide)
      simp only [List.mem_cons, List.not_mem_nil, or_false] at my mm
      have hbd := num_bd (y := y) (m := m) (d := 28) (by omega) (by omega) (by omega) (by omega) (by omega) (ld_bd y m).1
      refine ⟨num y m 28, p + 1 + 1 + 1, fun k hk => ?_, by omega, by omega, hbd.1, hbd.2⟩
      unfold spec_l14Day.f
      rw [hr k (by omega)]; simp only [bS]
      rw [if_neg h0, if_pos h1, hy k (by omega)]; simp only [bS]
      rw [hm k (by omega)]; simp only [bS]
      rw [specL3Of_ge hk (by omega) (by omega) (by omega) (by omega) (by omega) (by omega)]; simp only [bS]
    · by_cases h2 : r = 2
      · obtain ⟨y, hy, my⟩ := one_ge hb (p := p + 1) (by omega) (by omega) (l := [4, 2000, 2024, 9996]) (by decide)
        simp only [List.mem_cons, List.not_mem_nil, or_false] at my
        have hbd := num_bd (y := y) (m := 2) (d := 29) (by omega) (by omega) (by omega) (by omega) (by omega) (by rcases my with rfl | rfl | rfl | rfl <;> decide)
        refine ⟨num y 2 29, p + 1 + 1, fun k hk => ?_, by omega, by omega, hbd.1, hbd.2⟩
        unfold spec_l14Day.f
        rw [hr k (by omega)]; simp only [bS]
        rw [if_neg h0, if_neg h1, if_pos h2, hy k (by omega)]; simp only [bS]
        rw [specL3Of_ge hk (by omega) (by omega) (by omega) (by omega) (by omega) (by omega)]; simp only [bS]
      · by_cases h3 : r = 3
        · obtain ⟨y, hy, my⟩ := one_ge hb (p := p + 1) (by omega) (by omega) (l := [1, 2023, 2024, 9999]) (by decide)
          obtain ⟨m, hm, mm⟩ := one_ge hb (p := p + 1 + 1) (by omega) (by omega) (l := [1, 3, 5, 8, 10, 12]) (by decide)
          simp only [List.mem_cons, List.not_mem_nil, or_false] at my mm
          have hbd := num_bd (y := y) (m := m) (d := 31) (by omega) (by omega) (by omega) (by omega) (by omega) (by unfold ld; rw [if_neg (by omega), if_neg (by omega), if_neg (by omega), if_neg (by omega), if_neg (by omega)]; exact Int.le_refl _)
          refine ⟨num y m 31, p + 1 + 1 + 1, fun k hk => ?_, by omega, by omega, hbd.1, hbd.2⟩
          unfold spec_l14Day.f
          rw [hr k (by omega)]; simp only [bS]
          rw [if_neg h0, if_neg h1, if_neg h2, if_pos h3, hy k (by omega)]; simp only [bS]
          rw [hm k (by omega)]; simp only [bS]
          rw [specL3Of_ge hk (by omega) (by omega) (by omega) (by omega) (by omega) (by omega)]; simp only [bS]
        · obtain ⟨a, ha, a0, a1⟩ := pick_ge hb (p := p + 1) (by omega) (by omega) (n := 8) (by omega)
          obtain ⟨c, hc, c0, c1⟩ := pick_ge hb (p := p + 1 + 1) (by omega) (by omega) (n := 12) (by omega)
          obtain ⟨e, he, e0, e1⟩ := pick_ge hb (p := p + 1 + 1 + 1) (by omega) (by omega) (n := 28) (by omega)
          have hbd := num_bd (y := 2020 + a) (m := 1 + c) (d := 1 + e) (by omega) (by omega) (by omega) (by omega) (by omega) (by have := (ld_bd (2020 + a) (1 + c)).1; omega)
          refine ⟨num (2020 + a) (1 + c) (1 + e), p + 1 + 1 + 1 + 1, fun k hk => ?_, by omega, by omega, hbd.1, hbd.2⟩
          unfold spec_l14Day.f
          rw [hr k (by omega)]; simp only [bS]
          rw [if_neg h0, if_neg h1, if_neg h2, if_neg h3, ha k (by omega)]; simp only [bS]
          rw [hc k (by omega)]; simp only [bS]
          rw [he k (by omega)]; simp only [bS]
          rw [Str.w64 (x := 2020 + a) (by omega) (by omega), Str.w64 (x := 1 + c) (by omega) (by omega), Str.w64 (x := 1 + e) (by omega) (by omega), specL3Of_ge hk (by omega) (by omega) (by omega) (by omega) (by omega) (by omega)]
          simp only [bS]
theorem anyDay_any {b : List Int} (hb : BytesOk b) {p : Int} (hp : 0 ≤ p) (hp' : p ≤ 800000) : ∃ n p', (∀ k, 12 ≤ k → spec_l14AnyDay.f k b p = some (n, p')) ∧ p ≤ p' ∧ p' ≤ p + 12 := by
  obtain ⟨r, hr, r0, r6⟩ := pick_ge hb hp (by omega) (n := 20) (by omega)
  by_cases h0 : r = 0
  · obtain ⟨x, hx, _⟩ := one_ge hb (p := p + 1) (by omega) (by omega) (l := [0, (-1), 3652060]) (by decide)
    refine ⟨x, p + 1 + 1, fun k hk => ?_, by omega, by omega⟩
    unfold spec_l14AnyDay.f
    rw [hr k (by omega)]; simp only [bS]
    rw [if_pos h0, hx k (by omega)]; simp only [bS]
  · obtain ⟨n, p', hn, q1, q2, _, _⟩ := day_any hb (p := p + 1) (by omega) (by omega)
    refine ⟨n, p', fun k hk => ?_, by omega, by omega⟩
    unfold spec_l14AnyDay.f
    rw [hr k (by omega)]; simp only [bS]
    rw [if_neg h0, hn k hk]; simp only [bS]
theorem drawDayPut_any {l : List Int} (hl : ∀ x ∈ l, (Lit.int .u8 x).wf = true) : ∃ n, ∀ k, 12 ≤ k → spec_DrawDayPut.f k l = some n := by
  obtain ⟨b, hb, hB⟩ := open_any hl
  obtain ⟨n, q, hs, _⟩ := anyDay_any hB (p := 0) (by omega) (by omega)
  refine ⟨n, fun k hk => ?_⟩
  unfold spec_DrawDayPut.f
  rw [hb]; simp only [bS]
  rw [hs k hk]; simp only [bS]
end Go.Proofs.YtgeloncilhighaaDoor.Drw
end
section
namespace Go.Proofs.YtgeloncilhighaaDoor.Pure
open Go.RowKit Go.Proofs.YtgeloncilhighaaDoor.Pr Go.Proofs.YtgeloncilhighaaDoor.Ext Go.Proofs.YtgeloncilhighaaDoor.Dec Go.Proofs.YtgeloncilhighaaDoor.Cal Go.Proofs.YtgeloncilhighaaDoor.Str Go.Proofs.YtgeloncilhighaaDoor.Drw Go.Proofs.YtgeloncilhighaaDoorW.PrintWords Go.Proofs.YtgeloncilhighaaDoorW.PrintLast Go.Proofs.YtgeloncilhighaaDoorW.PrintMore
set_option linter.unusedVariables false
set_option linter.unusedSimpArgs false
theorem less_cons (a b : UInt8) (x y : List UInt8) : Op.bytesLess (a :: x) (b :: y) = (decide (a < b) || (a == b && Op.bytesLess x y)) := rfl
theorem u8_lt {a b : UInt8} : a < b ↔ a.toNat < b.toNat := Iff.rfl
theorem less_digs : ∀ {a b : List UInt8}, Digs a → Digs b → a.length = b.length → ∀ x y, Op.bytesLess (a ++ x) (b ++ y) = if dval a = dval b then Op.bytesLess x y else decide (dval a < dval b)
  | [], [], _, _, _, x, y => by rw [if_pos rfl]; rfl
  | p :: a, q :: b, ha, hb, hl, x, y => by
    have hl' : a.length = b.length := by simpa using hl
    have ih := less_digs ha.tail hb.tail hl' x y
    have la := dval_lt ha.tail
    have lb := dval_lt hb.tail
    have hp := ha.head
    have hq := hb.head
    unfold IsD at hp hq
    rw [List.cons_append, List.cons_append, less_cons, ih, dval_cons, dval_cons, hl']
    rw [hl'] at la
    have hP : 0 < 10 ^ b.length := Nat.pow_pos (by decide)
    generalize 10 ^ b.length = P at *
    by_cases h1 : p = q
    · subst h1
      have e : decide (p < p) = false := decide_eq_false (by rw [u8_lt]; omega)
      rw [e, Bool.false_or, beq_self_eq_true, Bool.true_and]
      by_cases h2 : dval a = dval b
      · rw [if_pos h2, if_pos (by rw [h2])]
      · rw [if_neg h2, if_neg (by omega)]
        congr 1
        exact propext ⟨fun h => by omega, fun h => by omega⟩
    · have hne : p.toNat ≠ q.toNat := fun e => h1 (UInt8.toNat_inj.1 e)
      have e : (p == q) = false := by rw [beq_eq_false_iff_ne]; exact h1
      rw [e, Bool.false_and, Bool.or_false]
      rcases Nat.lt_or_gt_of_ne hne with h2 | h2
      · have h3 : (p.toNat - 48 + 1) * P ≤ (q.toNat - 48) * P := Nat.mul_le_mul_right _ (by omega)
        rw [Nat.add_mul, Nat.one_mul] at h3
        rw [if_neg (by omega), decide_eq_true (u8_lt.2 h2), decide_eq_true (by omega)]
      · have h3 : (q.toNat - 48 + 1) * P ≤ (p.toNat - 48) * P := Nat.mul_le_mul_right _ (by omega)
        rw [Nat.add_mul, Nat.one_mul] at h3
        rw [if_neg (by omega), decide_eq_false (by rw [u8_lt]; omega), decide_eq_false (by omega)]
theorem less_dash (x y : List UInt8) : Op.bytesLess (45 :: x) (45 :: y) = Op.bytesLess x y := by
  rw [less_cons]
  have e : decide ((45 : UInt8) < 45) = false := by decide
  rw [e, Bool.false_or, beq_self_eq_true, Bool.true_and]
theorem day_less {n K d n' K' d' : Int} (h : At n K d) (h' : At n' K' d') : Op.bytesLess (dayT (K / 12) (K % 12 + 1) d) (dayT (K' / 12) (K' % 12 + 1) d') = decide (n < n') := by
  obtain ⟨p1, p2, p3⟩ := pads h
  obtain ⟨q1, q2, q3⟩ := pads h'
  have hl := h.lt h'
  obtain ⟨h1, h2, h3, h4, hn⟩ := id h
  obtain ⟨h1', h2', h3', h4', hn'⟩ := id h'
  have e : ∀ y m d : Int, dayT y m d = padL y.toNat 4 ++ 45 :: (padL m.toNat 2 ++ 45 :: (padL d.toNat 2 ++ [])) := fun y m d => by unfold dayT; simp
  rw [e, e, less_digs (padL_digs _ _) (padL_digs _ _) (by omega), less_dash, less_digs (padL_digs _ _) (padL_digs _ _) (by omega), less_dash, less_digs (padL_digs _ _) (padL_digs _ _) (by omega)]
  simp only [padL_dval]
  have hnil : Op.bytesLess ([] : List UInt8) [] = false := rfl
  rw [hnil]
  by_cases e1 : (K / 12).toNat = (K' / 12).toNat
  · rw [if_pos e1]
    by_cases e2 : (K % 12 + 1).toNat = (K' % 12 + 1).toNat
    · rw [if_pos e2]
      by_cases e3 : d.toNat = d'.toNat
      · rw [if_pos e3, decide_eq_false (by rw [hl]; omega)]
      · rw [if_neg e3]
        congr 1
        rw [hl]
        exact propext ⟨fun h => by omega, fun h => by omega⟩
    · rw [if_neg e2]
      congr 1
      rw [hl]
      exact propext ⟨fun h => by omega, fun h => by omega⟩
  · rw [if_neg e1]
    congr 1
    rw [hl]
    exact propext ⟨fun h => by omega, fun h => by omega⟩
theorem at_of_text {n : Int} {l : List UInt8} (h : ∀ k, 11000 ≤ k → impl_DayPut.f k n = some (str l)) (hne : l ≠ []) : ∃ K d, At n K d ∧ l = dayT (K / 12) (K % 12 + 1) d := by
  by_cases hb : 1 ≤ n ∧ n ≤ 3652059
  · obtain ⟨K, d, hA⟩ := exists_at hb.1 hb.2
    refine ⟨K, d, hA, ?_⟩
    have := h 11000 (Nat.le_refl _)
    rw [implDayPut hA 11000 (Nat.le_refl _)] at this
    exact (str_inj.1 (Option.some.inj this)).symm
  · exfalso
    have := h 11000 (Nat.le_refl _)
    rw [implDayPut_no hb] at this
    exact hne (str_inj.1 (Option.some.inj this)).symm
theorem FnDayPut {l m : List Int} (hl : ∀ x ∈ l, (Lit.int .u8 x).wf = true) (hm : ∀ x ∈ m, (Lit.int .u8 x).wf = true) : laws_FnDayPut.f 12000 l m = some true := by
  have j1 : ∀ (n n' : Int) (s s' : List UInt8) (b : Bool), (∀ k, 11000 ≤ k → impl_DayPut.f k n = some (str s)) → (∀ k, 11000 ≤ k → spec_DayPut.f k n = some (str s)) → (∀ k, 11000 ≤ k → impl_DayPut.f k n' = some (str s')) →
      (b = true ∨ (s ≠ [] ∧ s' ≠ [])) → laws_FnDayPut.j1 11999 n n' (str s) (str s') b = some true := by
    intro n n' s s' b h1 h2 h3 hb
    rw [laws_FnDayPut.j1]
    by_cases hbt : b = true
    · rw [if_pos hbt, h2 _ (by decide)]; simp only [bS]
      simp
    · rw [if_neg hbt]
      obtain ⟨hs, hs'⟩ := hb.resolve_left hbt
      obtain ⟨K, d, hA, e⟩ := at_of_text h1 hs
      obtain ⟨K', d', hA', e'⟩ := at_of_text h3 hs'
      have ls : s.length = 10 := by rw [e]; exact (dayT_parts hA).1
      obtain ⟨r, hr, tr⟩ := implDayGet s (by omega)
      have hd : IsDay s n := ⟨K, d, hA, e⟩
      rw [hr _ (by decide)]; simp only [bS]
      rcases tr with ⟨t1, _, _, t2⟩ | ⟨_, t2⟩
      · have en := t2.uniq hd
        rw [if_pos t1, if_pos en, str_toList, str_toList, str_size, ls, if_pos (by rw [e, e', day_less hA hA']; simp)]
        rfl
      · exact absurd hd (t2 _)
  have j0 : ∀ b, laws_FnDayPut.j0 12000 l m b = some true := by
    intro b
    rw [laws_FnDayPut.j0]
    by_cases hbt : b = true
    · rw [if_pos hbt]
    · rw [if_neg hbt]
      obtain ⟨n, hn⟩ := drawDayPut_any hl
      obtain ⟨n', hn'⟩ := drawDayPut_any hm
      obtain ⟨s, a1, a2, _⟩ := dayPut_any n
      obtain ⟨s', b1, b2, _⟩ := dayPut_any n'
      rw [hn _ (by decide)]; simp only [bS]
      rw [hn' _ (by decide)]; simp only [bS]
      rw [a1 _ (by decide)]; simp only [bS]
      rw [b1 _ (by decide)]; simp only [bS]
      rw [a2 _ (by decide)]; simp only [bS]
      rw [if_pos trivial, str_toList, str_toList]
      by_cases h : s = []
      · rw [if_pos h]
        exact j1 n n' s s' true a1 a2 b1 (.inl rfl)
      · rw [if_neg h]
        refine j1 n n' s s' _ a1 a2 b1 ?_
        by_cases h' : s' = []
        · left; rw [h']; rfl
        · exact .inr ⟨h, h'⟩
  unfold laws_FnDayPut.f
  split
  · exact j0 true
  · exact j0 _
end Go.Proofs.YtgeloncilhighaaDoor.Pure
end
section
namespace Go.Proofs.YtgeloncilhighaaDoor.LaidE
open Go Go.RowKit Go.Proofs.YtgeloncilhighaaDoor.Ext
set_option linter.unusedVariables false
theorem powType : (Tryd.prog.globals[4]?).map (·.type) = some 123 := by kernel_rfl
theorem powData : (Rows.laid_internal_strconv_uint64pow10 : DataW Unit) = Lib.tabData .u64 Lib.pow10Tab := rfl
theorem envI_of {r : List (String × DataW Unit)} {W : World} (h : laidMet Tryd.prog (("internal/strconv.uint64pow10", Rows.laid_internal_strconv_uint64pow10) :: r) W) : EnvI W :=
  Lib.tabIs_of_head gPow powType Tryd.underlying123 Tryd.underlying102 (by kernel_rfl) (by kernel_rfl) (powData ▸ h)
theorem star : "*" ++ "errors.errorString" = "*errors.errorString" := by decide
theorem rowErr (u : TypeId) (h : Tryd.prog.typeName? 3 u = some "*errors.errorString") : u = 131 :=
  typeName_ptr_named (nm := "errors.errorString") (by rw [star]; kernel_rfl) (by kernel_rfl) (by decide) u (by rw [star]; exact h)
theorem gSyn : Tryd.prog.globalNamed "strconv.ErrSyntax" = some 2 := by kernel_rfl
theorem gRan : Tryd.prog.globalNamed "strconv.ErrRange" = some 3 := by kernel_rfl
theorem gSynType : (Tryd.prog.globals[2]?).map (·.type) = some 57 := by kernel_rfl
theorem gRanType : (Tryd.prog.globals[3]?).map (·.type) = some 57 := by kernel_rfl
theorem cellsE : Tryd.prog.cellsOf 133 = 1 := by kernel_rfl
theorem cellsS : Tryd.prog.cellsOf 9 = 1 := by kernel_rfl
theorem syn_of {r : List (String × DataW Unit)} {W : World} (h : laidMet Tryd.prog (("strconv.ErrSyntax", Rows.laid_strconv_ErrSyntax) :: r) W) : HoldsErr 2 W := by
  obtain ⟨a0, s0, hv0, -, -, -⟩ := laid_sentinel h gSyn gSynType Tryd.underlying57 rowErr Tryd.underlying131 Tryd.underlying133 rfl rfl Tryd.underlying9 cellsE cellsS
  exact ⟨_, by simpa using World.var?_cell gSyn hv0 0, .inr ⟨_, _, rfl⟩⟩
theorem ran_of {r : List (String × DataW Unit)} {W : World} (h : laidMet Tryd.prog (("strconv.ErrRange", Rows.laid_strconv_ErrRange) :: r) W) : HoldsErr 3 W := by
  obtain ⟨a0, s0, hv0, -, -, -⟩ := laid_sentinel h gRan gRanType Tryd.underlying57 rowErr Tryd.underlying131 Tryd.underlying133 rfl rfl Tryd.underlying9 cellsE cellsS
  exact ⟨_, by simpa using World.var?_cell gRan hv0 0, .inr ⟨_, _, rfl⟩⟩
theorem len_of {W : World} (h : W.ShapedOpen Tryd.prog) : ∃ m, W.cell? ⟨1, 0, none⟩ = some (.int .i64 m) :=
  cell_of_shapedOpen_int h (of_decide_eq_true (by kernel_rfl)) (t := 3) (zero := #[.int .i64 0]) (by kernel_rfl) rfl (by kernel_rfl) (by kernel_rfl) Tryd.underlying3
end Go.Proofs.YtgeloncilhighaaDoor.LaidE
end
