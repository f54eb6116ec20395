/- For all codes: what the Go function FnTruthThree returns is what its plain reading says (the contract of the law's function). No condition. -/
import Derived.Test.YtaifkjenoebgiaaPFnTruthThreex0
import Derived.Test.YtaifkjenoebgiaaPFnTruthThreex1
import Derived.Test.YtaifkjenoebgiaaPFnTruthThreex2
namespace Go.Proofs.Ytaifkjenoebgiaa.PFnTruthThree
open Go.RowKit Go.Proofs.YtaifkjenoebgiaaW.PrintWords Go.Proofs.YtaifkjenoebgiaaW.PrintLast Go.Proofs.YtaifkjenoebgiaaW.PrintMore
attribute [local go_sem] max2_int min2_int max_two min_two max_three min_three max_four min_four   -- for this text's walks alone
set_option linter.unusedVariables false
set_option linter.unusedSimpArgs false

/-! ### laws_FnTruthThree: function 14 -/
mutual
def laws_FnTruthThree.j0 : Nat → List Int → List Int → Bool → Option (Bool)
  | 0, _, _, _ => none
  | k + 1, x0, x1, x18 => if x18 = true then (some true) else ((spec_DrawTruthOr.f k x0).bind fun bt142 => ((spec_DrawTruthNot.f k x1).bind fun t144 => ((impl_TruthOr.f k bt142.1 bt142.2).bind fun t145 => ((spec_TruthOr.f k bt142.1 bt142.2).bind fun t146 => (if t145 = t146 then ((impl_TruthNot.f t144).bind fun t147 => ((spec_TruthNot.f t144).bind fun t148 => (if t147 = t148 then (if t145 < 0 then (laws_FnTruthThree.j1 k bt142.1 bt142.2 t144 t145 true) else ((impl_TruthNot.f t144).bind fun t149 => (laws_FnTruthThree.j1 k bt142.1 bt142.2 t144 t145 (decide (t149 < 0))))) else (laws_FnTruthThree.j1 k bt142.1 bt142.2 t144 t145 true)))) else (laws_FnTruthThree.j1 k bt142.1 bt142.2 t144 t145 true))))))
def laws_FnTruthThree.j1 : Nat → Int → Int → Int → Int → Bool → Option (Bool)
  | 0, _, _, _, _, _ => none
  | k + 1, x5, x6, x7, x8, x49 => if x49 = true then ((spec_TruthOr.f k x5 x6).bind fun t150 => (if x8 = t150 then ((impl_TruthNot.f x7).bind fun t151 => ((spec_TruthNot.f x7).bind fun t152 => (some (t151 == t152)))) else (some false))) else ((impl_TruthAnd.f k x8 x7).bind fun t153 => ((impl_TruthAnd.f k x5 x7).bind fun t154 => ((impl_TruthAnd.f k x6 x7).bind fun t155 => ((impl_TruthOr.f k t154 t155).bind fun t156 => (if t153 = t156 then ((impl_TruthOr.f k x8 x7).bind fun t157 => ((impl_TruthOr.f k x6 x7).bind fun t158 => ((impl_TruthOr.f k x5 t158).bind fun t159 => (if t157 = t159 then ((impl_TruthAnd.f k x6 x7).bind fun t160 => ((impl_TruthAnd.f k x5 t160).bind fun t161 => ((impl_TruthAnd.f k x5 x6).bind fun t162 => ((impl_TruthAnd.f k t162 x7).bind fun t163 => (some (t161 == t163)))))) else (some false))))) else (some false))))))
end
def laws_FnTruthThree.f (k : Nat) (l0 : List Int) (l1 : List Int) : Option (Bool) := if (l0.length : Int) > 1048576 then (laws_FnTruthThree.j0 k l0 l1 true) else (laws_FnTruthThree.j0 k l0 l1 (decide ((l1.length : Int) > 1048576)))
theorem laws_FnTruthThree.mono_l : ∀ k, (∀ y0 y1 y2, LeO (laws_FnTruthThree.j0 k y0 y1 y2) (laws_FnTruthThree.j0 (k + 1) y0 y1 y2)) ∧ (∀ y0 y1 y2 y3 y4, LeO (laws_FnTruthThree.j1 k y0 y1 y2 y3 y4) (laws_FnTruthThree.j1 (k + 1) y0 y1 y2 y3 y4))
  | 0 => ⟨fun _ _ _ r h => by simp [laws_FnTruthThree.j0] at h, fun _ _ _ _ _ r h => by simp [laws_FnTruthThree.j1] at h⟩
  | k + 1 => by
    obtain ⟨ih0, ih1⟩ := laws_FnTruthThree.mono_l k
    refine ⟨?_, ?_⟩
    · intro y0 y1 y2
      unfold laws_FnTruthThree.j0
      repeat' first
      | (with_reducible exact ih0 _ _ _)
      | (with_reducible exact ih1 _ _ _ _ _)
      | (with_reducible exact impl_TruthAnd.mono _ _ _)
      | (with_reducible exact impl_TruthOr.mono _ _ _)
      | (with_reducible exact spec_DrawTruthNot.mono _ _)
      | (with_reducible exact spec_DrawTruthOr.mono _ _)
      | (with_reducible exact spec_TruthOr.mono _ _ _)
      | (with_reducible exact LeO.refl _)
      | (with_reducible exact LeO.none _)
      | (with_reducible refine LeO.ite ?_ ?_)
      | (with_reducible refine LeO.bind ?_ (fun _ => ?_))
      | exact ih0 _ _ _
      | exact ih1 _ _ _ _ _
      | exact impl_TruthAnd.mono _ _ _
      | exact impl_TruthOr.mono _ _ _
      | exact spec_DrawTruthNot.mono _ _
      | exact spec_DrawTruthOr.mono _ _
      | exact spec_TruthOr.mono _ _ _
      | exact LeO.none _
      | refine LeO.ite ?_ ?_
      | refine LeO.bind ?_ (fun _ => ?_)
    · intro y0 y1 y2 y3 y4
      unfold laws_FnTruthThree.j1
      repeat' first
      | (with_reducible exact ih0 _ _ _)
      | (with_reducible exact ih1 _ _ _ _ _)
      | (with_reducible exact impl_TruthAnd.mono _ _ _)
      | (with_reducible exact impl_TruthOr.mono _ _ _)
      | (with_reducible exact spec_DrawTruthNot.mono _ _)
      | (with_reducible exact spec_DrawTruthOr.mono _ _)
      | (with_reducible exact spec_TruthOr.mono _ _ _)
      | (with_reducible exact LeO.refl _)
      | (with_reducible exact LeO.none _)
      | (with_reducible refine LeO.ite ?_ ?_)
      | (with_reducible refine LeO.bind ?_ (fun _ => ?_))
      | exact ih0 _ _ _
      | exact ih1 _ _ _ _ _
      | exact impl_TruthAnd.mono _ _ _
      | exact impl_TruthOr.mono _ _ _
      | exact spec_DrawTruthNot.mono _ _
      | exact spec_DrawTruthOr.mono _ _
      | exact spec_TruthOr.mono _ _ _
      | exact LeO.none _
      | refine LeO.ite ?_ ?_
      | refine LeO.bind ?_ (fun _ => ?_)
theorem laws_FnTruthThree.mono : ∀ a0 a1 k, LeO (laws_FnTruthThree.f k a0 a1) (laws_FnTruthThree.f (k + 1) a0 a1) := by
  intro a0 a1 k
  obtain ⟨ih0, ih1⟩ := laws_FnTruthThree.mono_l k
  unfold laws_FnTruthThree.f
  repeat' first
      | (with_reducible exact ih0 _ _ _)
      | (with_reducible exact ih1 _ _ _ _ _)
      | (with_reducible exact impl_TruthAnd.mono _ _ _)
      | (with_reducible exact impl_TruthOr.mono _ _ _)
      | (with_reducible exact spec_DrawTruthNot.mono _ _)
      | (with_reducible exact spec_DrawTruthOr.mono _ _)
      | (with_reducible exact spec_TruthOr.mono _ _ _)
      | (with_reducible exact LeO.refl _)
      | (with_reducible exact LeO.none _)
      | (with_reducible refine LeO.ite ?_ ?_)
      | (with_reducible refine LeO.bind ?_ (fun _ => ?_))
      | exact ih0 _ _ _
      | exact ih1 _ _ _ _ _
      | exact impl_TruthAnd.mono _ _ _
      | exact impl_TruthOr.mono _ _ _
      | exact spec_DrawTruthNot.mono _ _
      | exact spec_DrawTruthOr.mono _ _
      | exact spec_TruthOr.mono _ _ _
      | exact LeO.none _
      | refine LeO.ite ?_ ?_
      | refine LeO.bind ?_ (fun _ => ?_)
set_option maxHeartbeats 8000000 in
set_option maxRecDepth 100000 in
theorem laws_FnTruthThree.calls (k : Nat) (A0 : Option Addr) (c0 : Nat) (l0 : List Int) (A1 : Option Addr) (c1 : Nat) (l1 : List Int) (r : Bool) (w : World) (hr0 : Kd.C (Kd.int .u8) w A0 l0.length l0) (hc0 : l0.length ≤ c0) (hr1 : Kd.C (Kd.int .u8) w A1 l1.length l1) (hc1 : l1.length ≤ c1) (h : laws_FnTruthThree.f k l0 l1 = some r) :
    Calls Try.prog 14 #[.slice A0 l0.length c0, .slice A1 l1.length c1] w fun e w' => e = .returned (.bool r) ∧ Below w.heap.size w w' := by
  have HR0 := Aside0.mk hr0
  have HC0 := Aside0.mk hc0
  clear hr0 hc0
  have HR1 := Aside0.mk hr1
  have HC1 := Aside0.mk hc1
  clear hr1 hc1
  have HB := Aside0.mk (Below.refl w.heap.size w)
  have H : (if (l0.length : Int) > 1048576 then (laws_FnTruthThree.j0 k l0 l1 true) else (laws_FnTruthThree.j0 k l0 l1 (decide ((l1.length : Int) > 1048576)))) = some r := h
  clear h
  have HC3 := Aside0.mk H
  clear H
  go_enter Try.func14, Try.ntmps14
  go_upto_region 1 with (fail)
  go_cut [18] (fun v18 wc => ∃ (kq : Nat) (x18_2 : Bool), v18 = .bool x18_2 ∧ Aside0 (laws_FnTruthThree.j0 kq l0 l1 x18_2 = some r) ∧ Aside0 (kq ≤ k) ∧ Aside0 (Below w.heap.size w wc))
  case first =>
    have H := HC3.out
    clear HC3
    by_cases c4 : (l0.length : Int) > 1048576
    · rw [if_pos c4] at H
      have c4b0 : decide (1048576 < (l0.length : Int)) = true := decide_eq_true c4
      have c4b1 : decide (1048576 < l0.length) = true := decide_eq_true (by omega)
      clear c4
      (first | rw [c4b0] | (simp only [i64_w, i32_w]; rw [c4b0]) | skip)
      have H' := Aside0.mk H
      clear H
      go_wp2
      go_meet
      case rel => exact ⟨_, (true), (by first | rfl | (simp; done) | (simp [*]; done)), H', ⟨by first | omega | exact Nat.le_refl _⟩, ⟨by repeat (first | (with_reducible first | exact HB.out | apply below_alloc | apply pw_below_drewN | apply below_drew1) | exact HB.out)⟩⟩
    · rw [if_neg c4] at H
      have c4b0 : decide (1048576 < (l0.length : Int)) = false := decide_eq_false c4
      have c4b1 : decide (1048576 < l0.length) = false := decide_eq_false (by omega)
      clear c4
      (first | rw [c4b0] | (simp only [i64_w, i32_w]; rw [c4b0]) | skip)
      have H' := Aside0.mk H
      clear H
      go_wp2
      go_meet
      case rel => exact ⟨_, (decide ((l1.length : Int) > 1048576)), (by first | rfl | (simp; done) | (simp [*]; done)), H', ⟨by first | omega | exact Nat.le_refl _⟩, ⟨by repeat (first | (with_reducible first | exact HB.out | apply below_alloc | apply pw_below_drewN | apply below_drew1) | exact HB.out)⟩⟩
  case rest =>
    clear HC3
    try clear c1
    try clear p2
    try clear c4
    try clear c4b0
    try clear c4b1
    obtain ⟨kq, x18_2, rfl, HA, HJ2, HB⟩ := hcut
    cases kq with
    | zero => exact absurd HA.out (by simp [laws_FnTruthThree.j0])
    | succ kj2 =>
      have H := HA.out
      clear HA
      simp only [laws_FnTruthThree.j0] at H
      by_cases c5 : x18_2 = true
      · subst c5
        have H1 : (some true) = some r := by rw [if_pos rfl] at H; exact H
        clear H
        have H := H1
        clear H1
        obtain rfl := Option.some.inj H
        go_wp2
        go_ret
        exact ⟨by first | rfl | (simp [errW_none, errW_some] <;> rfl) | (simp [*, errW_none, errW_some] <;> rfl), by repeat (first | (with_reducible first | exact HB.out | apply below_alloc | apply pw_below_drewN | apply below_drew1) | exact HB.out)⟩
      · replace c5 := Bool.eq_false_iff.mpr c5
        subst c5
        have H1 : ((spec_DrawTruthOr.f kj2 l0).bind fun bt142 => ((spec_DrawTruthNot.f kj2 l1).bind fun t144 => ((impl_TruthOr.f kj2 bt142.1 bt142.2).bind fun t145 => ((spec_TruthOr.f kj2 bt142.1 bt142.2).bind fun t146 => (if t145 = t146 then ((impl_TruthNot.f t144).bind fun t147 => ((spec_TruthNot.f t144).bind fun t148 => (if t147 = t148 then (if t145 < 0 then (laws_FnTruthThree.j1 kj2 bt142.1 bt142.2 t144 t145 true) else ((impl_TruthNot.f t144).bind fun t149 => (laws_FnTruthThree.j1 kj2 bt142.1 bt142.2 t144 t145 (decide (t149 < 0))))) else (laws_FnTruthThree.j1 kj2 bt142.1 bt142.2 t144 t145 true)))) else (laws_FnTruthThree.j1 kj2 bt142.1 bt142.2 t144 t145 true)))))) = some r := by rw [if_neg (show ¬ (false = true) by decide)] at H; exact H
        clear H
        have H := H1
        clear H1
        replace H := Option.bind_eq_some_iff.mp H
        obtain ⟨⟨t142, t143⟩, A60, H⟩ := H
        replace H : ((spec_DrawTruthNot.f kj2 l1).bind fun t144 => ((impl_TruthOr.f kj2 t142 t143).bind fun t145 => ((spec_TruthOr.f kj2 t142 t143).bind fun t146 => (if t145 = t146 then ((impl_TruthNot.f t144).bind fun t147 => ((spec_TruthNot.f t144).bind fun t148 => (if t147 = t148 then (if t145 < 0 then (laws_FnTruthThree.j1 kj2 t142 t143 t144 t145 true) else ((impl_TruthNot.f t144).bind fun t149 => (laws_FnTruthThree.j1 kj2 t142 t143 t144 t145 (decide (t149 < 0))))) else (laws_FnTruthThree.j1 kj2 t142 t143 t144 t145 true)))) else (laws_FnTruthThree.j1 kj2 t142 t143 t144 t145 true))))) = some r := H
        have A6 := Aside0.mk A60
        clear A60
        replace H := Option.bind_eq_some_iff.mp H
        obtain ⟨t144, A70, H⟩ := H
        replace H : ((impl_TruthOr.f kj2 t142 t143).bind fun t145 => ((spec_TruthOr.f kj2 t142 t143).bind fun t146 => (if t145 = t146 then ((impl_TruthNot.f t144).bind fun t147 => ((spec_TruthNot.f t144).bind fun t148 => (if t147 = t148 then (if t145 < 0 then (laws_FnTruthThree.j1 kj2 t142 t143 t144 t145 true) else ((impl_TruthNot.f t144).bind fun t149 => (laws_FnTruthThree.j1 kj2 t142 t143 t144 t145 (decide (t149 < 0))))) else (laws_FnTruthThree.j1 kj2 t142 t143 t144 t145 true)))) else (laws_FnTruthThree.j1 kj2 t142 t143 t144 t145 true)))) = some r := H
        have A7 := Aside0.mk A70
        clear A70
        replace H := Option.bind_eq_some_iff.mp H
        obtain ⟨t145, A80, H⟩ := H
        replace H : ((spec_TruthOr.f kj2 t142 t143).bind fun t146 => (if t145 = t146 then ((impl_TruthNot.f t144).bind fun t147 => ((spec_TruthNot.f t144).bind fun t148 => (if t147 = t148 then (if t145 < 0 then (laws_FnTruthThree.j1 kj2 t142 t143 t144 t145 true) else ((impl_TruthNot.f t144).bind fun t149 => (laws_FnTruthThree.j1 kj2 t142 t143 t144 t145 (decide (t149 < 0))))) else (laws_FnTruthThree.j1 kj2 t142 t143 t144 t145 true)))) else (laws_FnTruthThree.j1 kj2 t142 t143 t144 t145 true))) = some r := H
        have A8 := Aside0.mk A80
        clear A80
        have HC9 := Aside0.mk H
        clear H
        go_upto_region 6 with (first | ((with_reducible refine gate_callee (f := 35) rfl ?_); refine goesL_ (some 21) rfl rfl Try.func35 (by kernel_rfl) rfl #[.slice A0 l0.length c0] rfl (by (try simp only [List.map_toArray, List.map_cons, List.map_nil]); first | done | rfl | (simp only [List.length_drop, List.length_take]; rfl)) ?_; (with_reducible refine (spec_DrawTruthOr.calls kj2 _ _ l0 t142 t143 _ ?side1 ?side2 A6.out).mono ?_); (case side1 => repeat (first | exact (Kd.C_below HR0.out HB.out) | (with_reducible refine Kd.C_alloc ?_ _) | (with_reducible refine Kd.C_drewN ?_ _) | (with_reducible refine Kd.C_drew ?_))); (case side2 => exact HC0.out); rintro e w10 ⟨rfl, hb⟩; refine ⟨_, rfl, ?_⟩; have n0_ := Aside0.mk (below_step (by repeat (first | (with_reducible first | exact HB.out | apply below_alloc | apply pw_below_drewN | apply below_drew1) | exact HB.out)) hb); clear HB; have HB := n0_; clear n0_; (try clear hb); (try clear hb2); (try clear hk); (try clear hi)) | ((with_reducible refine gate_callee (f := 36) rfl ?_); refine goesL_ (some 25) rfl rfl Try.func36 (by kernel_rfl) rfl #[.slice A1 l1.length c1] rfl (by (try simp only [List.map_toArray, List.map_cons, List.map_nil]); first | done | rfl | (simp only [List.length_drop, List.length_take]; rfl)) ?_; (with_reducible refine (spec_DrawTruthNot.calls kj2 _ _ l1 t144 _ ?side1 ?side2 A7.out).mono ?_); (case side1 => repeat (first | exact (Kd.C_below HR1.out HB.out) | (with_reducible refine Kd.C_alloc ?_ _) | (with_reducible refine Kd.C_drewN ?_ _) | (with_reducible refine Kd.C_drew ?_))); (case side2 => exact HC1.out); rintro e w11 ⟨rfl, hb⟩; refine ⟨_, rfl, ?_⟩; have n0_ := Aside0.mk (below_step (by repeat (first | (with_reducible first | exact HB.out | apply below_alloc | apply pw_below_drewN | apply below_drew1) | exact HB.out)) hb); clear HB; have HB := n0_; clear n0_; (try clear hb); (try clear hb2); (try clear hk); (try clear hi)) | ((with_reducible refine gate_callee (f := 30) rfl ?_); refine goesL_ (some 28) rfl rfl Try.func30 (by kernel_rfl) rfl #[.int .i64 t142, .int .i64 t143] rfl (by (try simp only [List.map_toArray, List.map_cons, List.map_nil]); first | done | rfl | (simp only [List.length_drop, List.length_take]; rfl)) ?_; (with_reducible refine (impl_TruthOr.calls kj2 t142 t143 t145 _ A8.out).mono ?_); rintro e w' ⟨rfl, ⟨nd, rfl⟩⟩; refine ⟨_, rfl, ?_⟩))
        (try simp only [Act.put, List.setIfInBounds_toArray, List.set_cons_zero, List.set_cons_succ])
        go_cut [49] (fun v49 wc => ∃ (kq : Nat) (x49_8 : Bool), v49 = .bool x49_8 ∧ Aside0 (laws_FnTruthThree.j1 kq t142 t143 t144 t145 x49_8 = some r) ∧ Aside0 (kq ≤ kj2) ∧ Aside0 (Below w.heap.size w wc))
        case first =>
          have H := HC9.out
          clear HC9
          replace H := Option.bind_eq_some_iff.mp H
          obtain ⟨t146, A120, H⟩ := H
          replace H : (if t145 = t146 then ((impl_TruthNot.f t144).bind fun t147 => ((spec_TruthNot.f t144).bind fun t148 => (if t147 = t148 then (if t145 < 0 then (laws_FnTruthThree.j1 kj2 t142 t143 t144 t145 true) else ((impl_TruthNot.f t144).bind fun t149 => (laws_FnTruthThree.j1 kj2 t142 t143 t144 t145 (decide (t149 < 0))))) else (laws_FnTruthThree.j1 kj2 t142 t143 t144 t145 true)))) else (laws_FnTruthThree.j1 kj2 t142 t143 t144 t145 true)) = some r := H
          have A12 := Aside0.mk A120
          clear A120
          by_cases c13 : t145 = t146
          · rw [if_pos c13] at H
            have c13b0 : (t145 == t146) = true := beq_iff_eq.mpr c13
            have c13b1 : (t145 != t146) = false := bne_eq_false_iff_eq.mpr c13
            clear c13
            (first | rw [c13b0] | (simp only [i64_w, i32_w]; rw [c13b0]) | skip)
            replace H := Option.bind_eq_some_iff.mp H
            obtain ⟨t147, A140, H⟩ := H
            replace H : ((spec_TruthNot.f t144).bind fun t148 => (if t147 = t148 then (if t145 < 0 then (laws_FnTruthThree.j1 kj2 t142 t143 t144 t145 true) else ((impl_TruthNot.f t144).bind fun t149 => (laws_FnTruthThree.j1 kj2 t142 t143 t144 t145 (decide (t149 < 0))))) else (laws_FnTruthThree.j1 kj2 t142 t143 t144 t145 true))) = some r := H
            have A14 := Aside0.mk A140
            clear A140
            replace H := Option.bind_eq_some_iff.mp H
            obtain ⟨t148, A150, H⟩ := H
            replace H : (if t147 = t148 then (if t145 < 0 then (laws_FnTruthThree.j1 kj2 t142 t143 t144 t145 true) else ((impl_TruthNot.f t144).bind fun t149 => (laws_FnTruthThree.j1 kj2 t142 t143 t144 t145 (decide (t149 < 0))))) else (laws_FnTruthThree.j1 kj2 t142 t143 t144 t145 true)) = some r := H
            have A15 := Aside0.mk A150
            clear A150
            by_cases c16 : t147 = t148
            · rw [if_pos c16] at H
              have c16b0 : (t147 == t148) = true := beq_iff_eq.mpr c16
              have c16b1 : (t147 != t148) = false := bne_eq_false_iff_eq.mpr c16
              clear c16
              by_cases c17 : t145 < 0
              · rw [if_pos c17] at H
                have c17b0 : decide (t145 < 0) = true := decide_eq_true c17
                clear c17
                have H' := Aside0.mk H
                clear H
                go_wp2_with (first | ((with_reducible refine gate_callee (f := 29) rfl ?_); refine goesL_ (some 32) rfl rfl Try.func29 (by kernel_rfl) rfl #[.int .i64 t142, .int .i64 t143] rfl (by (try simp only [List.map_toArray, List.map_cons, List.map_nil]); first | done | rfl | (simp only [List.length_drop, List.length_take]; rfl)) ?_; (with_reducible refine (spec_TruthOr.calls kj2 t142 t143 t146 _ A12.out).mono ?_); rintro e w' ⟨rfl, ⟨nd, rfl⟩⟩; refine ⟨_, rfl, ?_⟩) | (go_at_call 21; (with_reducible refine (impl_TruthNot.calls t144 t147 _ A14.out).mono ?_); rintro e w' ⟨rfl, ⟨nd, rfl⟩⟩) | (go_at_call 20; (with_reducible refine (spec_TruthNot.calls t144 t148 _ A15.out).mono ?_); rintro e w' ⟨rfl, ⟨nd, rfl⟩⟩))
                go_meet
                case rel => exact ⟨_, (true), (by first | rfl | (simp; done) | (simp [*]; done)), H', ⟨by have := HJ2.out; first | omega | exact Nat.le_refl _⟩, ⟨by repeat (first | (with_reducible first | exact HB.out | apply below_alloc | apply pw_below_drewN | apply below_drew1) | exact HB.out)⟩⟩
              · rw [if_neg c17] at H
                have c17b0 : decide (t145 < 0) = false := decide_eq_false c17
                clear c17
                replace H := Option.bind_eq_some_iff.mp H
                obtain ⟨t149, A180, H⟩ := H
                have E149 : Aside0 (t149 = t147) := Aside0.mk (by have q := A14.out; rw [A180] at q; exact Option.some.inj q)
                replace H : (laws_FnTruthThree.j1 kj2 t142 t143 t144 t145 (decide (t149 < 0))) = some r := H
                have A18 := Aside0.mk A180
                clear A180
                have H' := Aside0.mk H
                clear H
                go_wp2_with (first | ((with_reducible refine gate_callee (f := 29) rfl ?_); refine goesL_ (some 32) rfl rfl Try.func29 (by kernel_rfl) rfl #[.int .i64 t142, .int .i64 t143] rfl (by (try simp only [List.map_toArray, List.map_cons, List.map_nil]); first | done | rfl | (simp only [List.length_drop, List.length_take]; rfl)) ?_; (with_reducible refine (spec_TruthOr.calls kj2 t142 t143 t146 _ A12.out).mono ?_); rintro e w' ⟨rfl, ⟨nd, rfl⟩⟩; refine ⟨_, rfl, ?_⟩) | (go_at_call 21; (with_reducible refine (impl_TruthNot.calls t144 t147 _ A14.out).mono ?_); rintro e w' ⟨rfl, ⟨nd, rfl⟩⟩) | (go_at_call 20; (with_reducible refine (spec_TruthNot.calls t144 t148 _ A15.out).mono ?_); rintro e w' ⟨rfl, ⟨nd, rfl⟩⟩) | (go_at_call 21; (with_reducible refine (impl_TruthNot.calls t144 t149 _ A18.out).mono ?_); rintro e w' ⟨rfl, ⟨nd, rfl⟩⟩))
                go_meet
                case rel => exact ⟨_, (decide (t149 < 0)), (by rw [E149.out]), H', ⟨by have := HJ2.out; first | omega | exact Nat.le_refl _⟩, ⟨by repeat (first | (with_reducible first | exact HB.out | apply below_alloc | apply pw_below_drewN | apply below_drew1) | exact HB.out)⟩⟩
            · rw [if_neg c16] at H
              have c16b0 : (t147 == t148) = false := beq_eq_false_iff_ne.mpr c16
              have c16b1 : (t147 != t148) = true := bne_iff_ne.mpr c16
              have H' := Aside0.mk H
              clear H
              go_wp2_with (first | ((with_reducible refine gate_callee (f := 29) rfl ?_); refine goesL_ (some 32) rfl rfl Try.func29 (by kernel_rfl) rfl #[.int .i64 t142, .int .i64 t143] rfl (by (try simp only [List.map_toArray, List.map_cons, List.map_nil]); first | done | rfl | (simp only [List.length_drop, List.length_take]; rfl)) ?_; (with_reducible refine (spec_TruthOr.calls kj2 t142 t143 t146 _ A12.out).mono ?_); rintro e w' ⟨rfl, ⟨nd, rfl⟩⟩; refine ⟨_, rfl, ?_⟩) | (go_at_call 21; (with_reducible refine (impl_TruthNot.calls t144 t147 _ A14.out).mono ?_); rintro e w' ⟨rfl, ⟨nd, rfl⟩⟩) | (go_at_call 20; (with_reducible refine (spec_TruthNot.calls t144 t148 _ A15.out).mono ?_); rintro e w' ⟨rfl, ⟨nd, rfl⟩⟩))
              go_meet
              case rel => exact ⟨_, (true), (by first | rfl | (simp; done) | (simp [*]; done)), H', ⟨by have := HJ2.out; first | omega | exact Nat.le_refl _⟩, ⟨by repeat (first | (with_reducible first | exact HB.out | apply below_alloc | apply pw_below_drewN | apply below_drew1) | exact HB.out)⟩⟩
          · rw [if_neg c13] at H
            have c13b0 : (t145 == t146) = false := beq_eq_false_iff_ne.mpr c13
            have c13b1 : (t145 != t146) = true := bne_iff_ne.mpr c13
            (first | rw [c13b0] | (simp only [i64_w, i32_w]; rw [c13b0]) | skip)
            have H' := Aside0.mk H
            clear H
            go_wp2_with (first | ((with_reducible refine gate_callee (f := 29) rfl ?_); refine goesL_ (some 32) rfl rfl Try.func29 (by kernel_rfl) rfl #[.int .i64 t142, .int .i64 t143] rfl (by (try simp only [List.map_toArray, List.map_cons, List.map_nil]); first | done | rfl | (simp only [List.length_drop, List.length_take]; rfl)) ?_; (with_reducible refine (spec_TruthOr.calls kj2 t142 t143 t146 _ A12.out).mono ?_); rintro e w' ⟨rfl, ⟨nd, rfl⟩⟩; refine ⟨_, rfl, ?_⟩))
            go_meet
            case rel => exact ⟨_, (true), (by first | rfl | (simp; done) | (simp [*]; done)), H', ⟨by have := HJ2.out; first | omega | exact Nat.le_refl _⟩, ⟨by repeat (first | (with_reducible first | exact HB.out | apply below_alloc | apply pw_below_drewN | apply below_drew1) | exact HB.out)⟩⟩
        case rest =>
          clear HC9
          try clear c1
          try clear c2
          try clear p2
          try clear c3
          try clear c4
          try clear c4b0
          try clear c4b1
          try clear c5
          try clear c13
          try clear c13b0
          try clear c13b1
          try clear c14
          try clear c16
          try clear c16b0
          try clear c16b1
          try clear c17
          try clear c17b0
          try clear p2
          obtain ⟨kq, x49_8, rfl, HA, HJ8, HB⟩ := hcut
          cases kq with
          | zero => exact absurd HA.out (by simp [laws_FnTruthThree.j1])
          | succ kj8 =>
            have H := HA.out
            clear HA
            simp only [laws_FnTruthThree.j1] at H
            by_cases c19 : x49_8 = true
            · subst c19
              have H1 : ((spec_TruthOr.f kj8 t142 t143).bind fun t150 => (if t145 = t150 then ((impl_TruthNot.f t144).bind fun t151 => ((spec_TruthNot.f t144).bind fun t152 => (some (t151 == t152)))) else (some false))) = some r := by rw [if_pos rfl] at H; exact H
              clear H
              have H := H1
              clear H1
              replace H := Option.bind_eq_some_iff.mp H
              obtain ⟨t150, A200, H⟩ := H
              replace H : (if t145 = t150 then ((impl_TruthNot.f t144).bind fun t151 => ((spec_TruthNot.f t144).bind fun t152 => (some (t151 == t152)))) else (some false)) = some r := H
              have A20 := Aside0.mk A200
              clear A200
              by_cases c21 : t145 = t150
              · rw [if_pos c21] at H
                have c21b0 : (t145 == t150) = true := beq_iff_eq.mpr c21
                have c21b1 : (t145 != t150) = false := bne_eq_false_iff_eq.mpr c21
                clear c21
                replace H := Option.bind_eq_some_iff.mp H
                obtain ⟨t151, A220, H⟩ := H
                replace H : ((spec_TruthNot.f t144).bind fun t152 => (some (t151 == t152))) = some r := H
                have A22 := Aside0.mk A220
                clear A220
                replace H := Option.bind_eq_some_iff.mp H
                obtain ⟨t152, A230, H⟩ := H
                replace H : (some (t151 == t152)) = some r := H
                have A23 := Aside0.mk A230
                clear A230
                obtain rfl := Option.some.inj H
                go_wp2_with (first | ((with_reducible refine gate_callee (f := 29) rfl ?_); refine goesL_ (some 53) rfl rfl Try.func29 (by kernel_rfl) rfl #[.int .i64 t142, .int .i64 t143] rfl (by (try simp only [List.map_toArray, List.map_cons, List.map_nil]); first | done | rfl | (simp only [List.length_drop, List.length_take]; rfl)) ?_; (with_reducible refine (spec_TruthOr.calls kj8 t142 t143 t150 _ A20.out).mono ?_); rintro e w' ⟨rfl, ⟨nd, rfl⟩⟩; refine ⟨_, rfl, ?_⟩) | (go_at_call 21; (with_reducible refine (impl_TruthNot.calls t144 t151 _ A22.out).mono ?_); rintro e w' ⟨rfl, ⟨nd, rfl⟩⟩) | (go_at_call 20; (with_reducible refine (spec_TruthNot.calls t144 t152 _ A23.out).mono ?_); rintro e w' ⟨rfl, ⟨nd, rfl⟩⟩))
                go_ret
                exact ⟨by first | rfl | (simp [errW_none, errW_some] <;> rfl) | (simp [*, errW_none, errW_some] <;> rfl), by repeat (first | (with_reducible first | exact HB.out | apply below_alloc | apply pw_below_drewN | apply below_drew1) | exact HB.out)⟩
              · rw [if_neg c21] at H
                have c21b0 : (t145 == t150) = false := beq_eq_false_iff_ne.mpr c21
                have c21b1 : (t145 != t150) = true := bne_iff_ne.mpr c21
                obtain rfl := Option.some.inj H
                go_wp2_with (first | ((with_reducible refine gate_callee (f := 29) rfl ?_); refine goesL_ (some 53) rfl rfl Try.func29 (by kernel_rfl) rfl #[.int .i64 t142, .int .i64 t143] rfl (by (try simp only [List.map_toArray, List.map_cons, List.map_nil]); first | done | rfl | (simp only [List.length_drop, List.length_take]; rfl)) ?_; (with_reducible refine (spec_TruthOr.calls kj8 t142 t143 t150 _ A20.out).mono ?_); rintro e w' ⟨rfl, ⟨nd, rfl⟩⟩; refine ⟨_, rfl, ?_⟩))
                go_ret
                exact ⟨by first | rfl | (simp [errW_none, errW_some] <;> rfl) | (simp [*, errW_none, errW_some] <;> rfl), by repeat (first | (with_reducible first | exact HB.out | apply below_alloc | apply pw_below_drewN | apply below_drew1) | exact HB.out)⟩
            · replace c19 := Bool.eq_false_iff.mpr c19
              subst c19
              have H1 : ((impl_TruthAnd.f kj8 t145 t144).bind fun t153 => ((impl_TruthAnd.f kj8 t142 t144).bind fun t154 => ((impl_TruthAnd.f kj8 t143 t144).bind fun t155 => ((impl_TruthOr.f kj8 t154 t155).bind fun t156 => (if t153 = t156 then ((impl_TruthOr.f kj8 t145 t144).bind fun t157 => ((impl_TruthOr.f kj8 t143 t144).bind fun t158 => ((impl_TruthOr.f kj8 t142 t158).bind fun t159 => (if t157 = t159 then ((impl_TruthAnd.f kj8 t143 t144).bind fun t160 => ((impl_TruthAnd.f kj8 t142 t160).bind fun t161 => ((impl_TruthAnd.f kj8 t142 t143).bind fun t162 => ((impl_TruthAnd.f kj8 t162 t144).bind fun t163 => (some (t161 == t163)))))) else (some false))))) else (some false)))))) = some r := by rw [if_neg (show ¬ (false = true) by decide)] at H; exact H
              clear H
              have H := H1
              clear H1
              replace H := Option.bind_eq_some_iff.mp H
              obtain ⟨t153, A240, H⟩ := H
              replace H : ((impl_TruthAnd.f kj8 t142 t144).bind fun t154 => ((impl_TruthAnd.f kj8 t143 t144).bind fun t155 => ((impl_TruthOr.f kj8 t154 t155).bind fun t156 => (if t153 = t156 then ((impl_TruthOr.f kj8 t145 t144).bind fun t157 => ((impl_TruthOr.f kj8 t143 t144).bind fun t158 => ((impl_TruthOr.f kj8 t142 t158).bind fun t159 => (if t157 = t159 then ((impl_TruthAnd.f kj8 t143 t144).bind fun t160 => ((impl_TruthAnd.f kj8 t142 t160).bind fun t161 => ((impl_TruthAnd.f kj8 t142 t143).bind fun t162 => ((impl_TruthAnd.f kj8 t162 t144).bind fun t163 => (some (t161 == t163)))))) else (some false))))) else (some false))))) = some r := H
              have A24 := Aside0.mk A240
              clear A240
              replace H := Option.bind_eq_some_iff.mp H
              obtain ⟨t154, A250, H⟩ := H
              replace H : ((impl_TruthAnd.f kj8 t143 t144).bind fun t155 => ((impl_TruthOr.f kj8 t154 t155).bind fun t156 => (if t153 = t156 then ((impl_TruthOr.f kj8 t145 t144).bind fun t157 => ((impl_TruthOr.f kj8 t143 t144).bind fun t158 => ((impl_TruthOr.f kj8 t142 t158).bind fun t159 => (if t157 = t159 then ((impl_TruthAnd.f kj8 t143 t144).bind fun t160 => ((impl_TruthAnd.f kj8 t142 t160).bind fun t161 => ((impl_TruthAnd.f kj8 t142 t143).bind fun t162 => ((impl_TruthAnd.f kj8 t162 t144).bind fun t163 => (some (t161 == t163)))))) else (some false))))) else (some false)))) = some r := H
              have A25 := Aside0.mk A250
              clear A250
              replace H := Option.bind_eq_some_iff.mp H
              obtain ⟨t155, A260, H⟩ := H
              replace H : ((impl_TruthOr.f kj8 t154 t155).bind fun t156 => (if t153 = t156 then ((impl_TruthOr.f kj8 t145 t144).bind fun t157 => ((impl_TruthOr.f kj8 t143 t144).bind fun t158 => ((impl_TruthOr.f kj8 t142 t158).bind fun t159 => (if t157 = t159 then ((impl_TruthAnd.f kj8 t143 t144).bind fun t160 => ((impl_TruthAnd.f kj8 t142 t160).bind fun t161 => ((impl_TruthAnd.f kj8 t142 t143).bind fun t162 => ((impl_TruthAnd.f kj8 t162 t144).bind fun t163 => (some (t161 == t163)))))) else (some false))))) else (some false))) = some r := H
              have A26 := Aside0.mk A260
              clear A260
              replace H := Option.bind_eq_some_iff.mp H
              obtain ⟨t156, A270, H⟩ := H
              replace H : (if t153 = t156 then ((impl_TruthOr.f kj8 t145 t144).bind fun t157 => ((impl_TruthOr.f kj8 t143 t144).bind fun t158 => ((impl_TruthOr.f kj8 t142 t158).bind fun t159 => (if t157 = t159 then ((impl_TruthAnd.f kj8 t143 t144).bind fun t160 => ((impl_TruthAnd.f kj8 t142 t160).bind fun t161 => ((impl_TruthAnd.f kj8 t142 t143).bind fun t162 => ((impl_TruthAnd.f kj8 t162 t144).bind fun t163 => (some (t161 == t163)))))) else (some false))))) else (some false)) = some r := H
              have A27 := Aside0.mk A270
              clear A270
              by_cases c28 : t153 = t156
              · rw [if_pos c28] at H
                have c28b0 : (t153 == t156) = true := beq_iff_eq.mpr c28
                have c28b1 : (t153 != t156) = false := bne_eq_false_iff_eq.mpr c28
                clear c28
                replace H := Option.bind_eq_some_iff.mp H
                obtain ⟨t157, A290, H⟩ := H
                replace H : ((impl_TruthOr.f kj8 t143 t144).bind fun t158 => ((impl_TruthOr.f kj8 t142 t158).bind fun t159 => (if t157 = t159 then ((impl_TruthAnd.f kj8 t143 t144).bind fun t160 => ((impl_TruthAnd.f kj8 t142 t160).bind fun t161 => ((impl_TruthAnd.f kj8 t142 t143).bind fun t162 => ((impl_TruthAnd.f kj8 t162 t144).bind fun t163 => (some (t161 == t163)))))) else (some false)))) = some r := H
                have A29 := Aside0.mk A290
                clear A290
                replace H := Option.bind_eq_some_iff.mp H
                obtain ⟨t158, A300, H⟩ := H
                replace H : ((impl_TruthOr.f kj8 t142 t158).bind fun t159 => (if t157 = t159 then ((impl_TruthAnd.f kj8 t143 t144).bind fun t160 => ((impl_TruthAnd.f kj8 t142 t160).bind fun t161 => ((impl_TruthAnd.f kj8 t142 t143).bind fun t162 => ((impl_TruthAnd.f kj8 t162 t144).bind fun t163 => (some (t161 == t163)))))) else (some false))) = some r := H
                have A30 := Aside0.mk A300
                clear A300
                replace H := Option.bind_eq_some_iff.mp H
                obtain ⟨t159, A310, H⟩ := H
                replace H : (if t157 = t159 then ((impl_TruthAnd.f kj8 t143 t144).bind fun t160 => ((impl_TruthAnd.f kj8 t142 t160).bind fun t161 => ((impl_TruthAnd.f kj8 t142 t143).bind fun t162 => ((impl_TruthAnd.f kj8 t162 t144).bind fun t163 => (some (t161 == t163)))))) else (some false)) = some r := H
                have A31 := Aside0.mk A310
                clear A310
                by_cases c32 : t157 = t159
                · rw [if_pos c32] at H
                  have c32b0 : (t157 == t159) = true := beq_iff_eq.mpr c32
                  have c32b1 : (t157 != t159) = false := bne_eq_false_iff_eq.mpr c32
                  clear c32
                  replace H := Option.bind_eq_some_iff.mp H
                  obtain ⟨t160, A330, H⟩ := H
                  replace H : ((impl_TruthAnd.f kj8 t142 t160).bind fun t161 => ((impl_TruthAnd.f kj8 t142 t143).bind fun t162 => ((impl_TruthAnd.f kj8 t162 t144).bind fun t163 => (some (t161 == t163))))) = some r := H
                  have A33 := Aside0.mk A330
                  clear A330
                  replace H := Option.bind_eq_some_iff.mp H
                  obtain ⟨t161, A340, H⟩ := H
                  replace H : ((impl_TruthAnd.f kj8 t142 t143).bind fun t162 => ((impl_TruthAnd.f kj8 t162 t144).bind fun t163 => (some (t161 == t163)))) = some r := H
                  have A34 := Aside0.mk A340
                  clear A340
                  replace H := Option.bind_eq_some_iff.mp H
                  obtain ⟨t162, A350, H⟩ := H
                  replace H : ((impl_TruthAnd.f kj8 t162 t144).bind fun t163 => (some (t161 == t163))) = some r := H
                  have A35 := Aside0.mk A350
                  clear A350
                  replace H := Option.bind_eq_some_iff.mp H
                  obtain ⟨t163, A360, H⟩ := H
                  replace H : (some (t161 == t163)) = some r := H
                  have A36 := Aside0.mk A360
                  clear A360
                  obtain rfl := Option.some.inj H
                  go_wp2_with (first | ((with_reducible refine gate_callee (f := 26) rfl ?_); refine goesL_ (some 64) rfl rfl Try.func26 (by kernel_rfl) rfl #[.int .i64 t145, .int .i64 t144] rfl (by (try simp only [List.map_toArray, List.map_cons, List.map_nil]); first | done | rfl | (simp only [List.length_drop, List.length_take]; rfl)) ?_; (with_reducible refine (impl_TruthAnd.calls kj8 t145 t144 t153 _ A24.out).mono ?_); rintro e w' ⟨rfl, ⟨nd, rfl⟩⟩; refine ⟨_, rfl, ?_⟩) | ((with_reducible refine gate_callee (f := 26) rfl ?_); refine goesL_ (some 67) rfl rfl Try.func26 (by kernel_rfl) rfl #[.int .i64 t142, .int .i64 t144] rfl (by (try simp only [List.map_toArray, List.map_cons, List.map_nil]); first | done | rfl | (simp only [List.length_drop, List.length_take]; rfl)) ?_; (with_reducible refine (impl_TruthAnd.calls kj8 t142 t144 t154 _ A25.out).mono ?_); rintro e w' ⟨rfl, ⟨nd, rfl⟩⟩; refine ⟨_, rfl, ?_⟩) | ((with_reducible refine gate_callee (f := 26) rfl ?_); refine goesL_ (some 70) rfl rfl Try.func26 (by kernel_rfl) rfl #[.int .i64 t143, .int .i64 t144] rfl (by (try simp only [List.map_toArray, List.map_cons, List.map_nil]); first | done | rfl | (simp only [List.length_drop, List.length_take]; rfl)) ?_; (with_reducible refine (impl_TruthAnd.calls kj8 t143 t144 t155 _ A26.out).mono ?_); rintro e w' ⟨rfl, ⟨nd, rfl⟩⟩; refine ⟨_, rfl, ?_⟩) | ((with_reducible refine gate_callee (f := 30) rfl ?_); refine goesL_ (some 71) rfl rfl Try.func30 (by kernel_rfl) rfl #[.int .i64 t154, .int .i64 t155] rfl (by (try simp only [List.map_toArray, List.map_cons, List.map_nil]); first | done | rfl | (simp only [List.length_drop, List.length_take]; rfl)) ?_; (with_reducible refine (impl_TruthOr.calls kj8 t154 t155 t156 _ A27.out).mono ?_); rintro e w' ⟨rfl, ⟨nd, rfl⟩⟩; refine ⟨_, rfl, ?_⟩) | (go_at_call 30; (with_reducible refine (impl_TruthOr.calls kj8 t145 t144 t157 _ A29.out).mono ?_); rintro e w' ⟨rfl, ⟨nd, rfl⟩⟩) | (go_at_call 30; (with_reducible refine (impl_TruthOr.calls kj8 t143 t144 t158 _ A30.out).mono ?_); rintro e w' ⟨rfl, ⟨nd, rfl⟩⟩) | (go_at_call 30; (with_reducible refine (impl_TruthOr.calls kj8 t142 t158 t159 _ A31.out).mono ?_); rintro e w' ⟨rfl, ⟨nd, rfl⟩⟩) | (go_at_call 26; (with_reducible refine (impl_TruthAnd.calls kj8 t143 t144 t160 _ A33.out).mono ?_); rintro e w' ⟨rfl, ⟨nd, rfl⟩⟩) | (go_at_call 26; (with_reducible refine (impl_TruthAnd.calls kj8 t142 t160 t161 _ A34.out).mono ?_); rintro e w' ⟨rfl, ⟨nd, rfl⟩⟩) | (go_at_call 26; (with_reducible refine (impl_TruthAnd.calls kj8 t142 t143 t162 _ A35.out).mono ?_); rintro e w' ⟨rfl, ⟨nd, rfl⟩⟩) | (go_at_call 26; (with_reducible refine (impl_TruthAnd.calls kj8 t162 t144 t163 _ A36.out).mono ?_); rintro e w' ⟨rfl, ⟨nd, rfl⟩⟩))
                  go_ret
                  exact ⟨by first | rfl | (simp [errW_none, errW_some] <;> rfl) | (simp [*, errW_none, errW_some] <;> rfl), by repeat (first | (with_reducible first | exact HB.out | apply below_alloc | apply pw_below_drewN | apply below_drew1) | exact HB.out)⟩
                · rw [if_neg c32] at H
                  have c32b0 : (t157 == t159) = false := beq_eq_false_iff_ne.mpr c32
                  have c32b1 : (t157 != t159) = true := bne_iff_ne.mpr c32
                  obtain rfl := Option.some.inj H
                  go_wp2_with (first | ((with_reducible refine gate_callee (f := 26) rfl ?_); refine goesL_ (some 64) rfl rfl Try.func26 (by kernel_rfl) rfl #[.int .i64 t145, .int .i64 t144] rfl (by (try simp only [List.map_toArray, List.map_cons, List.map_nil]); first | done | rfl | (simp only [List.length_drop, List.length_take]; rfl)) ?_; (with_reducible refine (impl_TruthAnd.calls kj8 t145 t144 t153 _ A24.out).mono ?_); rintro e w' ⟨rfl, ⟨nd, rfl⟩⟩; refine ⟨_, rfl, ?_⟩) | ((with_reducible refine gate_callee (f := 26) rfl ?_); refine goesL_ (some 67) rfl rfl Try.func26 (by kernel_rfl) rfl #[.int .i64 t142, .int .i64 t144] rfl (by (try simp only [List.map_toArray, List.map_cons, List.map_nil]); first | done | rfl | (simp only [List.length_drop, List.length_take]; rfl)) ?_; (with_reducible refine (impl_TruthAnd.calls kj8 t142 t144 t154 _ A25.out).mono ?_); rintro e w' ⟨rfl, ⟨nd, rfl⟩⟩; refine ⟨_, rfl, ?_⟩) | ((with_reducible refine gate_callee (f := 26) rfl ?_); refine goesL_ (some 70) rfl rfl Try.func26 (by kernel_rfl) rfl #[.int .i64 t143, .int .i64 t144] rfl (by (try simp only [List.map_toArray, List.map_cons, List.map_nil]); first | done | rfl | (simp only [List.length_drop, List.length_take]; rfl)) ?_; (with_reducible refine (impl_TruthAnd.calls kj8 t143 t144 t155 _ A26.out).mono ?_); rintro e w' ⟨rfl, ⟨nd, rfl⟩⟩; refine ⟨_, rfl, ?_⟩) | ((with_reducible refine gate_callee (f := 30) rfl ?_); refine goesL_ (some 71) rfl rfl Try.func30 (by kernel_rfl) rfl #[.int .i64 t154, .int .i64 t155] rfl (by (try simp only [List.map_toArray, List.map_cons, List.map_nil]); first | done | rfl | (simp only [List.length_drop, List.length_take]; rfl)) ?_; (with_reducible refine (impl_TruthOr.calls kj8 t154 t155 t156 _ A27.out).mono ?_); rintro e w' ⟨rfl, ⟨nd, rfl⟩⟩; refine ⟨_, rfl, ?_⟩) | (go_at_call 30; (with_reducible refine (impl_TruthOr.calls kj8 t145 t144 t157 _ A29.out).mono ?_); rintro e w' ⟨rfl, ⟨nd, rfl⟩⟩) | (go_at_call 30; (with_reducible refine (impl_TruthOr.calls kj8 t143 t144 t158 _ A30.out).mono ?_); rintro e w' ⟨rfl, ⟨nd, rfl⟩⟩) | (go_at_call 30; (with_reducible refine (impl_TruthOr.calls kj8 t142 t158 t159 _ A31.out).mono ?_); rintro e w' ⟨rfl, ⟨nd, rfl⟩⟩))
                  go_ret
                  exact ⟨by first | rfl | (simp [errW_none, errW_some] <;> rfl) | (simp [*, errW_none, errW_some] <;> rfl), by repeat (first | (with_reducible first | exact HB.out | apply below_alloc | apply pw_below_drewN | apply below_drew1) | exact HB.out)⟩
              · rw [if_neg c28] at H
                have c28b0 : (t153 == t156) = false := beq_eq_false_iff_ne.mpr c28
                have c28b1 : (t153 != t156) = true := bne_iff_ne.mpr c28
                obtain rfl := Option.some.inj H
                go_wp2_with (first | ((with_reducible refine gate_callee (f := 26) rfl ?_); refine goesL_ (some 64) rfl rfl Try.func26 (by kernel_rfl) rfl #[.int .i64 t145, .int .i64 t144] rfl (by (try simp only [List.map_toArray, List.map_cons, List.map_nil]); first | done | rfl | (simp only [List.length_drop, List.length_take]; rfl)) ?_; (with_reducible refine (impl_TruthAnd.calls kj8 t145 t144 t153 _ A24.out).mono ?_); rintro e w' ⟨rfl, ⟨nd, rfl⟩⟩; refine ⟨_, rfl, ?_⟩) | ((with_reducible refine gate_callee (f := 26) rfl ?_); refine goesL_ (some 67) rfl rfl Try.func26 (by kernel_rfl) rfl #[.int .i64 t142, .int .i64 t144] rfl (by (try simp only [List.map_toArray, List.map_cons, List.map_nil]); first | done | rfl | (simp only [List.length_drop, List.length_take]; rfl)) ?_; (with_reducible refine (impl_TruthAnd.calls kj8 t142 t144 t154 _ A25.out).mono ?_); rintro e w' ⟨rfl, ⟨nd, rfl⟩⟩; refine ⟨_, rfl, ?_⟩) | ((with_reducible refine gate_callee (f := 26) rfl ?_); refine goesL_ (some 70) rfl rfl Try.func26 (by kernel_rfl) rfl #[.int .i64 t143, .int .i64 t144] rfl (by (try simp only [List.map_toArray, List.map_cons, List.map_nil]); first | done | rfl | (simp only [List.length_drop, List.length_take]; rfl)) ?_; (with_reducible refine (impl_TruthAnd.calls kj8 t143 t144 t155 _ A26.out).mono ?_); rintro e w' ⟨rfl, ⟨nd, rfl⟩⟩; refine ⟨_, rfl, ?_⟩) | ((with_reducible refine gate_callee (f := 30) rfl ?_); refine goesL_ (some 71) rfl rfl Try.func30 (by kernel_rfl) rfl #[.int .i64 t154, .int .i64 t155] rfl (by (try simp only [List.map_toArray, List.map_cons, List.map_nil]); first | done | rfl | (simp only [List.length_drop, List.length_take]; rfl)) ?_; (with_reducible refine (impl_TruthOr.calls kj8 t154 t155 t156 _ A27.out).mono ?_); rintro e w' ⟨rfl, ⟨nd, rfl⟩⟩; refine ⟨_, rfl, ?_⟩))
                go_ret
                exact ⟨by first | rfl | (simp [errW_none, errW_some] <;> rfl) | (simp [*, errW_none, errW_some] <;> rfl), by repeat (first | (with_reducible first | exact HB.out | apply below_alloc | apply pw_below_drewN | apply below_drew1) | exact HB.out)⟩

/-- THE ONE PURE STATEMENT of laws_FnTruthThree: yours. -/
def laws_FnTruthThree.Pure : Prop := ∀ (l0 : List Int) (l1 : List Int), l0.length ≤ maxLen → l0.length * 1 ≤ 140737488351232 → (∀ x ∈ l0, (Lit.int .u8 x).wf = true) → l1.length ≤ maxLen → l1.length * 1 ≤ 140737488351232 → (∀ x ∈ l1, (Lit.int .u8 x).wf = true) → ∃ k, laws_FnTruthThree.f k l0 l1 = some true
theorem laws_FnTruthThree.walk (P : laws_FnTruthThree.Pure) (a0 : Option Addr) (len0 cap0 : Nat) (z0 : List Int) (a1 : Option Addr) (len1 cap1 : Nat) (z1 : List Int) (w : World) (w0 : (a0 = none ∧ len0 = 0 ∧ cap0 = 0 ∧ z0 = []) ∨ ∃ x, a0 = some x ∧ len0 ≤ cap0 ∧ cap0 ≤ maxLen ∧ z0.length = cap0 ∧ (∀ i, i < z0.length → w.cell? (x.add i) = some (.int .u8 (z0.getD i 0))) ∧ ∀ n ∈ z0, (Lit.int .u8 n).wf = true) (y0 : len0 * 1 ≤ 140737488351232) (w1 : (a1 = none ∧ len1 = 0 ∧ cap1 = 0 ∧ z1 = []) ∨ ∃ x, a1 = some x ∧ len1 ≤ cap1 ∧ cap1 ≤ maxLen ∧ z1.length = cap1 ∧ (∀ i, i < z1.length → w.cell? (x.add i) = some (.int .u8 (z1.getD i 0))) ∧ ∀ n ∈ z1, (Lit.int .u8 n).wf = true) (y1 : len1 * 1 ≤ 140737488351232) :
    Calls Try.prog 14 #[.slice a0 len0 cap0, .slice a1 len1 cap1] w fun e w' => e = .returned (.bool true) ∧ Below w.heap.size w w' := by
  obtain ⟨l0, rfl, hr0, hm0, hw0, hc0⟩ := ReadsInt.ofRowC w0
  obtain ⟨l1, rfl, hr1, hm1, hw1, hc1⟩ := ReadsInt.ofRowC w1
  obtain ⟨k, h⟩ := P l0 l1 hm0 y0 hw0 hm1 y1 hw1
  refine (laws_FnTruthThree.calls k _ _ l0 _ _ l1 true w (Kd.C_of_reads (d := (0 : Int)) (h1 := fun _ => rfl) hr0) hc0 (Kd.C_of_reads (d := (0 : Int)) (h1 := fun _ => rfl) hr1) hc1 h).mono ?_
  rintro e w' ⟨rfl, hd⟩
  exact ⟨rfl, hd⟩

end Go.Proofs.Ytaifkjenoebgiaa.PFnTruthThree
