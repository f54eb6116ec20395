-- PRINTED BY print.sh 35421559b90ae4d0a3588c463048766b98c2df88dd9212a6774a882060cdf62d: not written by this session
import Derived.Test.YtabjadjcecnicaaPFnDayPartsx0
import Derived.Test.YtabjadjcecnicaaPFnDayPartsx1
import Derived.Test.YtabjadjcecnicaaPFnDayPartsx2
import Derived.Test.YtabjadjcecnicaaPFnDayPartsx3
namespace Go.Proofs.Ytabjadjcecnicaa.PFnDayParts
open Go.RowKit Go.Proofs.YtabjadjcecnicaaW.PrintWords Go.Proofs.YtabjadjcecnicaaW.PrintLast Go.Proofs.YtabjadjcecnicaaW.PrintMore
attribute [local go_sem] max2_int min2_int max_two min_two max_three min_three max_four min_four   -- for this text's walks alone
set_option linter.unusedVariables false
set_option linter.unusedSimpArgs false

/-! ### laws_FnDayParts: function 6 -/
mutual
def laws_FnDayParts.j0 : Nat → List Int → List Int → Bool → Option (Bool)
  | 0, _, _, _ => none
  | k + 1, x0, x1, x29 => if x29 = true then (some true) else ((spec_DrawDayParts.f k x0).bind fun t217 => ((impl_DayParts.f k t217).bind fun bt218 => ((spec_DayParts.f k t217).bind fun bt222 => (if (bt218.2.2.2 != bt222.2.2.2) = true then (laws_FnDayParts.j1 k x1 true) else (if bt218.1 = bt222.1 then (if bt218.2.1 = bt222.2.1 then (if bt218.2.2.1 = bt222.2.2.1 then (if bt218.2.2.2 = true then ((impl_DayOf.f k bt218.1 bt218.2.1 bt218.2.2.1).bind fun t226 => (laws_FnDayParts.j1 k x1 (t226 != t217))) else (laws_FnDayParts.j1 k x1 false)) else (laws_FnDayParts.j1 k x1 true)) else (laws_FnDayParts.j1 k x1 true)) else (laws_FnDayParts.j1 k x1 true))))))
def laws_FnDayParts.j1 : Nat → List Int → Bool → Option (Bool)
  | 0, _, _ => none
  | k + 1, x1, x74 => if x74 = true then (some false) else ((spec_DrawDayOf.f k x1).bind fun bt227 => ((impl_DayOf.f k bt227.1 bt227.2.1 bt227.2.2).bind fun t230 => ((impl_DayParts.f k t230).bind fun bt231 => ((spec_DayOf.f k bt227.1 bt227.2.1 bt227.2.2).bind fun t235 => (if t230 = t235 then (if (bt231.2.2.2 == (decide (t230 > 0))) = true then (if bt231.2.2.2 = true then (if bt231.1 = bt227.1 then (if bt231.2.1 = bt227.2.1 then (if bt231.2.2.1 = bt227.2.2 then (if bt227.2.2 ≥ 1 then ((impl_DayLast.f k bt227.1 bt227.2.1).bind fun t236 => (some (bt231.2.2.2 == (decide (bt227.2.2 ≤ t236))))) else (some (bt231.2.2.2 == false))) else (some false)) else (some false)) else (some false)) else (if bt227.2.2 ≥ 1 then ((impl_DayLast.f k bt227.1 bt227.2.1).bind fun t237 => (some (bt231.2.2.2 == (decide (bt227.2.2 ≤ t237))))) else (some (bt231.2.2.2 == false)))) else (some false)) else (some false))))))
end
def laws_FnDayParts.f (k : Nat) (l0 : List Int) (l1 : List Int) : Option (Bool) := if (l0.length : Int) > 1048576 then (laws_FnDayParts.j0 k l0 l1 true) else (laws_FnDayParts.j0 k l0 l1 (decide ((l1.length : Int) > 1048576)))
theorem laws_FnDayParts.mono_l : ∀ k, (∀ y0 y1 y2, LeO (laws_FnDayParts.j0 k y0 y1 y2) (laws_FnDayParts.j0 (k + 1) y0 y1 y2)) ∧ (∀ y0 y1, LeO (laws_FnDayParts.j1 k y0 y1) (laws_FnDayParts.j1 (k + 1) y0 y1))
  | 0 => ⟨fun _ _ _ r h => by simp [laws_FnDayParts.j0] at h, fun _ _ r h => by simp [laws_FnDayParts.j1] at h⟩
  | k + 1 => by
    obtain ⟨ih0, ih1⟩ := laws_FnDayParts.mono_l k
    refine ⟨?_, ?_⟩
    · intro y0 y1 y2
      unfold laws_FnDayParts.j0
      repeat' first
      | (with_reducible exact ih0 _ _ _)
      | (with_reducible exact ih1 _ _)
      | (with_reducible exact impl_DayLast.mono _ _ _)
      | (with_reducible exact impl_DayOf.mono _ _ _ _)
      | (with_reducible exact impl_DayParts.mono _ _)
      | (with_reducible exact spec_DayOf.mono _ _ _ _)
      | (with_reducible exact spec_DayParts.mono _ _)
      | (with_reducible exact spec_DrawDayOf.mono _ _)
      | (with_reducible exact spec_DrawDayParts.mono _ _)
      | (with_reducible exact LeO.refl _)
      | (with_reducible exact LeO.none _)
      | (with_reducible refine LeO.ite ?_ ?_)
      | (with_reducible refine LeO.bind ?_ (fun _ => ?_))
      | exact ih0 _ _ _
      | exact ih1 _ _
      | exact impl_DayLast.mono _ _ _
      | exact impl_DayOf.mono _ _ _ _
      | exact impl_DayParts.mono _ _
      | exact spec_DayOf.mono _ _ _ _
      | exact spec_DayParts.mono _ _
      | exact spec_DrawDayOf.mono _ _
      | exact spec_DrawDayParts.mono _ _
      | exact LeO.none _
      | refine LeO.ite ?_ ?_
      | refine LeO.bind ?_ (fun _ => ?_)
    · intro y0 y1
      unfold laws_FnDayParts.j1
      repeat' first
      | (with_reducible exact ih0 _ _ _)
      | (with_reducible exact ih1 _ _)
      | (with_reducible exact impl_DayLast.mono _ _ _)
      | (with_reducible exact impl_DayOf.mono _ _ _ _)
      | (with_reducible exact impl_DayParts.mono _ _)
      | (with_reducible exact spec_DayOf.mono _ _ _ _)
      | (with_reducible exact spec_DayParts.mono _ _)
      | (with_reducible exact spec_DrawDayOf.mono _ _)
      | (with_reducible exact spec_DrawDayParts.mono _ _)
      | (with_reducible exact LeO.refl _)
      | (with_reducible exact LeO.none _)
      | (with_reducible refine LeO.ite ?_ ?_)
      | (with_reducible refine LeO.bind ?_ (fun _ => ?_))
      | exact ih0 _ _ _
      | exact ih1 _ _
      | exact impl_DayLast.mono _ _ _
      | exact impl_DayOf.mono _ _ _ _
      | exact impl_DayParts.mono _ _
      | exact spec_DayOf.mono _ _ _ _
      | exact spec_DayParts.mono _ _
      | exact spec_DrawDayOf.mono _ _
      | exact spec_DrawDayParts.mono _ _
      | exact LeO.none _
      | refine LeO.ite ?_ ?_
      | refine LeO.bind ?_ (fun _ => ?_)
theorem laws_FnDayParts.mono : ∀ a0 a1 k, LeO (laws_FnDayParts.f k a0 a1) (laws_FnDayParts.f (k + 1) a0 a1) := by
  intro a0 a1 k
  obtain ⟨ih0, ih1⟩ := laws_FnDayParts.mono_l k
  unfold laws_FnDayParts.f
  repeat' first
      | (with_reducible exact ih0 _ _ _)
      | (with_reducible exact ih1 _ _)
      | (with_reducible exact impl_DayLast.mono _ _ _)
      | (with_reducible exact impl_DayOf.mono _ _ _ _)
      | (with_reducible exact impl_DayParts.mono _ _)
      | (with_reducible exact spec_DayOf.mono _ _ _ _)
      | (with_reducible exact spec_DayParts.mono _ _)
      | (with_reducible exact spec_DrawDayOf.mono _ _)
      | (with_reducible exact spec_DrawDayParts.mono _ _)
      | (with_reducible exact LeO.refl _)
      | (with_reducible exact LeO.none _)
      | (with_reducible refine LeO.ite ?_ ?_)
      | (with_reducible refine LeO.bind ?_ (fun _ => ?_))
      | exact ih0 _ _ _
      | exact ih1 _ _
      | exact impl_DayLast.mono _ _ _
      | exact impl_DayOf.mono _ _ _ _
      | exact impl_DayParts.mono _ _
      | exact spec_DayOf.mono _ _ _ _
      | exact spec_DayParts.mono _ _
      | exact spec_DrawDayOf.mono _ _
      | exact spec_DrawDayParts.mono _ _
      | exact LeO.none _
      | refine LeO.ite ?_ ?_
      | refine LeO.bind ?_ (fun _ => ?_)
set_option maxHeartbeats 8000000 in
set_option maxRecDepth 100000 in
theorem laws_FnDayParts.calls (k : Nat) (A0 : Option Addr) (c0 : Nat) (l0 : List Int) (A1 : Option Addr) (c1 : Nat) (l1 : List Int) (r : Bool) (w : World) (hr0 : Kd.C (Kd.int .u8) w A0 l0.length l0) (hc0 : l0.length ≤ c0) (hr1 : Kd.C (Kd.int .u8) w A1 l1.length l1) (hc1 : l1.length ≤ c1) (h : laws_FnDayParts.f k l0 l1 = some r) :
    Calls Try.prog 6 #[.slice A0 l0.length c0, .slice A1 l1.length c1] w fun e w' => e = .returned (.bool r) ∧ Below w.heap.size w w' := by
  have HR0 := Aside0.mk hr0
  have HC0 := Aside0.mk hc0
  clear hr0 hc0
  have HR1 := Aside0.mk hr1
  have HC1 := Aside0.mk hc1
  clear hr1 hc1
  have HB := Aside0.mk (Below.refl w.heap.size w)
  have H : (if (l0.length : Int) > 1048576 then (laws_FnDayParts.j0 k l0 l1 true) else (laws_FnDayParts.j0 k l0 l1 (decide ((l1.length : Int) > 1048576)))) = some r := h
  clear h
  have HC3 := Aside0.mk H
  clear H
  go_enter Try.func6, Try.ntmps6
  go_upto_region 1 with (fail)
  go_cut [29] (fun v29 wc => ∃ (kq : Nat) (x29_2 : Bool), v29 = .bool x29_2 ∧ Aside0 (laws_FnDayParts.j0 kq l0 l1 x29_2 = some r) ∧ Aside0 (kq ≤ k) ∧ Aside0 (Below w.heap.size w wc))
  case first =>
    have H := HC3.out
    clear HC3
    by_cases c4 : (l0.length : Int) > 1048576
    · rw [if_pos c4] at H
      have c4b0 : decide (1048576 < (l0.length : Int)) = true := decide_eq_true c4
      have c4b1 : decide (1048576 < l0.length) = true := decide_eq_true (by omega)
      clear c4
      (first | rw [c4b0] | (simp only [i64_w, i32_w]; rw [c4b0]) | skip)
      have H' := Aside0.mk H
      clear H
      go_wp2
      go_meet
      case rel => exact ⟨_, (true), (by first | rfl | (simp; done) | (simp [*]; done)), H', ⟨by first | omega | exact Nat.le_refl _⟩, ⟨by repeat (first | (with_reducible first | exact HB.out | apply below_alloc | apply pw_below_drewN | apply below_drew1) | exact HB.out)⟩⟩
    · rw [if_neg c4] at H
      have c4b0 : decide (1048576 < (l0.length : Int)) = false := decide_eq_false c4
      have c4b1 : decide (1048576 < l0.length) = false := decide_eq_false (by omega)
      clear c4
      (first | rw [c4b0] | (simp only [i64_w, i32_w]; rw [c4b0]) | skip)
      have H' := Aside0.mk H
      clear H
      go_wp2
      go_meet
      case rel => exact ⟨_, (decide ((l1.length : Int) > 1048576)), (by first | rfl | (simp; done) | (simp [*]; done)), H', ⟨by first | omega | exact Nat.le_refl _⟩, ⟨by repeat (first | (with_reducible first | exact HB.out | apply below_alloc | apply pw_below_drewN | apply below_drew1) | exact HB.out)⟩⟩
  case rest =>
    clear HC3
    try clear c1
    try clear p2
    try clear c4
    try clear c4b0
    try clear c4b1
    obtain ⟨kq, x29_2, rfl, HA, HJ2, HB⟩ := hcut
    cases kq with
    | zero => exact absurd HA.out (by simp [laws_FnDayParts.j0])
    | succ kj2 =>
      have H := HA.out
      clear HA
      simp only [laws_FnDayParts.j0] at H
      by_cases c5 : x29_2 = true
      · subst c5
        have H1 : (some true) = some r := by rw [if_pos rfl] at H; exact H
        clear H
        have H := H1
        clear H1
        obtain rfl := Option.some.inj H
        go_wp2
        go_ret
        exact ⟨by first | rfl | (simp [errW_none, errW_some] <;> rfl) | (simp [*, errW_none, errW_some] <;> rfl), by repeat (first | (with_reducible first | exact HB.out | apply below_alloc | apply pw_below_drewN | apply below_drew1) | exact HB.out)⟩
      · replace c5 := Bool.eq_false_iff.mpr c5
        subst c5
        have H1 : ((spec_DrawDayParts.f kj2 l0).bind fun t217 => ((impl_DayParts.f kj2 t217).bind fun bt218 => ((spec_DayParts.f kj2 t217).bind fun bt222 => (if (bt218.2.2.2 != bt222.2.2.2) = true then (laws_FnDayParts.j1 kj2 l1 true) else (if bt218.1 = bt222.1 then (if bt218.2.1 = bt222.2.1 then (if bt218.2.2.1 = bt222.2.2.1 then (if bt218.2.2.2 = true then ((impl_DayOf.f kj2 bt218.1 bt218.2.1 bt218.2.2.1).bind fun t226 => (laws_FnDayParts.j1 kj2 l1 (t226 != t217))) else (laws_FnDayParts.j1 kj2 l1 false)) else (laws_FnDayParts.j1 kj2 l1 true)) else (laws_FnDayParts.j1 kj2 l1 true)) else (laws_FnDayParts.j1 kj2 l1 true)))))) = some r := by rw [if_neg (show ¬ (false = true) by decide)] at H; exact H
        clear H
        have H := H1
        clear H1
        replace H := Option.bind_eq_some_iff.mp H
        obtain ⟨t217, A60, H⟩ := H
        replace H : ((impl_DayParts.f kj2 t217).bind fun bt218 => ((spec_DayParts.f kj2 t217).bind fun bt222 => (if (bt218.2.2.2 != bt222.2.2.2) = true then (laws_FnDayParts.j1 kj2 l1 true) else (if bt218.1 = bt222.1 then (if bt218.2.1 = bt222.2.1 then (if bt218.2.2.1 = bt222.2.2.1 then (if bt218.2.2.2 = true then ((impl_DayOf.f kj2 bt218.1 bt218.2.1 bt218.2.2.1).bind fun t226 => (laws_FnDayParts.j1 kj2 l1 (t226 != t217))) else (laws_FnDayParts.j1 kj2 l1 false)) else (laws_FnDayParts.j1 kj2 l1 true)) else (laws_FnDayParts.j1 kj2 l1 true)) else (laws_FnDayParts.j1 kj2 l1 true))))) = some r := H
        have A6 := Aside0.mk A60
        clear A60
        replace H := Option.bind_eq_some_iff.mp H
        obtain ⟨⟨t218, t219, t220, t221⟩, A70, H⟩ := H
        replace H : ((spec_DayParts.f kj2 t217).bind fun bt222 => (if (t221 != bt222.2.2.2) = true then (laws_FnDayParts.j1 kj2 l1 true) else (if t218 = bt222.1 then (if t219 = bt222.2.1 then (if t220 = bt222.2.2.1 then (if t221 = true then ((impl_DayOf.f kj2 t218 t219 t220).bind fun t226 => (laws_FnDayParts.j1 kj2 l1 (t226 != t217))) else (laws_FnDayParts.j1 kj2 l1 false)) else (laws_FnDayParts.j1 kj2 l1 true)) else (laws_FnDayParts.j1 kj2 l1 true)) else (laws_FnDayParts.j1 kj2 l1 true)))) = some r := H
        have A7 := Aside0.mk A70
        clear A70
        replace H := Option.bind_eq_some_iff.mp H
        obtain ⟨⟨t222, t223, t224, t225⟩, A80, H⟩ := H
        replace H : (if (t221 != t225) = true then (laws_FnDayParts.j1 kj2 l1 true) else (if t218 = t222 then (if t219 = t223 then (if t220 = t224 then (if t221 = true then ((impl_DayOf.f kj2 t218 t219 t220).bind fun t226 => (laws_FnDayParts.j1 kj2 l1 (t226 != t217))) else (laws_FnDayParts.j1 kj2 l1 false)) else (laws_FnDayParts.j1 kj2 l1 true)) else (laws_FnDayParts.j1 kj2 l1 true)) else (laws_FnDayParts.j1 kj2 l1 true))) = some r := H
        have A8 := Aside0.mk A80
        clear A80
        have HC9 := Aside0.mk H
        clear H
        go_upto_region 6 with (first | ((with_reducible refine gate_callee (f := 20) rfl ?_); refine goesL_ (some 31) rfl rfl Try.func20 (by kernel_rfl) rfl #[.slice A0 l0.length c0] rfl (by (try simp only [List.map_toArray, List.map_cons, List.map_nil]); first | done | rfl | (simp only [List.length_drop, List.length_take]; rfl)) ?_; (with_reducible refine (spec_DrawDayParts.calls kj2 _ _ l0 t217 _ ?side1 ?side2 A6.out).mono ?_); (case side1 => repeat (first | exact (Kd.C_below HR0.out HB.out) | (with_reducible refine Kd.C_alloc ?_ _) | (with_reducible refine Kd.C_drewN ?_ _) | (with_reducible refine Kd.C_drew ?_))); (case side2 => exact HC0.out); rintro e w10 ⟨rfl, hb⟩; refine ⟨_, rfl, ?_⟩; have n0_ := Aside0.mk (below_step (by repeat (first | (with_reducible first | exact HB.out | apply below_alloc | apply pw_below_drewN | apply below_drew1) | exact HB.out)) hb); clear HB; have HB := n0_; clear n0_; (try clear hb); (try clear hb2); (try clear hk); (try clear hi)) | ((with_reducible refine gate_callee (f := 12) rfl ?_); refine goesL_ (some 34) rfl rfl Try.func12 (by kernel_rfl) rfl #[.int .i64 t217] rfl (by (try simp only [List.map_toArray, List.map_cons, List.map_nil]); first | done | rfl | (simp only [List.length_drop, List.length_take]; rfl)) ?_; (with_reducible refine (impl_DayParts.calls kj2 t217 t218 t219 t220 t221 _ A7.out).mono ?_); rintro e w' ⟨rfl, ⟨nd, rfl⟩⟩; refine ⟨_, rfl, ?_⟩) | ((with_reducible refine gate_callee (f := 11) rfl ?_); refine goesL_ (some 41) rfl rfl Try.func11 (by kernel_rfl) rfl #[.int .i64 t217] rfl (by (try simp only [List.map_toArray, List.map_cons, List.map_nil]); first | done | rfl | (simp only [List.length_drop, List.length_take]; rfl)) ?_; (with_reducible refine (spec_DayParts.calls kj2 t217 t222 t223 t224 t225 _ A8.out).mono ?_); rintro e w' ⟨rfl, ⟨nd, rfl⟩⟩; refine ⟨_, rfl, ?_⟩))
        (try simp only [Act.put, List.setIfInBounds_toArray, List.set_cons_zero, List.set_cons_succ])
        go_cut [74] (fun v74 wc => ∃ (kq : Nat) (x74_8 : Bool), v74 = .bool x74_8 ∧ Aside0 (laws_FnDayParts.j1 kq l1 x74_8 = some r) ∧ Aside0 (kq ≤ kj2) ∧ Aside0 (Below w.heap.size w wc))
        case first =>
          have H := HC9.out
          clear HC9
          by_cases c11 : (t221 != t225) = true
          · rw [if_pos c11] at H
            have c11b0 : (t221 != t225) = true := c11
            (try (have c11b1 : decide (t221 = t225) = false := by simpa using c11))
            (try (have c11b2 : (t221 == t225) = false := by simpa using c11))
            (try (have c11b3 : ¬ (t221 = t225) := by simpa using c11))
            clear c11
            (first | rw [c11b0] | (simp only [i64_w, i32_w]; rw [c11b0]) | skip)
            have H' := Aside0.mk H
            clear H
            go_wp2
            go_meet
            case rel => exact ⟨_, (true), (by first | rfl | (simp; done) | (simp [*]; done)), H', ⟨by have := HJ2.out; first | omega | exact Nat.le_refl _⟩, ⟨by repeat (first | (with_reducible first | exact HB.out | apply below_alloc | apply pw_below_drewN | apply below_drew1) | exact HB.out)⟩⟩
          · rw [if_neg c11] at H
            have c11b0 : (t221 != t225) = false := by simpa using c11
            (try (have c11b1 : decide (t221 = t225) = true := by simpa using c11))
            (try (have c11b2 : (t221 == t225) = true := by simpa using c11))
            clear c11
            (first | rw [c11b0] | (simp only [i64_w, i32_w]; rw [c11b0]) | skip)
            by_cases c12 : t218 = t222
            · rw [if_pos c12] at H
              have c12b0 : (t218 == t222) = true := beq_iff_eq.mpr c12
              have c12b1 : (t218 != t222) = false := bne_eq_false_iff_eq.mpr c12
              clear c12
              by_cases c13 : t219 = t223
              · rw [if_pos c13] at H
                have c13b0 : (t219 == t223) = true := beq_iff_eq.mpr c13
                have c13b1 : (t219 != t223) = false := bne_eq_false_iff_eq.mpr c13
                clear c13
                by_cases c14 : t220 = t224
                · rw [if_pos c14] at H
                  have c14b0 : (t220 == t224) = true := beq_iff_eq.mpr c14
                  have c14b1 : (t220 != t224) = false := bne_eq_false_iff_eq.mpr c14
                  clear c14
                  by_cases c15 : t221 = true
                  · subst c15
                    have H1 : ((impl_DayOf.f kj2 t218 t219 t220).bind fun t226 => (laws_FnDayParts.j1 kj2 l1 (t226 != t217))) = some r := by rw [if_pos rfl] at H; exact H
                    clear H
                    have H := H1
                    clear H1
                    replace H := Option.bind_eq_some_iff.mp H
                    obtain ⟨t226, A160, H⟩ := H
                    replace H : (laws_FnDayParts.j1 kj2 l1 (t226 != t217)) = some r := H
                    have A16 := Aside0.mk A160
                    clear A160
                    have H' := Aside0.mk H
                    clear H
                    go_wp2_with (first | (go_at_call 21; (with_reducible refine (impl_DayOf.calls kj2 t218 t219 t220 t226 _ A16.out).mono ?_); rintro e w' ⟨rfl, ⟨nd, rfl⟩⟩))
                    go_meet
                    case rel => exact ⟨_, ((t226 != t217)), (by first | rfl | (simp; done) | (simp [*]; done)), H', ⟨by have := HJ2.out; first | omega | exact Nat.le_refl _⟩, ⟨by repeat (first | (with_reducible first | exact HB.out | apply below_alloc | apply pw_below_drewN | apply below_drew1) | exact HB.out)⟩⟩
                  · replace c15 := Bool.eq_false_iff.mpr c15
                    subst c15
                    have H1 : (laws_FnDayParts.j1 kj2 l1 false) = some r := by rw [if_neg (show ¬ (false = true) by decide)] at H; exact H
                    clear H
                    have H := H1
                    clear H1
                    have H' := Aside0.mk H
                    clear H
                    go_wp2
                    go_meet
                    case rel => exact ⟨_, (false), (by first | rfl | (simp; done) | (simp [*]; done)), H', ⟨by have := HJ2.out; first | omega | exact Nat.le_refl _⟩, ⟨by repeat (first | (with_reducible first | exact HB.out | apply below_alloc | apply pw_below_drewN | apply below_drew1) | exact HB.out)⟩⟩
                · rw [if_neg c14] at H
                  have c14b0 : (t220 == t224) = false := beq_eq_false_iff_ne.mpr c14
                  have c14b1 : (t220 != t224) = true := bne_iff_ne.mpr c14
                  have H' := Aside0.mk H
                  clear H
                  go_wp2
                  go_meet
                  case rel => exact ⟨_, (true), (by first | rfl | (simp; done) | (simp [*]; done)), H', ⟨by have := HJ2.out; first | omega | exact Nat.le_refl _⟩, ⟨by repeat (first | (with_reducible first | exact HB.out | apply below_alloc | apply pw_below_drewN | apply below_drew1) | exact HB.out)⟩⟩
              · rw [if_neg c13] at H
                have c13b0 : (t219 == t223) = false := beq_eq_false_iff_ne.mpr c13
                have c13b1 : (t219 != t223) = true := bne_iff_ne.mpr c13
                have H' := Aside0.mk H
                clear H
                go_wp2
                go_meet
                case rel => exact ⟨_, (true), (by first | rfl | (simp; done) | (simp [*]; done)), H', ⟨by have := HJ2.out; first | omega | exact Nat.le_refl _⟩, ⟨by repeat (first | (with_reducible first | exact HB.out | apply below_alloc | apply pw_below_drewN | apply below_drew1) | exact HB.out)⟩⟩
            · rw [if_neg c12] at H
              have c12b0 : (t218 == t222) = false := beq_eq_false_iff_ne.mpr c12
              have c12b1 : (t218 != t222) = true := bne_iff_ne.mpr c12
              have H' := Aside0.mk H
              clear H
              go_wp2
              go_meet
              case rel => exact ⟨_, (true), (by first | rfl | (simp; done) | (simp [*]; done)), H', ⟨by have := HJ2.out; first | omega | exact Nat.le_refl _⟩, ⟨by repeat (first | (with_reducible first | exact HB.out | apply below_alloc | apply pw_below_drewN | apply below_drew1) | exact HB.out)⟩⟩
        case rest =>
          clear HC9
          try clear c1
          try clear c2
          try clear p2
          try clear c4
          try clear c4b0
          try clear c4b1
          try clear c5
          try clear c6
          try clear c11
          try clear c11b0
          try clear c11b1
          try clear c11b2
          try clear c12
          try clear c12b0
          try clear c12b1
          try clear c13
          try clear c13b0
          try clear c13b1
          try clear c14
          try clear c14b0
          try clear c14b1
          try clear c15
          try clear p2
          obtain ⟨kq, x74_8, rfl, HA, HJ8, HB⟩ := hcut
          cases kq with
          | zero => exact absurd HA.out (by simp [laws_FnDayParts.j1])
          | succ kj8 =>
            have H := HA.out
            clear HA
            simp only [laws_FnDayParts.j1] at H
            by_cases c17 : x74_8 = true
            · subst c17
              have H1 : (some false) = some r := by rw [if_pos rfl] at H; exact H
              clear H
              have H := H1
              clear H1
              obtain rfl := Option.some.inj H
              go_wp2
              go_ret
              exact ⟨by first | rfl | (simp [errW_none, errW_some] <;> rfl) | (simp [*, errW_none, errW_some] <;> rfl), by repeat (first | (with_reducible first | exact HB.out | apply below_alloc | apply pw_below_drewN | apply below_drew1) | exact HB.out)⟩
            · replace c17 := Bool.eq_false_iff.mpr c17
              subst c17
              have H1 : ((spec_DrawDayOf.f kj8 l1).bind fun bt227 => ((impl_DayOf.f kj8 bt227.1 bt227.2.1 bt227.2.2).bind fun t230 => ((impl_DayParts.f kj8 t230).bind fun bt231 => ((spec_DayOf.f kj8 bt227.1 bt227.2.1 bt227.2.2).bind fun t235 => (if t230 = t235 then (if (bt231.2.2.2 == (decide (t230 > 0))) = true then (if bt231.2.2.2 = true then (if bt231.1 = bt227.1 then (if bt231.2.1 = bt227.2.1 then (if bt231.2.2.1 = bt227.2.2 then (if bt227.2.2 ≥ 1 then ((impl_DayLast.f kj8 bt227.1 bt227.2.1).bind fun t236 => (some (bt231.2.2.2 == (decide (bt227.2.2 ≤ t236))))) else (some (bt231.2.2.2 == false))) else (some false)) else (some false)) else (some false)) else (if bt227.2.2 ≥ 1 then ((impl_DayLast.f kj8 bt227.1 bt227.2.1).bind fun t237 => (some (bt231.2.2.2 == (decide (bt227.2.2 ≤ t237))))) else (some (bt231.2.2.2 == false)))) else (some false)) else (some false)))))) = some r := by rw [if_neg (show ¬ (false = true) by decide)] at H; exact H
              clear H
              have H := H1
              clear H1
              replace H := Option.bind_eq_some_iff.mp H
              obtain ⟨⟨t227, t228, t229⟩, A180, H⟩ := H
              replace H : ((impl_DayOf.f kj8 t227 t228 t229).bind fun t230 => ((impl_DayParts.f kj8 t230).bind fun bt231 => ((spec_DayOf.f kj8 t227 t228 t229).bind fun t235 => (if t230 = t235 then (if (bt231.2.2.2 == (decide (t230 > 0))) = true then (if bt231.2.2.2 = true then (if bt231.1 = t227 then (if bt231.2.1 = t228 then (if bt231.2.2.1 = t229 then (if t229 ≥ 1 then ((impl_DayLast.f kj8 t227 t228).bind fun t236 => (some (bt231.2.2.2 == (decide (t229 ≤ t236))))) else (some (bt231.2.2.2 == false))) else (some false)) else (some false)) else (some false)) else (if t229 ≥ 1 then ((impl_DayLast.f kj8 t227 t228).bind fun t237 => (some (bt231.2.2.2 == (decide (t229 ≤ t237))))) else (some (bt231.2.2.2 == false)))) else (some false)) else (some false))))) = some r := H
              have A18 := Aside0.mk A180
              clear A180
              replace H := Option.bind_eq_some_iff.mp H
              obtain ⟨t230, A190, H⟩ := H
              replace H : ((impl_DayParts.f kj8 t230).bind fun bt231 => ((spec_DayOf.f kj8 t227 t228 t229).bind fun t235 => (if t230 = t235 then (if (bt231.2.2.2 == (decide (t230 > 0))) = true then (if bt231.2.2.2 = true then (if bt231.1 = t227 then (if bt231.2.1 = t228 then (if bt231.2.2.1 = t229 then (if t229 ≥ 1 then ((impl_DayLast.f kj8 t227 t228).bind fun t236 => (some (bt231.2.2.2 == (decide (t229 ≤ t236))))) else (some (bt231.2.2.2 == false))) else (some false)) else (some false)) else (some false)) else (if t229 ≥ 1 then ((impl_DayLast.f kj8 t227 t228).bind fun t237 => (some (bt231.2.2.2 == (decide (t229 ≤ t237))))) else (some (bt231.2.2.2 == false)))) else (some false)) else (some false)))) = some r := H
              have A19 := Aside0.mk A190
              clear A190
              replace H := Option.bind_eq_some_iff.mp H
              obtain ⟨⟨t231, t232, t233, t234⟩, A200, H⟩ := H
              replace H : ((spec_DayOf.f kj8 t227 t228 t229).bind fun t235 => (if t230 = t235 then (if (t234 == (decide (t230 > 0))) = true then (if t234 = true then (if t231 = t227 then (if t232 = t228 then (if t233 = t229 then (if t229 ≥ 1 then ((impl_DayLast.f kj8 t227 t228).bind fun t236 => (some (t234 == (decide (t229 ≤ t236))))) else (some (t234 == false))) else (some false)) else (some false)) else (some false)) else (if t229 ≥ 1 then ((impl_DayLast.f kj8 t227 t228).bind fun t237 => (some (t234 == (decide (t229 ≤ t237))))) else (some (t234 == false)))) else (some false)) else (some false))) = some r := H
              have A20 := Aside0.mk A200
              clear A200
              replace H := Option.bind_eq_some_iff.mp H
              obtain ⟨t235, A210, H⟩ := H
              replace H : (if t230 = t235 then (if (t234 == (decide (t230 > 0))) = true then (if t234 = true then (if t231 = t227 then (if t232 = t228 then (if t233 = t229 then (if t229 ≥ 1 then ((impl_DayLast.f kj8 t227 t228).bind fun t236 => (some (t234 == (decide (t229 ≤ t236))))) else (some (t234 == false))) else (some false)) else (some false)) else (some false)) else (if t229 ≥ 1 then ((impl_DayLast.f kj8 t227 t228).bind fun t237 => (some (t234 == (decide (t229 ≤ t237))))) else (some (t234 == false)))) else (some false)) else (some false)) = some r := H
              have A21 := Aside0.mk A210
              clear A210
              by_cases c22 : t230 = t235
              · rw [if_pos c22] at H
                have c22b0 : (t230 == t235) = true := beq_iff_eq.mpr c22
                have c22b1 : (t230 != t235) = false := bne_eq_false_iff_eq.mpr c22
                clear c22
                by_cases c23 : (t234 == (decide (t230 > 0))) = true
                · rw [if_pos c23] at H
                  have c23b0 : (t234 == (decide (t230 > 0))) = true := c23
                  (try (have c23b1 : decide (t234 = (decide (t230 > 0))) = true := by simpa using c23))
                  (try (have c23b2 : (t234 == (decide (t230 > 0))) = true := by simpa using c23))
                  clear c23
                  by_cases c24 : t234 = true
                  · subst c24
                    have H1 : (if t231 = t227 then (if t232 = t228 then (if t233 = t229 then (if t229 ≥ 1 then ((impl_DayLast.f kj8 t227 t228).bind fun t236 => (some (true == (decide (t229 ≤ t236))))) else (some (true == false))) else (some false)) else (some false)) else (some false)) = some r := by rw [if_pos rfl] at H; exact H
                    clear H
                    have H := H1
                    clear H1
                    by_cases c25 : t231 = t227
                    · rw [if_pos c25] at H
                      have c25b0 : (t231 == t227) = true := beq_iff_eq.mpr c25
                      have c25b1 : (t231 != t227) = false := bne_eq_false_iff_eq.mpr c25
                      clear c25
                      by_cases c26 : t232 = t228
                      · rw [if_pos c26] at H
                        have c26b0 : (t232 == t228) = true := beq_iff_eq.mpr c26
                        have c26b1 : (t232 != t228) = false := bne_eq_false_iff_eq.mpr c26
                        clear c26
                        by_cases c27 : t233 = t229
                        · rw [if_pos c27] at H
                          have c27b0 : (t233 == t229) = true := beq_iff_eq.mpr c27
                          have c27b1 : (t233 != t229) = false := bne_eq_false_iff_eq.mpr c27
                          clear c27
                          by_cases c28 : t229 ≥ 1
                          · rw [if_pos c28] at H
                            have c28b0 : decide (1 ≤ t229) = true := decide_eq_true c28
                            clear c28
                            replace H := Option.bind_eq_some_iff.mp H
                            obtain ⟨t236, A290, H⟩ := H
                            replace H : (some (true == (decide (t229 ≤ t236)))) = some r := H
                            have A29 := Aside0.mk A290
                            clear A290
                            obtain rfl := Option.some.inj H
                            go_wp2_with (first | ((with_reducible refine gate_callee (f := 22) rfl ?_); refine goesL_ (some 77) rfl rfl Try.func22 (by kernel_rfl) rfl #[.slice A1 l1.length c1] rfl (by (try simp only [List.map_toArray, List.map_cons, List.map_nil]); first | done | rfl | (simp only [List.length_drop, List.length_take]; rfl)) ?_; (with_reducible refine (spec_DrawDayOf.calls kj8 _ _ l1 t227 t228 t229 _ ?side1 ?side2 A18.out).mono ?_); (case side1 => repeat (first | exact (Kd.C_below HR1.out HB.out) | (with_reducible refine Kd.C_alloc ?_ _) | (with_reducible refine Kd.C_drewN ?_ _) | (with_reducible refine Kd.C_drew ?_))); (case side2 => exact HC1.out); rintro e w30 ⟨rfl, hb⟩; refine ⟨_, rfl, ?_⟩; have n0_ := Aside0.mk (below_step (by repeat (first | (with_reducible first | exact HB.out | apply below_alloc | apply pw_below_drewN | apply below_drew1) | exact HB.out)) hb); clear HB; have HB := n0_; clear n0_; (try clear hb); (try clear hb2); (try clear hk); (try clear hi)) | ((with_reducible refine gate_callee (f := 21) rfl ?_); refine goesL_ (some 84) rfl rfl Try.func21 (by kernel_rfl) rfl #[.int .i64 t227, .int .i64 t228, .int .i64 t229] rfl (by (try simp only [List.map_toArray, List.map_cons, List.map_nil]); first | done | rfl | (simp only [List.length_drop, List.length_take]; rfl)) ?_; (with_reducible refine (impl_DayOf.calls kj8 t227 t228 t229 t230 _ A19.out).mono ?_); rintro e w' ⟨rfl, ⟨nd, rfl⟩⟩; refine ⟨_, rfl, ?_⟩) | ((with_reducible refine gate_callee (f := 12) rfl ?_); refine goesL_ (some 87) rfl rfl Try.func12 (by kernel_rfl) rfl #[.int .i64 t230] rfl (by (try simp only [List.map_toArray, List.map_cons, List.map_nil]); first | done | rfl | (simp only [List.length_drop, List.length_take]; rfl)) ?_; (with_reducible refine (impl_DayParts.calls kj8 t230 t231 t232 t233 true _ A20.out).mono ?_); rintro e w' ⟨rfl, ⟨nd, rfl⟩⟩; refine ⟨_, rfl, ?_⟩) | ((with_reducible refine gate_callee (f := 23) rfl ?_); refine goesL_ (some 96) rfl rfl Try.func23 (by kernel_rfl) rfl #[.int .i64 t227, .int .i64 t228, .int .i64 t229] rfl (by (try simp only [List.map_toArray, List.map_cons, List.map_nil]); first | done | rfl | (simp only [List.length_drop, List.length_take]; rfl)) ?_; (with_reducible refine (spec_DayOf.calls kj8 t227 t228 t229 t235 _ A21.out).mono ?_); rintro e w' ⟨rfl, ⟨nd, rfl⟩⟩; refine ⟨_, rfl, ?_⟩) | (go_at_call 16; (with_reducible refine (impl_DayLast.calls kj8 t227 t228 t236 _ A29.out).mono ?_); rintro e w' ⟨rfl, ⟨nd, rfl⟩⟩))
                            go_ret
                            exact ⟨by first | rfl | (simp [errW_none, errW_some] <;> rfl) | (simp [*, errW_none, errW_some] <;> rfl), by repeat (first | (with_reducible first | exact HB.out | apply below_alloc | apply pw_below_drewN | apply below_drew1) | exact HB.out)⟩
                          · rw [if_neg c28] at H
                            have c28b0 : decide (1 ≤ t229) = false := decide_eq_false c28
                            clear c28
                            obtain rfl := Option.some.inj H
                            go_wp2_with (first | ((with_reducible refine gate_callee (f := 22) rfl ?_); refine goesL_ (some 77) rfl rfl Try.func22 (by kernel_rfl) rfl #[.slice A1 l1.length c1] rfl (by (try simp only [List.map_toArray, List.map_cons, List.map_nil]); first | done | rfl | (simp only [List.length_drop, List.length_take]; rfl)) ?_; (with_reducible refine (spec_DrawDayOf.calls kj8 _ _ l1 t227 t228 t229 _ ?side1 ?side2 A18.out).mono ?_); (case side1 => repeat (first | exact (Kd.C_below HR1.out HB.out) | (with_reducible refine Kd.C_alloc ?_ _) | (with_reducible refine Kd.C_drewN ?_ _) | (with_reducible refine Kd.C_drew ?_))); (case side2 => exact HC1.out); rintro e w31 ⟨rfl, hb⟩; refine ⟨_, rfl, ?_⟩; have n0_ := Aside0.mk (below_step (by repeat (first | (with_reducible first | exact HB.out | apply below_alloc | apply pw_below_drewN | apply below_drew1) | exact HB.out)) hb); clear HB; have HB := n0_; clear n0_; (try clear hb); (try clear hb2); (try clear hk); (try clear hi)) | ((with_reducible refine gate_callee (f := 21) rfl ?_); refine goesL_ (some 84) rfl rfl Try.func21 (by kernel_rfl) rfl #[.int .i64 t227, .int .i64 t228, .int .i64 t229] rfl (by (try simp only [List.map_toArray, List.map_cons, List.map_nil]); first | done | rfl | (simp only [List.length_drop, List.length_take]; rfl)) ?_; (with_reducible refine (impl_DayOf.calls kj8 t227 t228 t229 t230 _ A19.out).mono ?_); rintro e w' ⟨rfl, ⟨nd, rfl⟩⟩; refine ⟨_, rfl, ?_⟩) | ((with_reducible refine gate_callee (f := 12) rfl ?_); refine goesL_ (some 87) rfl rfl Try.func12 (by kernel_rfl) rfl #[.int .i64 t230] rfl (by (try simp only [List.map_toArray, List.map_cons, List.map_nil]); first | done | rfl | (simp only [List.length_drop, List.length_take]; rfl)) ?_; (with_reducible refine (impl_DayParts.calls kj8 t230 t231 t232 t233 true _ A20.out).mono ?_); rintro e w' ⟨rfl, ⟨nd, rfl⟩⟩; refine ⟨_, rfl, ?_⟩) | ((with_reducible refine gate_callee (f := 23) rfl ?_); refine goesL_ (some 96) rfl rfl Try.func23 (by kernel_rfl) rfl #[.int .i64 t227, .int .i64 t228, .int .i64 t229] rfl (by (try simp only [List.map_toArray, List.map_cons, List.map_nil]); first | done | rfl | (simp only [List.length_drop, List.length_take]; rfl)) ?_; (with_reducible refine (spec_DayOf.calls kj8 t227 t228 t229 t235 _ A21.out).mono ?_); rintro e w' ⟨rfl, ⟨nd, rfl⟩⟩; refine ⟨_, rfl, ?_⟩))
                            go_ret
                            exact ⟨by first | rfl | (simp [errW_none, errW_some] <;> rfl) | (simp [*, errW_none, errW_some] <;> rfl), by repeat (first | (with_reducible first | exact HB.out | apply below_alloc | apply pw_below_drewN | apply below_drew1) | exact HB.out)⟩
                        · rw [if_neg c27] at H
                          have c27b0 : (t233 == t229) = false := beq_eq_false_iff_ne.mpr c27
                          have c27b1 : (t233 != t229) = true := bne_iff_ne.mpr c27
                          obtain rfl := Option.some.inj H
                          go_wp2_with (first | ((with_reducible refine gate_callee (f := 22) rfl ?_); refine goesL_ (some 77) rfl rfl Try.func22 (by kernel_rfl) rfl #[.slice A1 l1.length c1] rfl (by (try simp only [List.map_toArray, List.map_cons, List.map_nil]); first | done | rfl | (simp only [List.length_drop, List.length_take]; rfl)) ?_; (with_reducible refine (spec_DrawDayOf.calls kj8 _ _ l1 t227 t228 t229 _ ?side1 ?side2 A18.out).mono ?_); (case side1 => repeat (first | exact (Kd.C_below HR1.out HB.out) | (with_reducible refine Kd.C_alloc ?_ _) | (with_reducible refine Kd.C_drewN ?_ _) | (with_reducible refine Kd.C_drew ?_))); (case side2 => exact HC1.out); rintro e w32 ⟨rfl, hb⟩; refine ⟨_, rfl, ?_⟩; have n0_ := Aside0.mk (below_step (by repeat (first | (with_reducible first | exact HB.out | apply below_alloc | apply pw_below_drewN | apply below_drew1) | exact HB.out)) hb); clear HB; have HB := n0_; clear n0_; (try clear hb); (try clear hb2); (try clear hk); (try clear hi)) | ((with_reducible refine gate_callee (f := 21) rfl ?_); refine goesL_ (some 84) rfl rfl Try.func21 (by kernel_rfl) rfl #[.int .i64 t227, .int .i64 t228, .int .i64 t229] rfl (by (try simp only [List.map_toArray, List.map_cons, List.map_nil]); first | done | rfl | (simp only [List.length_drop, List.length_take]; rfl)) ?_; (with_reducible refine (impl_DayOf.calls kj8 t227 t228 t229 t230 _ A19.out).mono ?_); rintro e w' ⟨rfl, ⟨nd, rfl⟩⟩; refine ⟨_, rfl, ?_⟩) | ((with_reducible refine gate_callee (f := 12) rfl ?_); refine goesL_ (some 87) rfl rfl Try.func12 (by kernel_rfl) rfl #[.int .i64 t230] rfl (by (try simp only [List.map_toArray, List.map_cons, List.map_nil]); first | done | rfl | (simp only [List.length_drop, List.length_take]; rfl)) ?_; (with_reducible refine (impl_DayParts.calls kj8 t230 t231 t232 t233 true _ A20.out).mono ?_); rintro e w' ⟨rfl, ⟨nd, rfl⟩⟩; refine ⟨_, rfl, ?_⟩) | ((with_reducible refine gate_callee (f := 23) rfl ?_); refine goesL_ (some 96) rfl rfl Try.func23 (by kernel_rfl) rfl #[.int .i64 t227, .int .i64 t228, .int .i64 t229] rfl (by (try simp only [List.map_toArray, List.map_cons, List.map_nil]); first | done | rfl | (simp only [List.length_drop, List.length_take]; rfl)) ?_; (with_reducible refine (spec_DayOf.calls kj8 t227 t228 t229 t235 _ A21.out).mono ?_); rintro e w' ⟨rfl, ⟨nd, rfl⟩⟩; refine ⟨_, rfl, ?_⟩))
                          go_ret
                          exact ⟨by first | rfl | (simp [errW_none, errW_some] <;> rfl) | (simp [*, errW_none, errW_some] <;> rfl), by repeat (first | (with_reducible first | exact HB.out | apply below_alloc | apply pw_below_drewN | apply below_drew1) | exact HB.out)⟩
                      · rw [if_neg c26] at H
                        have c26b0 : (t232 == t228) = false := beq_eq_false_iff_ne.mpr c26
                        have c26b1 : (t232 != t228) = true := bne_iff_ne.mpr c26
                        obtain rfl := Option.some.inj H
                        go_wp2_with (first | ((with_reducible refine gate_callee (f := 22) rfl ?_); refine goesL_ (some 77) rfl rfl Try.func22 (by kernel_rfl) rfl #[.slice A1 l1.length c1] rfl (by (try simp only [List.map_toArray, List.map_cons, List.map_nil]); first | done | rfl | (simp only [List.length_drop, List.length_take]; rfl)) ?_; (with_reducible refine (spec_DrawDayOf.calls kj8 _ _ l1 t227 t228 t229 _ ?side1 ?side2 A18.out).mono ?_); (case side1 => repeat (first | exact (Kd.C_below HR1.out HB.out) | (with_reducible refine Kd.C_alloc ?_ _) | (with_reducible refine Kd.C_drewN ?_ _) | (with_reducible refine Kd.C_drew ?_))); (case side2 => exact HC1.out); rintro e w33 ⟨rfl, hb⟩; refine ⟨_, rfl, ?_⟩; have n0_ := Aside0.mk (below_step (by repeat (first | (with_reducible first | exact HB.out | apply below_alloc | apply pw_below_drewN | apply below_drew1) | exact HB.out)) hb); clear HB; have HB := n0_; clear n0_; (try clear hb); (try clear hb2); (try clear hk); (try clear hi)) | ((with_reducible refine gate_callee (f := 21) rfl ?_); refine goesL_ (some 84) rfl rfl Try.func21 (by kernel_rfl) rfl #[.int .i64 t227, .int .i64 t228, .int .i64 t229] rfl (by (try simp only [List.map_toArray, List.map_cons, List.map_nil]); first | done | rfl | (simp only [List.length_drop, List.length_take]; rfl)) ?_; (with_reducible refine (impl_DayOf.calls kj8 t227 t228 t229 t230 _ A19.out).mono ?_); rintro e w' ⟨rfl, ⟨nd, rfl⟩⟩; refine ⟨_, rfl, ?_⟩) | ((with_reducible refine gate_callee (f := 12) rfl ?_); refine goesL_ (some 87) rfl rfl Try.func12 (by kernel_rfl) rfl #[.int .i64 t230] rfl (by (try simp only [List.map_toArray, List.map_cons, List.map_nil]); first | done | rfl | (simp only [List.length_drop, List.length_take]; rfl)) ?_; (with_reducible refine (impl_DayParts.calls kj8 t230 t231 t232 t233 true _ A20.out).mono ?_); rintro e w' ⟨rfl, ⟨nd, rfl⟩⟩; refine ⟨_, rfl, ?_⟩) | ((with_reducible refine gate_callee (f := 23) rfl ?_); refine goesL_ (some 96) rfl rfl Try.func23 (by kernel_rfl) rfl #[.int .i64 t227, .int .i64 t228, .int .i64 t229] rfl (by (try simp only [List.map_toArray, List.map_cons, List.map_nil]); first | done | rfl | (simp only [List.length_drop, List.length_take]; rfl)) ?_; (with_reducible refine (spec_DayOf.calls kj8 t227 t228 t229 t235 _ A21.out).mono ?_); rintro e w' ⟨rfl, ⟨nd, rfl⟩⟩; refine ⟨_, rfl, ?_⟩))
                        go_ret
                        exact ⟨by first | rfl | (simp [errW_none, errW_some] <;> rfl) | (simp [*, errW_none, errW_some] <;> rfl), by repeat (first | (with_reducible first | exact HB.out | apply below_alloc | apply pw_below_drewN | apply below_drew1) | exact HB.out)⟩
                    · rw [if_neg c25] at H
                      have c25b0 : (t231 == t227) = false := beq_eq_false_iff_ne.mpr c25
                      have c25b1 : (t231 != t227) = true := bne_iff_ne.mpr c25
                      obtain rfl := Option.some.inj H
                      go_wp2_with (first | ((with_reducible refine gate_callee (f := 22) rfl ?_); refine goesL_ (some 77) rfl rfl Try.func22 (by kernel_rfl) rfl #[.slice A1 l1.length c1] rfl (by (try simp only [List.map_toArray, List.map_cons, List.map_nil]); first | done | rfl | (simp only [List.length_drop, List.length_take]; rfl)) ?_; (with_reducible refine (spec_DrawDayOf.calls kj8 _ _ l1 t227 t228 t229 _ ?side1 ?side2 A18.out).mono ?_); (case side1 => repeat (first | exact (Kd.C_below HR1.out HB.out) | (with_reducible refine Kd.C_alloc ?_ _) | (with_reducible refine Kd.C_drewN ?_ _) | (with_reducible refine Kd.C_drew ?_))); (case side2 => exact HC1.out); rintro e w34 ⟨rfl, hb⟩; refine ⟨_, rfl, ?_⟩; have n0_ := Aside0.mk (below_step (by repeat (first | (with_reducible first | exact HB.out | apply below_alloc | apply pw_below_drewN | apply below_drew1) | exact HB.out)) hb); clear HB; have HB := n0_; clear n0_; (try clear hb); (try clear hb2); (try clear hk); (try clear hi)) | ((with_reducible refine gate_callee (f := 21) rfl ?_); refine goesL_ (some 84) rfl rfl Try.func21 (by kernel_rfl) rfl #[.int .i64 t227, .int .i64 t228, .int .i64 t229] rfl (by (try simp only [List.map_toArray, List.map_cons, List.map_nil]); first | done | rfl | (simp only [List.length_drop, List.length_take]; rfl)) ?_; (with_reducible refine (impl_DayOf.calls kj8 t227 t228 t229 t230 _ A19.out).mono ?_); rintro e w' ⟨rfl, ⟨nd, rfl⟩⟩; refine ⟨_, rfl, ?_⟩) | ((with_reducible refine gate_callee (f := 12) rfl ?_); refine goesL_ (some 87) rfl rfl Try.func12 (by kernel_rfl) rfl #[.int .i64 t230] rfl (by (try simp only [List.map_toArray, List.map_cons, List.map_nil]); first | done | rfl | (simp only [List.length_drop, List.length_take]; rfl)) ?_; (with_reducible refine (impl_DayParts.calls kj8 t230 t231 t232 t233 true _ A20.out).mono ?_); rintro e w' ⟨rfl, ⟨nd, rfl⟩⟩; refine ⟨_, rfl, ?_⟩) | ((with_reducible refine gate_callee (f := 23) rfl ?_); refine goesL_ (some 96) rfl rfl Try.func23 (by kernel_rfl) rfl #[.int .i64 t227, .int .i64 t228, .int .i64 t229] rfl (by (try simp only [List.map_toArray, List.map_cons, List.map_nil]); first | done | rfl | (simp only [List.length_drop, List.length_take]; rfl)) ?_; (with_reducible refine (spec_DayOf.calls kj8 t227 t228 t229 t235 _ A21.out).mono ?_); rintro e w' ⟨rfl, ⟨nd, rfl⟩⟩; refine ⟨_, rfl, ?_⟩))
                      go_ret
                      exact ⟨by first | rfl | (simp [errW_none, errW_some] <;> rfl) | (simp [*, errW_none, errW_some] <;> rfl), by repeat (first | (with_reducible first | exact HB.out | apply below_alloc | apply pw_below_drewN | apply below_drew1) | exact HB.out)⟩
                  · replace c24 := Bool.eq_false_iff.mpr c24
                    subst c24
                    have H1 : (if t229 ≥ 1 then ((impl_DayLast.f kj8 t227 t228).bind fun t237 => (some (false == (decide (t229 ≤ t237))))) else (some (false == false))) = some r := by rw [if_neg (show ¬ (false = true) by decide)] at H; exact H
                    clear H
                    have H := H1
                    clear H1
                    by_cases c35 : t229 ≥ 1
                    · rw [if_pos c35] at H
                      have c35b0 : decide (1 ≤ t229) = true := decide_eq_true c35
                      clear c35
                      replace H := Option.bind_eq_some_iff.mp H
                      obtain ⟨t237, A360, H⟩ := H
                      replace H : (some (false == (decide (t229 ≤ t237)))) = some r := H
                      have A36 := Aside0.mk A360
                      clear A360
                      obtain rfl := Option.some.inj H
                      go_wp2_with (first | ((with_reducible refine gate_callee (f := 22) rfl ?_); refine goesL_ (some 77) rfl rfl Try.func22 (by kernel_rfl) rfl #[.slice A1 l1.length c1] rfl (by (try simp only [List.map_toArray, List.map_cons, List.map_nil]); first | done | rfl | (simp only [List.length_drop, List.length_take]; rfl)) ?_; (with_reducible refine (spec_DrawDayOf.calls kj8 _ _ l1 t227 t228 t229 _ ?side1 ?side2 A18.out).mono ?_); (case side1 => repeat (first | exact (Kd.C_below HR1.out HB.out) | (with_reducible refine Kd.C_alloc ?_ _) | (with_reducible refine Kd.C_drewN ?_ _) | (with_reducible refine Kd.C_drew ?_))); (case side2 => exact HC1.out); rintro e w37 ⟨rfl, hb⟩; refine ⟨_, rfl, ?_⟩; have n0_ := Aside0.mk (below_step (by repeat (first | (with_reducible first | exact HB.out | apply below_alloc | apply pw_below_drewN | apply below_drew1) | exact HB.out)) hb); clear HB; have HB := n0_; clear n0_; (try clear hb); (try clear hb2); (try clear hk); (try clear hi)) | ((with_reducible refine gate_callee (f := 21) rfl ?_); refine goesL_ (some 84) rfl rfl Try.func21 (by kernel_rfl) rfl #[.int .i64 t227, .int .i64 t228, .int .i64 t229] rfl (by (try simp only [List.map_toArray, List.map_cons, List.map_nil]); first | done | rfl | (simp only [List.length_drop, List.length_take]; rfl)) ?_; (with_reducible refine (impl_DayOf.calls kj8 t227 t228 t229 t230 _ A19.out).mono ?_); rintro e w' ⟨rfl, ⟨nd, rfl⟩⟩; refine ⟨_, rfl, ?_⟩) | ((with_reducible refine gate_callee (f := 12) rfl ?_); refine goesL_ (some 87) rfl rfl Try.func12 (by kernel_rfl) rfl #[.int .i64 t230] rfl (by (try simp only [List.map_toArray, List.map_cons, List.map_nil]); first | done | rfl | (simp only [List.length_drop, List.length_take]; rfl)) ?_; (with_reducible refine (impl_DayParts.calls kj8 t230 t231 t232 t233 false _ A20.out).mono ?_); rintro e w' ⟨rfl, ⟨nd, rfl⟩⟩; refine ⟨_, rfl, ?_⟩) | ((with_reducible refine gate_callee (f := 23) rfl ?_); refine goesL_ (some 96) rfl rfl Try.func23 (by kernel_rfl) rfl #[.int .i64 t227, .int .i64 t228, .int .i64 t229] rfl (by (try simp only [List.map_toArray, List.map_cons, List.map_nil]); first | done | rfl | (simp only [List.length_drop, List.length_take]; rfl)) ?_; (with_reducible refine (spec_DayOf.calls kj8 t227 t228 t229 t235 _ A21.out).mono ?_); rintro e w' ⟨rfl, ⟨nd, rfl⟩⟩; refine ⟨_, rfl, ?_⟩) | (go_at_call 16; (with_reducible refine (impl_DayLast.calls kj8 t227 t228 t237 _ A36.out).mono ?_); rintro e w' ⟨rfl, ⟨nd, rfl⟩⟩))
                      go_ret
                      exact ⟨by first | rfl | (simp [errW_none, errW_some] <;> rfl) | (simp [*, errW_none, errW_some] <;> rfl), by repeat (first | (with_reducible first | exact HB.out | apply below_alloc | apply pw_below_drewN | apply below_drew1) | exact HB.out)⟩
                    · rw [if_neg c35] at H
                      have c35b0 : decide (1 ≤ t229) = false := decide_eq_false c35
                      clear c35
                      obtain rfl := Option.some.inj H
                      go_wp2_with (first | ((with_reducible refine gate_callee (f := 22) rfl ?_); refine goesL_ (some 77) rfl rfl Try.func22 (by kernel_rfl) rfl #[.slice A1 l1.length c1] rfl (by (try simp only [List.map_toArray, List.map_cons, List.map_nil]); first | done | rfl | (simp only [List.length_drop, List.length_take]; rfl)) ?_; (with_reducible refine (spec_DrawDayOf.calls kj8 _ _ l1 t227 t228 t229 _ ?side1 ?side2 A18.out).mono ?_); (case side1 => repeat (first | exact (Kd.C_below HR1.out HB.out) | (with_reducible refine Kd.C_alloc ?_ _) | (with_reducible refine Kd.C_drewN ?_ _) | (with_reducible refine Kd.C_drew ?_))); (case side2 => exact HC1.out); rintro e w38 ⟨rfl, hb⟩; refine ⟨_, rfl, ?_⟩; have n0_ := Aside0.mk (below_step (by repeat (first | (with_reducible first | exact HB.out | apply below_alloc | apply pw_below_drewN | apply below_drew1) | exact HB.out)) hb); clear HB; have HB := n0_; clear n0_; (try clear hb); (try clear hb2); (try clear hk); (try clear hi)) | ((with_reducible refine gate_callee (f := 21) rfl ?_); refine goesL_ (some 84) rfl rfl Try.func21 (by kernel_rfl) rfl #[.int .i64 t227, .int .i64 t228, .int .i64 t229] rfl (by (try simp only [List.map_toArray, List.map_cons, List.map_nil]); first | done | rfl | (simp only [List.length_drop, List.length_take]; rfl)) ?_; (with_reducible refine (impl_DayOf.calls kj8 t227 t228 t229 t230 _ A19.out).mono ?_); rintro e w' ⟨rfl, ⟨nd, rfl⟩⟩; refine ⟨_, rfl, ?_⟩) | ((with_reducible refine gate_callee (f := 12) rfl ?_); refine goesL_ (some 87) rfl rfl Try.func12 (by kernel_rfl) rfl #[.int .i64 t230] rfl (by (try simp only [List.map_toArray, List.map_cons, List.map_nil]); first | done | rfl | (simp only [List.length_drop, List.length_take]; rfl)) ?_; (with_reducible refine (impl_DayParts.calls kj8 t230 t231 t232 t233 false _ A20.out).mono ?_); rintro e w' ⟨rfl, ⟨nd, rfl⟩⟩; refine ⟨_, rfl, ?_⟩) | ((with_reducible refine gate_callee (f := 23) rfl ?_); refine goesL_ (some 96) rfl rfl Try.func23 (by kernel_rfl) rfl #[.int .i64 t227, .int .i64 t228, .int .i64 t229] rfl (by (try simp only [List.map_toArray, List.map_cons, List.map_nil]); first | done | rfl | (simp only [List.length_drop, List.length_take]; rfl)) ?_; (with_reducible refine (spec_DayOf.calls kj8 t227 t228 t229 t235 _ A21.out).mono ?_); rintro e w' ⟨rfl, ⟨nd, rfl⟩⟩; refine ⟨_, rfl, ?_⟩))
                      go_ret
                      exact ⟨by first | rfl | (simp [errW_none, errW_some] <;> rfl) | (simp [*, errW_none, errW_some] <;> rfl), by repeat (first | (with_reducible first | exact HB.out | apply below_alloc | apply pw_below_drewN | apply below_drew1) | exact HB.out)⟩
                · rw [if_neg c23] at H
                  have c23b0 : (t234 == (decide (t230 > 0))) = false := by simpa using c23
                  (try (have c23b1 : decide (t234 = (decide (t230 > 0))) = false := by simpa using c23))
                  (try (have c23b2 : (t234 == (decide (t230 > 0))) = false := by simpa using c23))
                  (try (have c23b3 : ¬ (t234 = (decide (t230 > 0))) := by simpa using c23))
                  clear c23
                  obtain rfl := Option.some.inj H
                  go_wp2_with (first | ((with_reducible refine gate_callee (f := 22) rfl ?_); refine goesL_ (some 77) rfl rfl Try.func22 (by kernel_rfl) rfl #[.slice A1 l1.length c1] rfl (by (try simp only [List.map_toArray, List.map_cons, List.map_nil]); first | done | rfl | (simp only [List.length_drop, List.length_take]; rfl)) ?_; (with_reducible refine (spec_DrawDayOf.calls kj8 _ _ l1 t227 t228 t229 _ ?side1 ?side2 A18.out).mono ?_); (case side1 => repeat (first | exact (Kd.C_below HR1.out HB.out) | (with_reducible refine Kd.C_alloc ?_ _) | (with_reducible refine Kd.C_drewN ?_ _) | (with_reducible refine Kd.C_drew ?_))); (case side2 => exact HC1.out); rintro e w39 ⟨rfl, hb⟩; refine ⟨_, rfl, ?_⟩; have n0_ := Aside0.mk (below_step (by repeat (first | (with_reducible first | exact HB.out | apply below_alloc | apply pw_below_drewN | apply below_drew1) | exact HB.out)) hb); clear HB; have HB := n0_; clear n0_; (try clear hb); (try clear hb2); (try clear hk); (try clear hi)) | ((with_reducible refine gate_callee (f := 21) rfl ?_); refine goesL_ (some 84) rfl rfl Try.func21 (by kernel_rfl) rfl #[.int .i64 t227, .int .i64 t228, .int .i64 t229] rfl (by (try simp only [List.map_toArray, List.map_cons, List.map_nil]); first | done | rfl | (simp only [List.length_drop, List.length_take]; rfl)) ?_; (with_reducible refine (impl_DayOf.calls kj8 t227 t228 t229 t230 _ A19.out).mono ?_); rintro e w' ⟨rfl, ⟨nd, rfl⟩⟩; refine ⟨_, rfl, ?_⟩) | ((with_reducible refine gate_callee (f := 12) rfl ?_); refine goesL_ (some 87) rfl rfl Try.func12 (by kernel_rfl) rfl #[.int .i64 t230] rfl (by (try simp only [List.map_toArray, List.map_cons, List.map_nil]); first | done | rfl | (simp only [List.length_drop, List.length_take]; rfl)) ?_; (with_reducible refine (impl_DayParts.calls kj8 t230 t231 t232 t233 t234 _ A20.out).mono ?_); rintro e w' ⟨rfl, ⟨nd, rfl⟩⟩; refine ⟨_, rfl, ?_⟩) | ((with_reducible refine gate_callee (f := 23) rfl ?_); refine goesL_ (some 96) rfl rfl Try.func23 (by kernel_rfl) rfl #[.int .i64 t227, .int .i64 t228, .int .i64 t229] rfl (by (try simp only [List.map_toArray, List.map_cons, List.map_nil]); first | done | rfl | (simp only [List.length_drop, List.length_take]; rfl)) ?_; (with_reducible refine (spec_DayOf.calls kj8 t227 t228 t229 t235 _ A21.out).mono ?_); rintro e w' ⟨rfl, ⟨nd, rfl⟩⟩; refine ⟨_, rfl, ?_⟩))
                  go_ret
                  exact ⟨by first | rfl | (simp [errW_none, errW_some] <;> rfl) | (simp [*, errW_none, errW_some] <;> rfl), by repeat (first | (with_reducible first | exact HB.out | apply below_alloc | apply pw_below_drewN | apply below_drew1) | exact HB.out)⟩
              · rw [if_neg c22] at H
                have c22b0 : (t230 == t235) = false := beq_eq_false_iff_ne.mpr c22
                have c22b1 : (t230 != t235) = true := bne_iff_ne.mpr c22
                obtain rfl := Option.some.inj H
                go_wp2_with (first | ((with_reducible refine gate_callee (f := 22) rfl ?_); refine goesL_ (some 77) rfl rfl Try.func22 (by kernel_rfl) rfl #[.slice A1 l1.length c1] rfl (by (try simp only [List.map_toArray, List.map_cons, List.map_nil]); first | done | rfl | (simp only [List.length_drop, List.length_take]; rfl)) ?_; (with_reducible refine (spec_DrawDayOf.calls kj8 _ _ l1 t227 t228 t229 _ ?side1 ?side2 A18.out).mono ?_); (case side1 => repeat (first | exact (Kd.C_below HR1.out HB.out) | (with_reducible refine Kd.C_alloc ?_ _) | (with_reducible refine Kd.C_drewN ?_ _) | (with_reducible refine Kd.C_drew ?_))); (case side2 => exact HC1.out); rintro e w40 ⟨rfl, hb⟩; refine ⟨_, rfl, ?_⟩; have n0_ := Aside0.mk (below_step (by repeat (first | (with_reducible first | exact HB.out | apply below_alloc | apply pw_below_drewN | apply below_drew1) | exact HB.out)) hb); clear HB; have HB := n0_; clear n0_; (try clear hb); (try clear hb2); (try clear hk); (try clear hi)) | ((with_reducible refine gate_callee (f := 21) rfl ?_); refine goesL_ (some 84) rfl rfl Try.func21 (by kernel_rfl) rfl #[.int .i64 t227, .int .i64 t228, .int .i64 t229] rfl (by (try simp only [List.map_toArray, List.map_cons, List.map_nil]); first | done | rfl | (simp only [List.length_drop, List.length_take]; rfl)) ?_; (with_reducible refine (impl_DayOf.calls kj8 t227 t228 t229 t230 _ A19.out).mono ?_); rintro e w' ⟨rfl, ⟨nd, rfl⟩⟩; refine ⟨_, rfl, ?_⟩) | ((with_reducible refine gate_callee (f := 12) rfl ?_); refine goesL_ (some 87) rfl rfl Try.func12 (by kernel_rfl) rfl #[.int .i64 t230] rfl (by (try simp only [List.map_toArray, List.map_cons, List.map_nil]); first | done | rfl | (simp only [List.length_drop, List.length_take]; rfl)) ?_; (with_reducible refine (impl_DayParts.calls kj8 t230 t231 t232 t233 t234 _ A20.out).mono ?_); rintro e w' ⟨rfl, ⟨nd, rfl⟩⟩; refine ⟨_, rfl, ?_⟩) | ((with_reducible refine gate_callee (f := 23) rfl ?_); refine goesL_ (some 96) rfl rfl Try.func23 (by kernel_rfl) rfl #[.int .i64 t227, .int .i64 t228, .int .i64 t229] rfl (by (try simp only [List.map_toArray, List.map_cons, List.map_nil]); first | done | rfl | (simp only [List.length_drop, List.length_take]; rfl)) ?_; (with_reducible refine (spec_DayOf.calls kj8 t227 t228 t229 t235 _ A21.out).mono ?_); rintro e w' ⟨rfl, ⟨nd, rfl⟩⟩; refine ⟨_, rfl, ?_⟩))
                go_ret
                exact ⟨by first | rfl | (simp [errW_none, errW_some] <;> rfl) | (simp [*, errW_none, errW_some] <;> rfl), by repeat (first | (with_reducible first | exact HB.out | apply below_alloc | apply pw_below_drewN | apply below_drew1) | exact HB.out)⟩

/-- THE ONE PURE STATEMENT of laws_FnDayParts: yours. -/
def laws_FnDayParts.Pure : Prop := ∀ (l0 : List Int) (l1 : List Int), l0.length ≤ maxLen → l0.length * 1 ≤ 140737488351232 → (∀ x ∈ l0, (Lit.int .u8 x).wf = true) → l1.length ≤ maxLen → l1.length * 1 ≤ 140737488351232 → (∀ x ∈ l1, (Lit.int .u8 x).wf = true) → ∃ k, laws_FnDayParts.f k l0 l1 = some true
theorem laws_FnDayParts.walk (P : laws_FnDayParts.Pure) (a0 : Option Addr) (len0 cap0 : Nat) (z0 : List Int) (a1 : Option Addr) (len1 cap1 : Nat) (z1 : List Int) (w : World) (w0 : (a0 = none ∧ len0 = 0 ∧ cap0 = 0 ∧ z0 = []) ∨ ∃ x, a0 = some x ∧ len0 ≤ cap0 ∧ cap0 ≤ maxLen ∧ z0.length = cap0 ∧ (∀ i, i < z0.length → w.cell? (x.add i) = some (.int .u8 (z0.getD i 0))) ∧ ∀ n ∈ z0, (Lit.int .u8 n).wf = true) (y0 : len0 * 1 ≤ 140737488351232) (w1 : (a1 = none ∧ len1 = 0 ∧ cap1 = 0 ∧ z1 = []) ∨ ∃ x, a1 = some x ∧ len1 ≤ cap1 ∧ cap1 ≤ maxLen ∧ z1.length = cap1 ∧ (∀ i, i < z1.length → w.cell? (x.add i) = some (.int .u8 (z1.getD i 0))) ∧ ∀ n ∈ z1, (Lit.int .u8 n).wf = true) (y1 : len1 * 1 ≤ 140737488351232) :
    Calls Try.prog 6 #[.slice a0 len0 cap0, .slice a1 len1 cap1] w fun e w' => e = .returned (.bool true) ∧ Below w.heap.size w w' := by
  obtain ⟨l0, rfl, hr0, hm0, hw0, hc0⟩ := ReadsInt.ofRowC w0
  obtain ⟨l1, rfl, hr1, hm1, hw1, hc1⟩ := ReadsInt.ofRowC w1
  obtain ⟨k, h⟩ := P l0 l1 hm0 y0 hw0 hm1 y1 hw1
  refine (laws_FnDayParts.calls k _ _ l0 _ _ l1 true w (Kd.C_of_reads (d := (0 : Int)) (h1 := fun _ => rfl) hr0) hc0 (Kd.C_of_reads (d := (0 : Int)) (h1 := fun _ => rfl) hr1) hc1 h).mono ?_
  rintro e w' ⟨rfl, hd⟩
  exact ⟨rfl, hd⟩

end Go.Proofs.Ytabjadjcecnicaa.PFnDayParts
