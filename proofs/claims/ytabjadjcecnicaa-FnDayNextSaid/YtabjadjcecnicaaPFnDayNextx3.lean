-- PRINTED BY print.sh 35421559b90ae4d0a3588c463048766b98c2df88dd9212a6774a882060cdf62d: not written by this session
import Derived.Test.YtabjadjcecnicaaPFnDayNextx0
import Derived.Test.YtabjadjcecnicaaPFnDayNextx1
import Derived.Test.YtabjadjcecnicaaPFnDayNextx2
namespace Go.Proofs.Ytabjadjcecnicaa.PFnDayNext
open Go.RowKit Go.Proofs.YtabjadjcecnicaaW.PrintWords Go.Proofs.YtabjadjcecnicaaW.PrintLast Go.Proofs.YtabjadjcecnicaaW.PrintMore
attribute [local go_sem] max2_int min2_int max_two min_two max_three min_three max_four min_four   -- for this text's walks alone
set_option linter.unusedVariables false
set_option linter.unusedSimpArgs false

/-! ### laws_FnDayNext: function 4 -/
mutual
def laws_FnDayNext.j0 : Nat → Int → Int → Bool → Option (Bool)
  | 0, _, _, _ => none
  | k + 1, x3, x4, x31 => if x31 = true then ((spec_DayWeek.f x3).bind fun t184 => (some (x4 == t184))) else ((impl_DayParts.f k x3).bind fun bt185 => ((impl_DayParts.f k (wrap64 (x3 + 1))).bind fun bt189 => (if bt185.2.2.2 = true then (if bt189.2.2.2 = true then ((impl_DayWeek.f (wrap64 (x3 + 1))).bind fun t193 => (laws_FnDayNext.j1 k bt185.1 bt185.2.1 bt185.2.2.1 bt189.1 bt189.2.1 bt189.2.2.1 (t193 != (wrap64 ((Int.tmod x4 7) + 1))))) else (laws_FnDayNext.j1 k bt185.1 bt185.2.1 bt185.2.2.1 bt189.1 bt189.2.1 bt189.2.2.1 true)) else (laws_FnDayNext.j1 k bt185.1 bt185.2.1 bt185.2.2.1 bt189.1 bt189.2.1 bt189.2.2.1 true))))
def laws_FnDayNext.j1 : Nat → Int → Int → Int → Int → Int → Int → Bool → Option (Bool)
  | 0, _, _, _, _, _, _, _ => none
  | k + 1, x5, x6, x7, x9, x10, x11, x65 => if x65 = true then (some false) else ((impl_DayLast.f k x5 x6).bind fun t194 => (if x7 < t194 then (if x9 = x5 then (if x10 = x6 then (some (x11 == (wrap64 (x7 + 1)))) else (some false)) else (some false)) else (if x6 < 12 then (if x9 = x5 then (if x10 = (wrap64 (x6 + 1)) then (some (x11 == 1)) else (some false)) else (some false)) else (if x9 = (wrap64 (x5 + 1)) then (if x10 = 1 then (some (x11 == 1)) else (some false)) else (some false)))))
end
def laws_FnDayNext.f (k : Nat) (l0 : List Int) : Option (Bool) := if (l0.length : Int) > 1048576 then (some true) else ((spec_DrawDayWeek.f k l0).bind fun t181 => ((impl_DayWeek.f t181).bind fun t182 => ((spec_DayWeek.f t181).bind fun t183 => (if t182 = t183 then (if t182 = 0 then (laws_FnDayNext.j0 k t181 t182 true) else (laws_FnDayNext.j0 k t181 t182 (t181 == 3652059))) else (laws_FnDayNext.j0 k t181 t182 true)))))
theorem laws_FnDayNext.mono_l : ∀ k, (∀ y0 y1 y2, LeO (laws_FnDayNext.j0 k y0 y1 y2) (laws_FnDayNext.j0 (k + 1) y0 y1 y2)) ∧ (∀ y0 y1 y2 y3 y4 y5 y6, LeO (laws_FnDayNext.j1 k y0 y1 y2 y3 y4 y5 y6) (laws_FnDayNext.j1 (k + 1) y0 y1 y2 y3 y4 y5 y6))
  | 0 => ⟨fun _ _ _ r h => by simp [laws_FnDayNext.j0] at h, fun _ _ _ _ _ _ _ r h => by simp [laws_FnDayNext.j1] at h⟩
  | k + 1 => by
    obtain ⟨ih0, ih1⟩ := laws_FnDayNext.mono_l k
    refine ⟨?_, ?_⟩
    · intro y0 y1 y2
      unfold laws_FnDayNext.j0
      repeat' first
      | (with_reducible exact ih0 _ _ _)
      | (with_reducible exact ih1 _ _ _ _ _ _ _)
      | (with_reducible exact impl_DayLast.mono _ _ _)
      | (with_reducible exact impl_DayParts.mono _ _)
      | (with_reducible exact spec_DrawDayWeek.mono _ _)
      | (with_reducible exact LeO.refl _)
      | (with_reducible exact LeO.none _)
      | (with_reducible refine LeO.ite ?_ ?_)
      | (with_reducible refine LeO.bind ?_ (fun _ => ?_))
      | exact ih0 _ _ _
      | exact ih1 _ _ _ _ _ _ _
      | exact impl_DayLast.mono _ _ _
      | exact impl_DayParts.mono _ _
      | exact spec_DrawDayWeek.mono _ _
      | exact LeO.none _
      | refine LeO.ite ?_ ?_
      | refine LeO.bind ?_ (fun _ => ?_)
    · intro y0 y1 y2 y3 y4 y5 y6
      unfold laws_FnDayNext.j1
      repeat' first
      | (with_reducible exact ih0 _ _ _)
      | (with_reducible exact ih1 _ _ _ _ _ _ _)
      | (with_reducible exact impl_DayLast.mono _ _ _)
      | (with_reducible exact impl_DayParts.mono _ _)
      | (with_reducible exact spec_DrawDayWeek.mono _ _)
      | (with_reducible exact LeO.refl _)
      | (with_reducible exact LeO.none _)
      | (with_reducible refine LeO.ite ?_ ?_)
      | (with_reducible refine LeO.bind ?_ (fun _ => ?_))
      | exact ih0 _ _ _
      | exact ih1 _ _ _ _ _ _ _
      | exact impl_DayLast.mono _ _ _
      | exact impl_DayParts.mono _ _
      | exact spec_DrawDayWeek.mono _ _
      | exact LeO.none _
      | refine LeO.ite ?_ ?_
      | refine LeO.bind ?_ (fun _ => ?_)
theorem laws_FnDayNext.mono : ∀ a0 k, LeO (laws_FnDayNext.f k a0) (laws_FnDayNext.f (k + 1) a0) := by
  intro a0 k
  obtain ⟨ih0, ih1⟩ := laws_FnDayNext.mono_l k
  unfold laws_FnDayNext.f
  repeat' first
      | (with_reducible exact ih0 _ _ _)
      | (with_reducible exact ih1 _ _ _ _ _ _ _)
      | (with_reducible exact impl_DayLast.mono _ _ _)
      | (with_reducible exact impl_DayParts.mono _ _)
      | (with_reducible exact spec_DrawDayWeek.mono _ _)
      | (with_reducible exact LeO.refl _)
      | (with_reducible exact LeO.none _)
      | (with_reducible refine LeO.ite ?_ ?_)
      | (with_reducible refine LeO.bind ?_ (fun _ => ?_))
      | exact ih0 _ _ _
      | exact ih1 _ _ _ _ _ _ _
      | exact impl_DayLast.mono _ _ _
      | exact impl_DayParts.mono _ _
      | exact spec_DrawDayWeek.mono _ _
      | exact LeO.none _
      | refine LeO.ite ?_ ?_
      | refine LeO.bind ?_ (fun _ => ?_)
set_option maxHeartbeats 8000000 in
set_option maxRecDepth 100000 in
theorem laws_FnDayNext.calls (k : Nat) (A0 : Option Addr) (c0 : Nat) (l0 : List Int) (r : Bool) (w : World) (hr0 : Kd.C (Kd.int .u8) w A0 l0.length l0) (hc0 : l0.length ≤ c0) (h : laws_FnDayNext.f k l0 = some r) :
    Calls Try.prog 4 #[.slice A0 l0.length c0] w fun e w' => e = .returned (.bool r) ∧ Below w.heap.size w w' := by
  have HR0 := Aside0.mk hr0
  have HC0 := Aside0.mk hc0
  clear hr0 hc0
  have HB := Aside0.mk (Below.refl w.heap.size w)
  have H : (if (l0.length : Int) > 1048576 then (some true) else ((spec_DrawDayWeek.f k l0).bind fun t181 => ((impl_DayWeek.f t181).bind fun t182 => ((spec_DayWeek.f t181).bind fun t183 => (if t182 = t183 then (if t182 = 0 then (laws_FnDayNext.j0 k t181 t182 true) else (laws_FnDayNext.j0 k t181 t182 (t181 == 3652059))) else (laws_FnDayNext.j0 k t181 t182 true)))))) = some r := h
  clear h
  by_cases c2 : (l0.length : Int) > 1048576
  · rw [if_pos c2] at H
    have c2b0 : decide (1048576 < (l0.length : Int)) = true := decide_eq_true c2
    have c2b1 : decide (1048576 < l0.length) = true := decide_eq_true (by omega)
    clear c2
    obtain rfl := Option.some.inj H
    go_enter Try.func4, Try.ntmps4
    go_wp2
    go_ret
    exact ⟨by first | rfl | (simp [errW_none, errW_some] <;> rfl) | (simp [*, errW_none, errW_some] <;> rfl), by repeat (first | (with_reducible first | exact HB.out | apply below_alloc | apply pw_below_drewN | apply below_drew1) | exact HB.out)⟩
  · rw [if_neg c2] at H
    have c2b0 : decide (1048576 < (l0.length : Int)) = false := decide_eq_false c2
    have c2b1 : decide (1048576 < l0.length) = false := decide_eq_false (by omega)
    clear c2
    replace H := Option.bind_eq_some_iff.mp H
    obtain ⟨t181, A30, H⟩ := H
    replace H : ((impl_DayWeek.f t181).bind fun t182 => ((spec_DayWeek.f t181).bind fun t183 => (if t182 = t183 then (if t182 = 0 then (laws_FnDayNext.j0 k t181 t182 true) else (laws_FnDayNext.j0 k t181 t182 (t181 == 3652059))) else (laws_FnDayNext.j0 k t181 t182 true)))) = some r := H
    have A3 := Aside0.mk A30
    clear A30
    replace H := Option.bind_eq_some_iff.mp H
    obtain ⟨t182, A40, H⟩ := H
    replace H : ((spec_DayWeek.f t181).bind fun t183 => (if t182 = t183 then (if t182 = 0 then (laws_FnDayNext.j0 k t181 t182 true) else (laws_FnDayNext.j0 k t181 t182 (t181 == 3652059))) else (laws_FnDayNext.j0 k t181 t182 true))) = some r := H
    have A4 := Aside0.mk A40
    clear A40
    have HC5 := Aside0.mk H
    clear H
    go_enter Try.func4, Try.ntmps4
    go_upto_region 5 with (first | ((with_reducible refine gate_callee (f := 13) rfl ?_); refine goesL_ (some 17) rfl rfl Try.func13 (by kernel_rfl) rfl #[.slice A0 l0.length c0] rfl (by (try simp only [List.map_toArray, List.map_cons, List.map_nil]); first | done | rfl | (simp only [List.length_drop, List.length_take]; rfl)) ?_; (with_reducible refine (spec_DrawDayWeek.calls k _ _ l0 t181 _ ?side1 ?side2 A3.out).mono ?_); (case side1 => repeat (first | exact HR0.out | (with_reducible refine Kd.C_alloc ?_ _) | (with_reducible refine Kd.C_drewN ?_ _) | (with_reducible refine Kd.C_drew ?_))); (case side2 => exact HC0.out); rintro e w6 ⟨rfl, hb⟩; refine ⟨_, rfl, ?_⟩; have n0_ := Aside0.mk (below_step (by repeat (first | (with_reducible first | exact HB.out | apply below_alloc | apply pw_below_drewN | apply below_drew1) | exact HB.out)) hb); clear HB; have HB := n0_; clear n0_; (try clear hb); (try clear hb2); (try clear hk); (try clear hi)) | ((with_reducible refine gate_callee (f := 14) rfl ?_); refine goesL_ (some 19) rfl rfl Try.func14 (by kernel_rfl) rfl #[.int .i64 t181] rfl (by (try simp only [List.map_toArray, List.map_cons, List.map_nil]); first | done | rfl | (simp only [List.length_drop, List.length_take]; rfl)) ?_; (with_reducible refine (impl_DayWeek.calls t181 t182 _ A4.out).mono ?_); rintro e w' ⟨rfl, ⟨nd, rfl⟩⟩; refine ⟨_, rfl, ?_⟩))
    (try simp only [Act.put, List.setIfInBounds_toArray, List.set_cons_zero, List.set_cons_succ])
    go_cut [31] (fun v31 wc => ∃ (kq : Nat) (x31_4 : Bool), v31 = .bool x31_4 ∧ Aside0 (laws_FnDayNext.j0 kq t181 t182 x31_4 = some r) ∧ Aside0 (kq ≤ k) ∧ Aside0 (Below w.heap.size w wc))
    case first =>
      have H := HC5.out
      clear HC5
      replace H := Option.bind_eq_some_iff.mp H
      obtain ⟨t183, A70, H⟩ := H
      replace H : (if t182 = t183 then (if t182 = 0 then (laws_FnDayNext.j0 k t181 t182 true) else (laws_FnDayNext.j0 k t181 t182 (t181 == 3652059))) else (laws_FnDayNext.j0 k t181 t182 true)) = some r := H
      have A7 := Aside0.mk A70
      clear A70
      by_cases c8 : t182 = t183
      · rw [if_pos c8] at H
        have c8b0 : (t182 == t183) = true := beq_iff_eq.mpr c8
        have c8b1 : (t182 != t183) = false := bne_eq_false_iff_eq.mpr c8
        clear c8
        (first | rw [c8b0] | (simp only [i64_w, i32_w]; rw [c8b0]) | skip)
        by_cases c9 : t182 = 0
        · rw [if_pos c9] at H
          have c9b0 : (t182 == 0) = true := beq_iff_eq.mpr c9
          have c9b1 : (t182 != 0) = false := bne_eq_false_iff_eq.mpr c9
          clear c9
          have H' := Aside0.mk H
          clear H
          go_wp2_with (first | ((with_reducible refine gate_callee (f := 15) rfl ?_); refine goesL_ (some 22) rfl rfl Try.func15 (by kernel_rfl) rfl #[.int .i64 t181] rfl (by (try simp only [List.map_toArray, List.map_cons, List.map_nil]); first | done | rfl | (simp only [List.length_drop, List.length_take]; rfl)) ?_; (with_reducible refine (spec_DayWeek.calls t181 t183 _ A7.out).mono ?_); rintro e w' ⟨rfl, ⟨nd, rfl⟩⟩; refine ⟨_, rfl, ?_⟩))
          go_meet
          case rel => exact ⟨_, (true), (by first | rfl | (simp; done) | (simp [*]; done)), H', ⟨by first | omega | exact Nat.le_refl _⟩, ⟨by repeat (first | (with_reducible first | exact HB.out | apply below_alloc | apply pw_below_drewN | apply below_drew1) | exact HB.out)⟩⟩
        · rw [if_neg c9] at H
          have c9b0 : (t182 == 0) = false := beq_eq_false_iff_ne.mpr c9
          have c9b1 : (t182 != 0) = true := bne_iff_ne.mpr c9
          have H' := Aside0.mk H
          clear H
          go_wp2_with (first | ((with_reducible refine gate_callee (f := 15) rfl ?_); refine goesL_ (some 22) rfl rfl Try.func15 (by kernel_rfl) rfl #[.int .i64 t181] rfl (by (try simp only [List.map_toArray, List.map_cons, List.map_nil]); first | done | rfl | (simp only [List.length_drop, List.length_take]; rfl)) ?_; (with_reducible refine (spec_DayWeek.calls t181 t183 _ A7.out).mono ?_); rintro e w' ⟨rfl, ⟨nd, rfl⟩⟩; refine ⟨_, rfl, ?_⟩))
          go_meet
          case rel => exact ⟨_, ((t181 == 3652059)), (by first | rfl | (simp; done) | (simp [*]; done)), H', ⟨by first | omega | exact Nat.le_refl _⟩, ⟨by repeat (first | (with_reducible first | exact HB.out | apply below_alloc | apply pw_below_drewN | apply below_drew1) | exact HB.out)⟩⟩
      · rw [if_neg c8] at H
        have c8b0 : (t182 == t183) = false := beq_eq_false_iff_ne.mpr c8
        have c8b1 : (t182 != t183) = true := bne_iff_ne.mpr c8
        (first | rw [c8b0] | (simp only [i64_w, i32_w]; rw [c8b0]) | skip)
        have H' := Aside0.mk H
        clear H
        go_wp2_with (first | ((with_reducible refine gate_callee (f := 15) rfl ?_); refine goesL_ (some 22) rfl rfl Try.func15 (by kernel_rfl) rfl #[.int .i64 t181] rfl (by (try simp only [List.map_toArray, List.map_cons, List.map_nil]); first | done | rfl | (simp only [List.length_drop, List.length_take]; rfl)) ?_; (with_reducible refine (spec_DayWeek.calls t181 t183 _ A7.out).mono ?_); rintro e w' ⟨rfl, ⟨nd, rfl⟩⟩; refine ⟨_, rfl, ?_⟩))
        go_meet
        case rel => exact ⟨_, (true), (by first | rfl | (simp; done) | (simp [*]; done)), H', ⟨by first | omega | exact Nat.le_refl _⟩, ⟨by repeat (first | (with_reducible first | exact HB.out | apply below_alloc | apply pw_below_drewN | apply below_drew1) | exact HB.out)⟩⟩
    case rest =>
      clear HC5
      try clear c1
      try clear c2
      try clear c2b0
      try clear c2b1
      try clear p2
      try clear c4
      try clear c8
      try clear c8b0
      try clear c8b1
      try clear c9
      try clear c9b0
      try clear c9b1
      obtain ⟨kq, x31_4, rfl, HA, HJ4, HB⟩ := hcut
      cases kq with
      | zero => exact absurd HA.out (by simp [laws_FnDayNext.j0])
      | succ kj4 =>
        have H := HA.out
        clear HA
        simp only [laws_FnDayNext.j0] at H
        by_cases c10 : x31_4 = true
        · subst c10
          have H1 : ((spec_DayWeek.f t181).bind fun t184 => (some (t182 == t184))) = some r := by rw [if_pos rfl] at H; exact H
          clear H
          have H := H1
          clear H1
          replace H := Option.bind_eq_some_iff.mp H
          obtain ⟨t184, A110, H⟩ := H
          replace H : (some (t182 == t184)) = some r := H
          have A11 := Aside0.mk A110
          clear A110
          obtain rfl := Option.some.inj H
          go_wp2_with (first | ((with_reducible refine gate_callee (f := 15) rfl ?_); refine goesL_ (some 34) rfl rfl Try.func15 (by kernel_rfl) rfl #[.int .i64 t181] rfl (by (try simp only [List.map_toArray, List.map_cons, List.map_nil]); first | done | rfl | (simp only [List.length_drop, List.length_take]; rfl)) ?_; (with_reducible refine (spec_DayWeek.calls t181 t184 _ A11.out).mono ?_); rintro e w' ⟨rfl, ⟨nd, rfl⟩⟩; refine ⟨_, rfl, ?_⟩))
          go_ret
          exact ⟨by first | rfl | (simp [errW_none, errW_some] <;> rfl) | (simp [*, errW_none, errW_some] <;> rfl), by repeat (first | (with_reducible first | exact HB.out | apply below_alloc | apply pw_below_drewN | apply below_drew1) | exact HB.out)⟩
        · replace c10 := Bool.eq_false_iff.mpr c10
          subst c10
          have H1 : ((impl_DayParts.f kj4 t181).bind fun bt185 => ((impl_DayParts.f kj4 (wrap64 (t181 + 1))).bind fun bt189 => (if bt185.2.2.2 = true then (if bt189.2.2.2 = true then ((impl_DayWeek.f (wrap64 (t181 + 1))).bind fun t193 => (laws_FnDayNext.j1 kj4 bt185.1 bt185.2.1 bt185.2.2.1 bt189.1 bt189.2.1 bt189.2.2.1 (t193 != (wrap64 ((Int.tmod t182 7) + 1))))) else (laws_FnDayNext.j1 kj4 bt185.1 bt185.2.1 bt185.2.2.1 bt189.1 bt189.2.1 bt189.2.2.1 true)) else (laws_FnDayNext.j1 kj4 bt185.1 bt185.2.1 bt185.2.2.1 bt189.1 bt189.2.1 bt189.2.2.1 true)))) = some r := by rw [if_neg (show ¬ (false = true) by decide)] at H; exact H
          clear H
          have H := H1
          clear H1
          replace H := Option.bind_eq_some_iff.mp H
          obtain ⟨⟨t185, t186, t187, t188⟩, A120, H⟩ := H
          replace H : ((impl_DayParts.f kj4 (wrap64 (t181 + 1))).bind fun bt189 => (if t188 = true then (if bt189.2.2.2 = true then ((impl_DayWeek.f (wrap64 (t181 + 1))).bind fun t193 => (laws_FnDayNext.j1 kj4 t185 t186 t187 bt189.1 bt189.2.1 bt189.2.2.1 (t193 != (wrap64 ((Int.tmod t182 7) + 1))))) else (laws_FnDayNext.j1 kj4 t185 t186 t187 bt189.1 bt189.2.1 bt189.2.2.1 true)) else (laws_FnDayNext.j1 kj4 t185 t186 t187 bt189.1 bt189.2.1 bt189.2.2.1 true))) = some r := H
          have A12 := Aside0.mk A120
          clear A120
          replace H := Option.bind_eq_some_iff.mp H
          obtain ⟨⟨t189, t190, t191, t192⟩, A130, H⟩ := H
          replace H : (if t188 = true then (if t192 = true then ((impl_DayWeek.f (wrap64 (t181 + 1))).bind fun t193 => (laws_FnDayNext.j1 kj4 t185 t186 t187 t189 t190 t191 (t193 != (wrap64 ((Int.tmod t182 7) + 1))))) else (laws_FnDayNext.j1 kj4 t185 t186 t187 t189 t190 t191 true)) else (laws_FnDayNext.j1 kj4 t185 t186 t187 t189 t190 t191 true)) = some r := H
          have A13 := Aside0.mk A130
          clear A130
          have HC14 := Aside0.mk H
          clear H
          go_upto_region 9 with (first | ((with_reducible refine gate_callee (f := 12) rfl ?_); refine goesL_ (some 38) rfl rfl Try.func12 (by kernel_rfl) rfl #[.int .i64 t181] rfl (by (try simp only [List.map_toArray, List.map_cons, List.map_nil]); first | done | rfl | (simp only [List.length_drop, List.length_take]; rfl)) ?_; (with_reducible refine (impl_DayParts.calls kj4 t181 t185 t186 t187 t188 _ A12.out).mono ?_); rintro e w' ⟨rfl, ⟨nd, rfl⟩⟩; refine ⟨_, rfl, ?_⟩) | ((with_reducible refine gate_callee (f := 12) rfl ?_); refine goesL_ (some 46) rfl rfl Try.func12 (by kernel_rfl) rfl #[.int .i64 (wrap64 (t181 + 1))] rfl (by (try simp only [List.map_toArray, List.map_cons, List.map_nil]); first | done | rfl | (simp only [List.length_drop, List.length_take]; rfl)) ?_; (with_reducible refine (impl_DayParts.calls kj4 (wrap64 (t181 + 1)) t189 t190 t191 t192 _ A13.out).mono ?_); rintro e w' ⟨rfl, ⟨nd, rfl⟩⟩; refine ⟨_, rfl, ?_⟩))
          (try simp only [Act.put, List.setIfInBounds_toArray, List.set_cons_zero, List.set_cons_succ])
          go_cut [65] (fun v65 wc => ∃ (kq : Nat) (x65_13 : Bool), v65 = .bool x65_13 ∧ Aside0 (laws_FnDayNext.j1 kq t185 t186 t187 t189 t190 t191 x65_13 = some r) ∧ Aside0 (kq ≤ kj4) ∧ Aside0 (Below w.heap.size w wc))
          case first =>
            have H := HC14.out
            clear HC14
            by_cases c15 : t188 = true
            · subst c15
              have H1 : (if t192 = true then ((impl_DayWeek.f (wrap64 (t181 + 1))).bind fun t193 => (laws_FnDayNext.j1 kj4 t185 t186 t187 t189 t190 t191 (t193 != (wrap64 ((Int.tmod t182 7) + 1))))) else (laws_FnDayNext.j1 kj4 t185 t186 t187 t189 t190 t191 true)) = some r := by rw [if_pos rfl] at H; exact H
              clear H
              have H := H1
              clear H1
              by_cases c16 : t192 = true
              · subst c16
                have H1 : ((impl_DayWeek.f (wrap64 (t181 + 1))).bind fun t193 => (laws_FnDayNext.j1 kj4 t185 t186 t187 t189 t190 t191 (t193 != (wrap64 ((Int.tmod t182 7) + 1))))) = some r := by rw [if_pos rfl] at H; exact H
                clear H
                have H := H1
                clear H1
                replace H := Option.bind_eq_some_iff.mp H
                obtain ⟨t193, A170, H⟩ := H
                replace H : (laws_FnDayNext.j1 kj4 t185 t186 t187 t189 t190 t191 (t193 != (wrap64 ((Int.tmod t182 7) + 1)))) = some r := H
                have A17 := Aside0.mk A170
                clear A170
                have H' := Aside0.mk H
                clear H
                go_wp2_with (first | (go_at_call 14; (with_reducible refine (impl_DayWeek.calls (wrap64 (t181 + 1)) t193 _ A17.out).mono ?_); rintro e w' ⟨rfl, ⟨nd, rfl⟩⟩))
                go_meet
                case rel => exact ⟨_, ((t193 != (wrap64 ((Int.tmod t182 7) + 1)))), (by first | rfl | (simp; done) | (simp [*]; done)), H', ⟨by have := HJ4.out; first | omega | exact Nat.le_refl _⟩, ⟨by repeat (first | (with_reducible first | exact HB.out | apply below_alloc | apply pw_below_drewN | apply below_drew1) | exact HB.out)⟩⟩
              · replace c16 := Bool.eq_false_iff.mpr c16
                subst c16
                have H1 : (laws_FnDayNext.j1 kj4 t185 t186 t187 t189 t190 t191 true) = some r := by rw [if_neg (show ¬ (false = true) by decide)] at H; exact H
                clear H
                have H := H1
                clear H1
                have H' := Aside0.mk H
                clear H
                go_wp2
                go_meet
                case rel => exact ⟨_, (true), (by first | rfl | (simp; done) | (simp [*]; done)), H', ⟨by have := HJ4.out; first | omega | exact Nat.le_refl _⟩, ⟨by repeat (first | (with_reducible first | exact HB.out | apply below_alloc | apply pw_below_drewN | apply below_drew1) | exact HB.out)⟩⟩
            · replace c15 := Bool.eq_false_iff.mpr c15
              subst c15
              have H1 : (laws_FnDayNext.j1 kj4 t185 t186 t187 t189 t190 t191 true) = some r := by rw [if_neg (show ¬ (false = true) by decide)] at H; exact H
              clear H
              have H := H1
              clear H1
              have H' := Aside0.mk H
              clear H
              go_wp2
              go_meet
              case rel => exact ⟨_, (true), (by first | rfl | (simp; done) | (simp [*]; done)), H', ⟨by have := HJ4.out; first | omega | exact Nat.le_refl _⟩, ⟨by repeat (first | (with_reducible first | exact HB.out | apply below_alloc | apply pw_below_drewN | apply below_drew1) | exact HB.out)⟩⟩
          case rest =>
            clear HC14
            try clear c1
            try clear c2
            try clear c2b0
            try clear c2b1
            try clear p2
            try clear c4
            try clear p6
            try clear c8
            try clear c8b0
            try clear c8b1
            try clear c9
            try clear c9b0
            try clear c9b1
            try clear c10
            try clear c12
            try clear c13
            try clear c14
            try clear c15
            try clear c16
            try clear p2
            obtain ⟨kq, x65_13, rfl, HA, HJ13, HB⟩ := hcut
            cases kq with
            | zero => exact absurd HA.out (by simp [laws_FnDayNext.j1])
            | succ kj13 =>
              have H := HA.out
              clear HA
              simp only [laws_FnDayNext.j1] at H
              by_cases c18 : x65_13 = true
              · subst c18
                have H1 : (some false) = some r := by rw [if_pos rfl] at H; exact H
                clear H
                have H := H1
                clear H1
                obtain rfl := Option.some.inj H
                go_wp2
                go_ret
                exact ⟨by first | rfl | (simp [errW_none, errW_some] <;> rfl) | (simp [*, errW_none, errW_some] <;> rfl), by repeat (first | (with_reducible first | exact HB.out | apply below_alloc | apply pw_below_drewN | apply below_drew1) | exact HB.out)⟩
              · replace c18 := Bool.eq_false_iff.mpr c18
                subst c18
                have H1 : ((impl_DayLast.f kj13 t185 t186).bind fun t194 => (if t187 < t194 then (if t189 = t185 then (if t190 = t186 then (some (t191 == (wrap64 (t187 + 1)))) else (some false)) else (some false)) else (if t186 < 12 then (if t189 = t185 then (if t190 = (wrap64 (t186 + 1)) then (some (t191 == 1)) else (some false)) else (some false)) else (if t189 = (wrap64 (t185 + 1)) then (if t190 = 1 then (some (t191 == 1)) else (some false)) else (some false))))) = some r := by rw [if_neg (show ¬ (false = true) by decide)] at H; exact H
                clear H
                have H := H1
                clear H1
                replace H := Option.bind_eq_some_iff.mp H
                obtain ⟨t194, A190, H⟩ := H
                replace H : (if t187 < t194 then (if t189 = t185 then (if t190 = t186 then (some (t191 == (wrap64 (t187 + 1)))) else (some false)) else (some false)) else (if t186 < 12 then (if t189 = t185 then (if t190 = (wrap64 (t186 + 1)) then (some (t191 == 1)) else (some false)) else (some false)) else (if t189 = (wrap64 (t185 + 1)) then (if t190 = 1 then (some (t191 == 1)) else (some false)) else (some false)))) = some r := H
                have A19 := Aside0.mk A190
                clear A190
                by_cases c20 : t187 < t194
                · rw [if_pos c20] at H
                  have c20b0 : decide (t187 < t194) = true := decide_eq_true c20
                  clear c20
                  by_cases c21 : t189 = t185
                  · rw [if_pos c21] at H
                    have c21b0 : (t189 == t185) = true := beq_iff_eq.mpr c21
                    have c21b1 : (t189 != t185) = false := bne_eq_false_iff_eq.mpr c21
                    clear c21
                    by_cases c22 : t190 = t186
                    · rw [if_pos c22] at H
                      have c22b0 : (t190 == t186) = true := beq_iff_eq.mpr c22
                      have c22b1 : (t190 != t186) = false := bne_eq_false_iff_eq.mpr c22
                      clear c22
                      obtain rfl := Option.some.inj H
                      go_wp2_with (first | ((with_reducible refine gate_callee (f := 16) rfl ?_); refine goesL_ (some 69) rfl rfl Try.func16 (by kernel_rfl) rfl #[.int .i64 t185, .int .i64 t186] rfl (by (try simp only [List.map_toArray, List.map_cons, List.map_nil]); first | done | rfl | (simp only [List.length_drop, List.length_take]; rfl)) ?_; (with_reducible refine (impl_DayLast.calls kj13 t185 t186 t194 _ A19.out).mono ?_); rintro e w' ⟨rfl, ⟨nd, rfl⟩⟩; refine ⟨_, rfl, ?_⟩))
                      go_ret
                      exact ⟨by first | rfl | (simp [errW_none, errW_some] <;> rfl) | (simp [*, errW_none, errW_some] <;> rfl), by repeat (first | (with_reducible first | exact HB.out | apply below_alloc | apply pw_below_drewN | apply below_drew1) | exact HB.out)⟩
                    · rw [if_neg c22] at H
                      have c22b0 : (t190 == t186) = false := beq_eq_false_iff_ne.mpr c22
                      have c22b1 : (t190 != t186) = true := bne_iff_ne.mpr c22
                      obtain rfl := Option.some.inj H
                      go_wp2_with (first | ((with_reducible refine gate_callee (f := 16) rfl ?_); refine goesL_ (some 69) rfl rfl Try.func16 (by kernel_rfl) rfl #[.int .i64 t185, .int .i64 t186] rfl (by (try simp only [List.map_toArray, List.map_cons, List.map_nil]); first | done | rfl | (simp only [List.length_drop, List.length_take]; rfl)) ?_; (with_reducible refine (impl_DayLast.calls kj13 t185 t186 t194 _ A19.out).mono ?_); rintro e w' ⟨rfl, ⟨nd, rfl⟩⟩; refine ⟨_, rfl, ?_⟩))
                      go_ret
                      exact ⟨by first | rfl | (simp [errW_none, errW_some] <;> rfl) | (simp [*, errW_none, errW_some] <;> rfl), by repeat (first | (with_reducible first | exact HB.out | apply below_alloc | apply pw_below_drewN | apply below_drew1) | exact HB.out)⟩
                  · rw [if_neg c21] at H
                    have c21b0 : (t189 == t185) = false := beq_eq_false_iff_ne.mpr c21
                    have c21b1 : (t189 != t185) = true := bne_iff_ne.mpr c21
                    obtain rfl := Option.some.inj H
                    go_wp2_with (first | ((with_reducible refine gate_callee (f := 16) rfl ?_); refine goesL_ (some 69) rfl rfl Try.func16 (by kernel_rfl) rfl #[.int .i64 t185, .int .i64 t186] rfl (by (try simp only [List.map_toArray, List.map_cons, List.map_nil]); first | done | rfl | (simp only [List.length_drop, List.length_take]; rfl)) ?_; (with_reducible refine (impl_DayLast.calls kj13 t185 t186 t194 _ A19.out).mono ?_); rintro e w' ⟨rfl, ⟨nd, rfl⟩⟩; refine ⟨_, rfl, ?_⟩))
                    go_ret
                    exact ⟨by first | rfl | (simp [errW_none, errW_some] <;> rfl) | (simp [*, errW_none, errW_some] <;> rfl), by repeat (first | (with_reducible first | exact HB.out | apply below_alloc | apply pw_below_drewN | apply below_drew1) | exact HB.out)⟩
                · rw [if_neg c20] at H
                  have c20b0 : decide (t187 < t194) = false := decide_eq_false c20
                  clear c20
                  by_cases c23 : t186 < 12
                  · rw [if_pos c23] at H
                    have c23b0 : decide (t186 < 12) = true := decide_eq_true c23
                    clear c23
                    by_cases c24 : t189 = t185
                    · rw [if_pos c24] at H
                      have c24b0 : (t189 == t185) = true := beq_iff_eq.mpr c24
                      have c24b1 : (t189 != t185) = false := bne_eq_false_iff_eq.mpr c24
                      clear c24
                      by_cases c25 : t190 = (wrap64 (t186 + 1))
                      · rw [if_pos c25] at H
                        have c25b0 : (t190 == (wrap64 (t186 + 1))) = true := beq_iff_eq.mpr c25
                        have c25b1 : (t190 != (wrap64 (t186 + 1))) = false := bne_eq_false_iff_eq.mpr c25
                        clear c25
                        obtain rfl := Option.some.inj H
                        go_wp2_with (first | ((with_reducible refine gate_callee (f := 16) rfl ?_); refine goesL_ (some 69) rfl rfl Try.func16 (by kernel_rfl) rfl #[.int .i64 t185, .int .i64 t186] rfl (by (try simp only [List.map_toArray, List.map_cons, List.map_nil]); first | done | rfl | (simp only [List.length_drop, List.length_take]; rfl)) ?_; (with_reducible refine (impl_DayLast.calls kj13 t185 t186 t194 _ A19.out).mono ?_); rintro e w' ⟨rfl, ⟨nd, rfl⟩⟩; refine ⟨_, rfl, ?_⟩))
                        go_ret
                        exact ⟨by first | rfl | (simp [errW_none, errW_some] <;> rfl) | (simp [*, errW_none, errW_some] <;> rfl), by repeat (first | (with_reducible first | exact HB.out | apply below_alloc | apply pw_below_drewN | apply below_drew1) | exact HB.out)⟩
                      · rw [if_neg c25] at H
                        have c25b0 : (t190 == (wrap64 (t186 + 1))) = false := beq_eq_false_iff_ne.mpr c25
                        have c25b1 : (t190 != (wrap64 (t186 + 1))) = true := bne_iff_ne.mpr c25
                        obtain rfl := Option.some.inj H
                        go_wp2_with (first | ((with_reducible refine gate_callee (f := 16) rfl ?_); refine goesL_ (some 69) rfl rfl Try.func16 (by kernel_rfl) rfl #[.int .i64 t185, .int .i64 t186] rfl (by (try simp only [List.map_toArray, List.map_cons, List.map_nil]); first | done | rfl | (simp only [List.length_drop, List.length_take]; rfl)) ?_; (with_reducible refine (impl_DayLast.calls kj13 t185 t186 t194 _ A19.out).mono ?_); rintro e w' ⟨rfl, ⟨nd, rfl⟩⟩; refine ⟨_, rfl, ?_⟩))
                        go_ret
                        exact ⟨by first | rfl | (simp [errW_none, errW_some] <;> rfl) | (simp [*, errW_none, errW_some] <;> rfl), by repeat (first | (with_reducible first | exact HB.out | apply below_alloc | apply pw_below_drewN | apply below_drew1) | exact HB.out)⟩
                    · rw [if_neg c24] at H
                      have c24b0 : (t189 == t185) = false := beq_eq_false_iff_ne.mpr c24
                      have c24b1 : (t189 != t185) = true := bne_iff_ne.mpr c24
                      obtain rfl := Option.some.inj H
                      go_wp2_with (first | ((with_reducible refine gate_callee (f := 16) rfl ?_); refine goesL_ (some 69) rfl rfl Try.func16 (by kernel_rfl) rfl #[.int .i64 t185, .int .i64 t186] rfl (by (try simp only [List.map_toArray, List.map_cons, List.map_nil]); first | done | rfl | (simp only [List.length_drop, List.length_take]; rfl)) ?_; (with_reducible refine (impl_DayLast.calls kj13 t185 t186 t194 _ A19.out).mono ?_); rintro e w' ⟨rfl, ⟨nd, rfl⟩⟩; refine ⟨_, rfl, ?_⟩))
                      go_ret
                      exact ⟨by first | rfl | (simp [errW_none, errW_some] <;> rfl) | (simp [*, errW_none, errW_some] <;> rfl), by repeat (first | (with_reducible first | exact HB.out | apply below_alloc | apply pw_below_drewN | apply below_drew1) | exact HB.out)⟩
                  · rw [if_neg c23] at H
                    have c23b0 : decide (t186 < 12) = false := decide_eq_false c23
                    clear c23
                    by_cases c26 : t189 = (wrap64 (t185 + 1))
                    · rw [if_pos c26] at H
                      have c26b0 : (t189 == (wrap64 (t185 + 1))) = true := beq_iff_eq.mpr c26
                      have c26b1 : (t189 != (wrap64 (t185 + 1))) = false := bne_eq_false_iff_eq.mpr c26
                      clear c26
                      by_cases c27 : t190 = 1
                      · rw [if_pos c27] at H
                        have c27b0 : (t190 == 1) = true := beq_iff_eq.mpr c27
                        have c27b1 : (t190 != 1) = false := bne_eq_false_iff_eq.mpr c27
                        clear c27
                        obtain rfl := Option.some.inj H
                        go_wp2_with (first | ((with_reducible refine gate_callee (f := 16) rfl ?_); refine goesL_ (some 69) rfl rfl Try.func16 (by kernel_rfl) rfl #[.int .i64 t185, .int .i64 t186] rfl (by (try simp only [List.map_toArray, List.map_cons, List.map_nil]); first | done | rfl | (simp only [List.length_drop, List.length_take]; rfl)) ?_; (with_reducible refine (impl_DayLast.calls kj13 t185 t186 t194 _ A19.out).mono ?_); rintro e w' ⟨rfl, ⟨nd, rfl⟩⟩; refine ⟨_, rfl, ?_⟩))
                        go_ret
                        exact ⟨by first | rfl | (simp [errW_none, errW_some] <;> rfl) | (simp [*, errW_none, errW_some] <;> rfl), by repeat (first | (with_reducible first | exact HB.out | apply below_alloc | apply pw_below_drewN | apply below_drew1) | exact HB.out)⟩
                      · rw [if_neg c27] at H
                        have c27b0 : (t190 == 1) = false := beq_eq_false_iff_ne.mpr c27
                        have c27b1 : (t190 != 1) = true := bne_iff_ne.mpr c27
                        obtain rfl := Option.some.inj H
                        go_wp2_with (first | ((with_reducible refine gate_callee (f := 16) rfl ?_); refine goesL_ (some 69) rfl rfl Try.func16 (by kernel_rfl) rfl #[.int .i64 t185, .int .i64 t186] rfl (by (try simp only [List.map_toArray, List.map_cons, List.map_nil]); first | done | rfl | (simp only [List.length_drop, List.length_take]; rfl)) ?_; (with_reducible refine (impl_DayLast.calls kj13 t185 t186 t194 _ A19.out).mono ?_); rintro e w' ⟨rfl, ⟨nd, rfl⟩⟩; refine ⟨_, rfl, ?_⟩))
                        go_ret
                        exact ⟨by first | rfl | (simp [errW_none, errW_some] <;> rfl) | (simp [*, errW_none, errW_some] <;> rfl), by repeat (first | (with_reducible first | exact HB.out | apply below_alloc | apply pw_below_drewN | apply below_drew1) | exact HB.out)⟩
                    · rw [if_neg c26] at H
                      have c26b0 : (t189 == (wrap64 (t185 + 1))) = false := beq_eq_false_iff_ne.mpr c26
                      have c26b1 : (t189 != (wrap64 (t185 + 1))) = true := bne_iff_ne.mpr c26
                      obtain rfl := Option.some.inj H
                      go_wp2_with (first | ((with_reducible refine gate_callee (f := 16) rfl ?_); refine goesL_ (some 69) rfl rfl Try.func16 (by kernel_rfl) rfl #[.int .i64 t185, .int .i64 t186] rfl (by (try simp only [List.map_toArray, List.map_cons, List.map_nil]); first | done | rfl | (simp only [List.length_drop, List.length_take]; rfl)) ?_; (with_reducible refine (impl_DayLast.calls kj13 t185 t186 t194 _ A19.out).mono ?_); rintro e w' ⟨rfl, ⟨nd, rfl⟩⟩; refine ⟨_, rfl, ?_⟩))
                      go_ret
                      exact ⟨by first | rfl | (simp [errW_none, errW_some] <;> rfl) | (simp [*, errW_none, errW_some] <;> rfl), by repeat (first | (with_reducible first | exact HB.out | apply below_alloc | apply pw_below_drewN | apply below_drew1) | exact HB.out)⟩

/-- THE ONE PURE STATEMENT of laws_FnDayNext: yours. -/
def laws_FnDayNext.Pure : Prop := ∀ (l0 : List Int), l0.length ≤ maxLen → l0.length * 1 ≤ 140737488351232 → (∀ x ∈ l0, (Lit.int .u8 x).wf = true) → ∃ k, laws_FnDayNext.f k l0 = some true
theorem laws_FnDayNext.walk (P : laws_FnDayNext.Pure) (a0 : Option Addr) (len0 cap0 : Nat) (z0 : List Int) (w : World) (w0 : (a0 = none ∧ len0 = 0 ∧ cap0 = 0 ∧ z0 = []) ∨ ∃ x, a0 = some x ∧ len0 ≤ cap0 ∧ cap0 ≤ maxLen ∧ z0.length = cap0 ∧ (∀ i, i < z0.length → w.cell? (x.add i) = some (.int .u8 (z0.getD i 0))) ∧ ∀ n ∈ z0, (Lit.int .u8 n).wf = true) (y0 : len0 * 1 ≤ 140737488351232) :
    Calls Try.prog 4 #[.slice a0 len0 cap0] w fun e w' => e = .returned (.bool true) ∧ Below w.heap.size w w' := by
  obtain ⟨l0, rfl, hr0, hm0, hw0, hc0⟩ := ReadsInt.ofRowC w0
  obtain ⟨k, h⟩ := P l0 hm0 y0 hw0
  refine (laws_FnDayNext.calls k _ _ l0 true w (Kd.C_of_reads (d := (0 : Int)) (h1 := fun _ => rfl) hr0) hc0 h).mono ?_
  rintro e w' ⟨rfl, hd⟩
  exact ⟨rfl, hd⟩

end Go.Proofs.Ytabjadjcecnicaa.PFnDayNext
