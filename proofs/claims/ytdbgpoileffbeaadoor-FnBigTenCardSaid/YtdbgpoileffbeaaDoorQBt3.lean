/- What the claim's row needs of the contracts and words below it, and no more. -/
import Derived.Test.YtdbgpoileffbeaaDoorQBt2
import Derived.Test.YtdbgpoileffbeaaDoorRows
import Derived.Stop.LaidErr
import Derived.Lib.LaidTab
import Derived.Shelf.Vars
import Derived.SizedLaws
import Derived.KernelRfl
section
namespace Go.Proofs.YtdbgpoileffbeaaDoor.Pr
open Go.RowKit Go.Proofs.YtdbgpoileffbeaaDoorW.PrintWords Go.Proofs.YtdbgpoileffbeaaDoorW.PrintLast Go.Proofs.YtdbgpoileffbeaaDoor.Ext Go.Proofs.YtdbgpoileffbeaaDoorW.PrintMore
attribute [local go_sem] max2_int min2_int max_two min_two max_three min_three max_four min_four
set_option linter.unusedVariables false
set_option linter.unusedSimpArgs false
mutual
def laws_FnBigTen.j0 : Nat → List Int → List Int → Bool → Option (Bool)
  | 0, _, _, _ => none
  | k + 1, x0, x1, x24 => if x24 = true then (some true) else ((spec_DrawBigTen.f k x0).bind fun t482 => ((spec_DrawBigTen.f k x1).bind fun t483 => ((impl_BigTen.f k t482).bind fun bt484 => ((impl_BigTen.f k t483).bind fun bt490 => ((spec_BigTen.f k t482).bind fun bt496 => (if (bt484.2.2 != bt496.2.2) = true then (laws_FnBigTen.j1 k t482 t483 bt484.2.2 bt496.2.2 true bt484.1 bt484.2.1 bt490.1 bt490.2.1 bt496.1 bt496.2.1) else ((laws_jtBig.f k bt484.1 bt484.2.1 bt496.1 bt496.2.1).bind fun t502 => (if t502 = true then (if bt484.2.2 = true then (laws_FnBigTen.j1 k t482 t483 bt484.2.2 bt496.2.2 (!bt490.2.2) bt484.1 bt484.2.1 bt490.1 bt490.2.1 bt496.1 bt496.2.1) else (laws_FnBigTen.j1 k t482 t483 bt484.2.2 bt496.2.2 true bt484.1 bt484.2.1 bt490.1 bt490.2.1 bt496.1 bt496.2.1)) else (laws_FnBigTen.j1 k t482 t483 bt484.2.2 bt496.2.2 true bt484.1 bt484.2.1 bt490.1 bt490.2.1 bt496.1 bt496.2.1)))))))))
def laws_FnBigTen.j1 : Nat → Int → Int → Bool → Bool → Bool → Bool → List Int → Bool → List Int → Bool → List Int → Option (Bool)
  | 0, _, _, _, _, _, _, _, _, _, _, _ => none
  | k + 1, x5, x6, x8, x12, x60, x490000, x490001, x496000, x496001, x502000, x502001 => if x60 = true then (if (x8 == x12) = true then ((laws_jtBig.f k x490000 x490001 x502000 x502001).bind fun t503 => (some t503)) else (some false)) else ((impl_BigMul.f k x490000 x490001 x496000 x496001).bind fun bt504 => ((impl_BigTen.f k (wrap64 (x5 + x6))).bind fun bt510 => (if (bt504.2.2 == bt510.2.2) = true then ((laws_jtBig.f k bt504.1 bt504.2.1 bt510.1 bt510.2.1).bind fun t516 => (if t516 = true then ((impl_BigPut.f x490000 x490001).bind fun t517 => (some ((t517.size : Int) == (wrap64 (x5 + 1))))) else (some false))) else (some false))))
end
def laws_FnBigTen.f (k : Nat) (l0 : List Int) (l1 : List Int) : Option (Bool) := if (l0.length : Int) > 1048576 then (laws_FnBigTen.j0 k l0 l1 true) else (laws_FnBigTen.j0 k l0 l1 (decide ((l1.length : Int) > 1048576)))
set_option maxHeartbeats 8000000 in
set_option maxRecDepth 100000 in
theorem laws_FnBigTen.calls (k : Nat) (A0 : Option Addr) (c0 : Nat) (l0 : List Int) (A1 : Option Addr) (c1 : Nat) (l1 : List Int) (r : Bool) (w : World) (hT : EnvI w) (hr0 : Kd.C (Kd.int .u8) w A0 l0.length l0) (hc0 : l0.length ≤ c0) (hr1 : Kd.C (Kd.int .u8) w A1 l1.length l1) (hc1 : l1.length ≤ c1) (h : laws_FnBigTen.f k l0 l1 = some r) :
    Calls Tryd.prog 8 #[.slice A0 l0.length c0, .slice A1 l1.length c1] w fun e w' => e = .returned (.bool r) ∧ Below w.heap.size w w' := by
  have hu27 := Tryd.underlying27
  have HR0 := Aside0.mk hr0
  have HC0 := Aside0.mk hc0
  clear hr0 hc0
  have HR1 := Aside0.mk hr1
  have HC1 := Aside0.mk hc1
  clear hr1 hc1
  have HB := Aside0.mk (Below.refl w.heap.size w)
  have HT := Aside0.mk hT
  clear hT
  have H : (if (l0.length : Int) > 1048576 then (laws_FnBigTen.j0 k l0 l1 true) else (laws_FnBigTen.j0 k l0 l1 (decide ((l1.length : Int) > 1048576)))) = some r := h
  clear h
  have HC3 := Aside0.mk H
  clear H
  go_enter Tryd.func8, Tryd.ntmps8
  go_upto_region 1 with (fail)
  go_cut [24] (fun v24 wc => ∃ (kq : Nat) (x24_2 : Bool), v24 = .bool x24_2 ∧ Aside0 (laws_FnBigTen.j0 kq l0 l1 x24_2 = some r) ∧ Aside0 (kq ≤ k) ∧ Aside0 (Below w.heap.size w wc))
  case first =>
    have H := HC3.out
    clear HC3
    by_cases c4 : (l0.length : Int) > 1048576
    · rw [if_pos c4] at H
      have c4b0 : decide (1048576 < (l0.length : Int)) = true := decide_eq_true c4
      have c4b1 : decide (1048576 < l0.length) = true := decide_eq_true (by omega)
      clear c4
      (first | rw [c4b0] | (simp only [i64_w, i32_w]; rw [c4b0]) | skip)
      have H' := Aside0.mk H
      clear H
      go_wp2
      go_meet
      case rel => exact ⟨_, (true), (by first | rfl | (simp; done) | (simp [*]; done)), H', ⟨by first | omega | exact Nat.le_refl _⟩, ⟨zb⟩⟩
    · rw [if_neg c4] at H
      have c4b0 : decide (1048576 < (l0.length : Int)) = false := decide_eq_false c4
      have c4b1 : decide (1048576 < l0.length) = false := decide_eq_false (by omega)
      clear c4
      (first | rw [c4b0] | (simp only [i64_w, i32_w]; rw [c4b0]) | skip)
      have H' := Aside0.mk H
      clear H
      go_wp2
      go_meet
      case rel => exact ⟨_, (decide ((l1.length : Int) > 1048576)), (by first | rfl | (simp; done) | (simp [*]; done)), H', ⟨by first | omega | exact Nat.le_refl _⟩, ⟨zb⟩⟩
  case rest =>
    clear HC3
    try clear c1
    try clear p2
    try clear c4
    try clear c4b0
    try clear c4b1
    obtain ⟨kq, x24_2, rfl, HA, HJ2, HB⟩ := hcut
    cases kq with
    | zero => exact absurd HA.out (by simp [laws_FnBigTen.j0])
    | succ kj2 =>
      have H := HA.out
      clear HA
      simp only [laws_FnBigTen.j0] at H
      by_cases c5 : x24_2 = true
      · subst c5
        have H1 : (some true) = some r := by rw [if_pos rfl] at H; exact H
        clear H
        have H := H1
        clear H1
        obtain rfl := Option.some.inj H
        go_wp2
        go_ret
        exact ⟨by first | rfl | (simp [errW_none, errW_some] <;> rfl) | (simp [*, errW_none, errW_some] <;> rfl), zb⟩
      · replace c5 := Bool.eq_false_iff.mpr c5
        subst c5
        have H1 : ((spec_DrawBigTen.f kj2 l0).bind fun t482 => ((spec_DrawBigTen.f kj2 l1).bind fun t483 => ((impl_BigTen.f kj2 t482).bind fun bt484 => ((impl_BigTen.f kj2 t483).bind fun bt490 => ((spec_BigTen.f kj2 t482).bind fun bt496 => (if (bt484.2.2 != bt496.2.2) = true then (laws_FnBigTen.j1 kj2 t482 t483 bt484.2.2 bt496.2.2 true bt484.1 bt484.2.1 bt490.1 bt490.2.1 bt496.1 bt496.2.1) else ((laws_jtBig.f kj2 bt484.1 bt484.2.1 bt496.1 bt496.2.1).bind fun t502 => (if t502 = true then (if bt484.2.2 = true then (laws_FnBigTen.j1 kj2 t482 t483 bt484.2.2 bt496.2.2 (!bt490.2.2) bt484.1 bt484.2.1 bt490.1 bt490.2.1 bt496.1 bt496.2.1) else (laws_FnBigTen.j1 kj2 t482 t483 bt484.2.2 bt496.2.2 true bt484.1 bt484.2.1 bt490.1 bt490.2.1 bt496.1 bt496.2.1)) else (laws_FnBigTen.j1 kj2 t482 t483 bt484.2.2 bt496.2.2 true bt484.1 bt484.2.1 bt490.1 bt490.2.1 bt496.1 bt496.2.1))))))))) = some r := by rw [if_neg (show ¬ (false = true) by decide)] at H; exact H
        clear H
        have H := H1
        clear H1
        replace H := Option.bind_eq_some_iff.mp H
        obtain ⟨t482, A60, H⟩ := H
        replace H : ((spec_DrawBigTen.f kj2 l1).bind fun t483 => ((impl_BigTen.f kj2 t482).bind fun bt484 => ((impl_BigTen.f kj2 t483).bind fun bt490 => ((spec_BigTen.f kj2 t482).bind fun bt496 => (if (bt484.2.2 != bt496.2.2) = true then (laws_FnBigTen.j1 kj2 t482 t483 bt484.2.2 bt496.2.2 true bt484.1 bt484.2.1 bt490.1 bt490.2.1 bt496.1 bt496.2.1) else ((laws_jtBig.f kj2 bt484.1 bt484.2.1 bt496.1 bt496.2.1).bind fun t502 => (if t502 = true then (if bt484.2.2 = true then (laws_FnBigTen.j1 kj2 t482 t483 bt484.2.2 bt496.2.2 (!bt490.2.2) bt484.1 bt484.2.1 bt490.1 bt490.2.1 bt496.1 bt496.2.1) else (laws_FnBigTen.j1 kj2 t482 t483 bt484.2.2 bt496.2.2 true bt484.1 bt484.2.1 bt490.1 bt490.2.1 bt496.1 bt496.2.1)) else (laws_FnBigTen.j1 kj2 t482 t483 bt484.2.2 bt496.2.2 true bt484.1 bt484.2.1 bt490.1 bt490.2.1 bt496.1 bt496.2.1)))))))) = some r := H
        have A6 := Aside0.mk A60
        clear A60
        replace H := Option.bind_eq_some_iff.mp H
        obtain ⟨t483, A70, H⟩ := H
        replace H : ((impl_BigTen.f kj2 t482).bind fun bt484 => ((impl_BigTen.f kj2 t483).bind fun bt490 => ((spec_BigTen.f kj2 t482).bind fun bt496 => (if (bt484.2.2 != bt496.2.2) = true then (laws_FnBigTen.j1 kj2 t482 t483 bt484.2.2 bt496.2.2 true bt484.1 bt484.2.1 bt490.1 bt490.2.1 bt496.1 bt496.2.1) else ((laws_jtBig.f kj2 bt484.1 bt484.2.1 bt496.1 bt496.2.1).bind fun t502 => (if t502 = true then (if bt484.2.2 = true then (laws_FnBigTen.j1 kj2 t482 t483 bt484.2.2 bt496.2.2 (!bt490.2.2) bt484.1 bt484.2.1 bt490.1 bt490.2.1 bt496.1 bt496.2.1) else (laws_FnBigTen.j1 kj2 t482 t483 bt484.2.2 bt496.2.2 true bt484.1 bt484.2.1 bt490.1 bt490.2.1 bt496.1 bt496.2.1)) else (laws_FnBigTen.j1 kj2 t482 t483 bt484.2.2 bt496.2.2 true bt484.1 bt484.2.1 bt490.1 bt490.2.1 bt496.1 bt496.2.1))))))) = some r := H
        have A7 := Aside0.mk A70
        clear A70
        replace H := Option.bind_eq_some_iff.mp H
        obtain ⟨⟨t484, t485, t488⟩, A80, H⟩ := H
        replace H : ((impl_BigTen.f kj2 t483).bind fun bt490 => ((spec_BigTen.f kj2 t482).bind fun bt496 => (if (t488 != bt496.2.2) = true then (laws_FnBigTen.j1 kj2 t482 t483 t488 bt496.2.2 true t484 t485 bt490.1 bt490.2.1 bt496.1 bt496.2.1) else ((laws_jtBig.f kj2 t484 t485 bt496.1 bt496.2.1).bind fun t502 => (if t502 = true then (if t488 = true then (laws_FnBigTen.j1 kj2 t482 t483 t488 bt496.2.2 (!bt490.2.2) t484 t485 bt490.1 bt490.2.1 bt496.1 bt496.2.1) else (laws_FnBigTen.j1 kj2 t482 t483 t488 bt496.2.2 true t484 t485 bt490.1 bt490.2.1 bt496.1 bt496.2.1)) else (laws_FnBigTen.j1 kj2 t482 t483 t488 bt496.2.2 true t484 t485 bt490.1 bt490.2.1 bt496.1 bt496.2.1)))))) = some r := H
        have A8 := Aside0.mk A80
        clear A80
        replace H := Option.bind_eq_some_iff.mp H
        obtain ⟨⟨t490, t491, t494⟩, A90, H⟩ := H
        replace H : ((spec_BigTen.f kj2 t482).bind fun bt496 => (if (t488 != bt496.2.2) = true then (laws_FnBigTen.j1 kj2 t482 t483 t488 bt496.2.2 true t484 t485 t490 t491 bt496.1 bt496.2.1) else ((laws_jtBig.f kj2 t484 t485 bt496.1 bt496.2.1).bind fun t502 => (if t502 = true then (if t488 = true then (laws_FnBigTen.j1 kj2 t482 t483 t488 bt496.2.2 (!t494) t484 t485 t490 t491 bt496.1 bt496.2.1) else (laws_FnBigTen.j1 kj2 t482 t483 t488 bt496.2.2 true t484 t485 t490 t491 bt496.1 bt496.2.1)) else (laws_FnBigTen.j1 kj2 t482 t483 t488 bt496.2.2 true t484 t485 t490 t491 bt496.1 bt496.2.1))))) = some r := H
        have A9 := Aside0.mk A90
        clear A90
        replace H := Option.bind_eq_some_iff.mp H
        obtain ⟨⟨t496, t497, t500⟩, A100, H⟩ := H
        replace H : (if (t488 != t500) = true then (laws_FnBigTen.j1 kj2 t482 t483 t488 t500 true t484 t485 t490 t491 t496 t497) else ((laws_jtBig.f kj2 t484 t485 t496 t497).bind fun t502 => (if t502 = true then (if t488 = true then (laws_FnBigTen.j1 kj2 t482 t483 t488 t500 (!t494) t484 t485 t490 t491 t496 t497) else (laws_FnBigTen.j1 kj2 t482 t483 t488 t500 true t484 t485 t490 t491 t496 t497)) else (laws_FnBigTen.j1 kj2 t482 t483 t488 t500 true t484 t485 t490 t491 t496 t497)))) = some r := H
        have A10 := Aside0.mk A100
        clear A100
        have HC11 := Aside0.mk H
        clear H
        go_upto_region 8 with (first | ((with_reducible refine gate_callee (f := 28) rfl ?_); refine goesL_ (some 26) rfl rfl Tryd.func28 (by kernel_rfl) rfl #[.slice A0 l0.length c0] rfl za ?_; (with_reducible refine (spec_DrawBigTen.calls kj2 _ _ l0 t482 _ ?side1 ?side2 A6.out).mono ?_); (case side1 => repeat (first | exact (Kd.C_below HR0.out HB.out) | (with_reducible refine Kd.C_alloc ?_ _) | (with_reducible refine Kd.C_drewN ?_ _) | (with_reducible refine Kd.C_drew ?_))); (case side2 => exact HC0.out); rintro e w12 ⟨rfl, hb⟩; refine ⟨_, rfl, ?_⟩; have n0_ := Aside0.mk (below_step zb hb); clear HB; have HB := n0_; clear n0_; (try clear hb); (try clear hb2); (try clear hk); (try clear hi)) | ((with_reducible refine gate_callee (f := 28) rfl ?_); refine goesL_ (some 28) rfl rfl Tryd.func28 (by kernel_rfl) rfl #[.slice A1 l1.length c1] rfl za ?_; (with_reducible refine (spec_DrawBigTen.calls kj2 _ _ l1 t483 _ ?side1 ?side2 A7.out).mono ?_); (case side1 => repeat (first | exact (Kd.C_below HR1.out HB.out) | (with_reducible refine Kd.C_alloc ?_ _) | (with_reducible refine Kd.C_drewN ?_ _) | (with_reducible refine Kd.C_drew ?_))); (case side2 => exact HC1.out); rintro e w13 ⟨rfl, hb⟩; refine ⟨_, rfl, ?_⟩; have n0_ := Aside0.mk (below_step zb hb); clear HB; have HB := n0_; clear n0_; (try clear hb); (try clear hb2); (try clear hk); (try clear hi)) | ((with_reducible refine gate_callee (f := 29) rfl ?_); refine goesL_ (some 31) rfl rfl Tryd.func29 (by kernel_rfl) rfl #[.int .i64 t482] rfl za ?_; (with_reducible refine (impl_BigTen.calls kj2 t482 t484 t485 t488 _ A8.out).mono ?_); rintro e w14 ⟨v486, rfl, ho0, hb⟩; refine ⟨_, rfl, ?_⟩; have n0_ := Aside0.mk (Kd.V_lower (Kd.V_mono (ok' := fun k_ => True) ho0 (fun k_ hk_ => trivial)) (below_size zb)); have n1_ := Aside0.mk (below_step zb hb); clear HB; have HO487 := n0_; have HB := n1_; clear n0_ n1_; (try clear hb); (try clear hb2); (try clear hk); (try clear hi); (try clear ho0)) | ((with_reducible refine gate_dst (N := 7) rfl ?_); (try (refine gate_guard (by rfl) ?_; dsimp only)); refine box_event ?hg (N := 7) ?hd (cs := #[.bool false, .slice none 0 0]) (t := 27) ?hr ?_; (case hd => rfl); (case hg => rfl); (case hr => first | (go_simp; done) | (go_simp; rfl)); intro gb489 hg w15 hbox hb; have n0_ := Aside0.mk (Kd.V_below (Kd.V_elderB (zV HO487.out) gb489 (Nat.le_of_eq hg.symm)) hb); have n1_ := Aside0.mk (below_step zb hb); have n2_ := Aside0.mk (hbox); have n3_ := Aside0.mk ((by rw [hg]; exact (below_size zb) : w.heap.size ≤ gb489)); have n4_ := Aside0.mk ((by rw [hg]; exact (below_size zb) : w.heap.size ≤ gb489)); clear HO487; clear HB; have HO487 := n0_; have HB := n1_; have BK489 := n2_; have GW489 := n3_; have GE489 := n4_; clear n0_ n1_ n2_ n3_ n4_; clear hb hbox hg; have hcz16_0 : w15.cell? ⟨gb489, 0, none⟩ = some (.bool false) := (blk_cell BK489.out 0).trans rfl; have hcz16_1 : w15.cell? ⟨gb489, 1, none⟩ = some (.slice none 0 0) := (blk_cell BK489.out 1).trans rfl; have hfz16_0 := blk_frozen BK489.out 0; have hfz16_1 := blk_frozen BK489.out 1; obtain ⟨Ao17, co17, eo17⟩ := Kd.V_slice HO487.out; subst eo17) | ((with_reducible refine gate_callee (f := 29) rfl ?_); refine goesL_ (some 36) rfl rfl Tryd.func29 (by kernel_rfl) rfl #[.int .i64 t483] rfl za ?_; (with_reducible refine (impl_BigTen.calls kj2 t483 t490 t491 t494 _ A9.out).mono ?_); rintro e w18 ⟨v492, rfl, ho0, hb⟩; refine ⟨_, rfl, ?_⟩; have n0_ := Aside0.mk (Kd.V_below (by (with_reducible repeat (first | apply Kd.V_alloc | apply Kd.V_drewN | apply Kd.V_drew)); exact (Kd.V_mono (Kd.V_far (p := ⟨gb489, 1, none⟩) (Kd.V_far (p := ⟨gb489, 0, none⟩) (Kd.V_mono HO487.out (fun k_ hk => (⟨hk, hk.2⟩ : _ ∧ k_ ≠ gb489))) (fun _ hk => hk.2) (.bool t484)) (fun _ hk => hk.2) (.slice Ao17 t485.length co17)) (fun _ h_ => h_.1))) hb); have n1_ := Aside0.mk (Kd.V_lower (Kd.V_mono (ok' := fun k_ => k_ ≠ gb489) ho0 (fun k_ hk_ => (Kd.freshB (g := gb489) (o := .cells #[.bool t484, .slice Ao17 t485.length co17] 27 (0, 0)) (by (with_reducible repeat (first | refine blk_drewN ?_ _ | refine blk_drew ?_ | refine blk_alloc ?_ _)); refine blk_put (cs := #[.bool t484, .slice none 0 0]) ?_ 1 _ rfl; (with_reducible repeat (first | refine blk_drewN ?_ _ | refine blk_drew ?_ | refine blk_alloc ?_ _)); refine blk_put (cs := #[.bool false, .slice none 0 0]) ?_ 0 _ rfl; (with_reducible repeat (first | refine blk_drewN ?_ _ | refine blk_drew ?_ | refine blk_alloc ?_ _)); exact BK489.out) k_ hk_))) (below_size zb)); have n2_ := Aside0.mk (blk_below (g := gb489) (o := .cells #[.bool t484, .slice Ao17 t485.length co17] 27 (0, 0)) (by (with_reducible repeat (first | refine blk_drewN ?_ _ | refine blk_drew ?_ | refine blk_alloc ?_ _)); refine blk_put (cs := #[.bool t484, .slice none 0 0]) ?_ 1 _ rfl; (with_reducible repeat (first | refine blk_drewN ?_ _ | refine blk_drew ?_ | refine blk_alloc ?_ _)); refine blk_put (cs := #[.bool false, .slice none 0 0]) ?_ 0 _ rfl; (with_reducible repeat (first | refine blk_drewN ?_ _ | refine blk_drew ?_ | refine blk_alloc ?_ _)); exact BK489.out) hb); have n3_ := Aside0.mk (below_step zb hb); clear HO487; clear BK489; clear HB; have HO487 := n0_; have HO493 := n1_; have BK489 := n2_; have HB := n3_; clear n0_ n1_ n2_ n3_; (try clear hb); (try clear hb2); (try clear hk); (try clear hi); (try clear ho0)) | ((with_reducible refine gate_dst (N := 9) rfl ?_); (try (refine gate_guard (by rfl) ?_; dsimp only)); refine box_event ?hg (N := 9) ?hd (cs := #[.bool false, .slice none 0 0]) (t := 27) ?hr ?_; (case hd => rfl); (case hg => rfl); (case hr => first | (go_simp; done) | (go_simp; rfl)); intro gb495 hg w19 hbox hb; have n0_ := Aside0.mk (Kd.V_below (Kd.V_elderB (zV HO487.out) gb495 (Nat.le_of_eq hg.symm)) hb); have n1_ := Aside0.mk (Kd.V_below (Kd.V_elderB (zV HO493.out) gb495 (Nat.le_of_eq hg.symm)) hb); have n2_ := Aside0.mk (blk_below (g := gb489) (o := .cells #[.bool t484, .slice Ao17 t485.length co17] 27 (0, 0)) (zk BK489.out) hb); have n3_ := Aside0.mk (below_step zb hb); have n4_ := Aside0.mk (hbox); have n5_ := Aside0.mk ((by rw [hg]; exact (below_size zb) : w.heap.size ≤ gb495)); have n6_ := Aside0.mk ((by rw [hg]; exact (below_size zb) : w.heap.size ≤ gb495)); have n7_ := Aside0.mk ((by rw [hg]; exact Nat.ne_of_lt (blk_lt (g := gb489) (o := .cells #[.bool t484, .slice Ao17 t485.length co17] 27 (0, 0)) (zk BK489.out)) : gb489 ≠ gb495)); have n8_ := Aside0.mk ((by rw [hg]; exact Nat.ne_of_gt (blk_lt (g := gb489) (o := .cells #[.bool t484, .slice Ao17 t485.length co17] 27 (0, 0)) (zk BK489.out)) : gb495 ≠ gb489)); clear HO487; clear HO493; clear BK489; clear HB; have HO487 := n0_; have HO493 := n1_; have BK489 := n2_; have HB := n3_; have BK495 := n4_; have GW495 := n5_; have GE495 := n6_; have NB489_495 := n7_; have NB495_489 := n8_; clear n0_ n1_ n2_ n3_ n4_ n5_ n6_ n7_ n8_; clear hb hbox hg; have hnb20 := NB495_489.out; have hnc20 := NB489_495.out; have hcz21_0 : w19.cell? ⟨gb495, 0, none⟩ = some (.bool false) := (blk_cell BK495.out 0).trans rfl; have hcz21_1 : w19.cell? ⟨gb495, 1, none⟩ = some (.slice none 0 0) := (blk_cell BK495.out 1).trans rfl; have hfz21_0 := blk_frozen BK495.out 0; have hfz21_1 := blk_frozen BK495.out 1; obtain ⟨Ao22, co22, eo22⟩ := Kd.V_slice HO493.out; subst eo22) | ((with_reducible refine gate_callee (f := 30) rfl ?_); refine goesL_ (some 41) rfl rfl Tryd.func30 (by kernel_rfl) rfl #[.int .i64 t482] rfl za ?_; (with_reducible refine (spec_BigTen.calls kj2 t482 t496 t497 t500 _ A10.out).mono ?_); rintro e w23 ⟨v498, rfl, ho0, hb⟩; refine ⟨_, rfl, ?_⟩; have n0_ := Aside0.mk (Kd.V_elder' (by (with_reducible repeat (first | apply Kd.V_alloc | apply Kd.V_drewN | apply Kd.V_drew)); exact (Kd.V_mono (Kd.V_far (p := ⟨gb495, 1, none⟩) (Kd.V_far (p := ⟨gb495, 0, none⟩) (Kd.V_mono HO487.out (fun k_ hk => (⟨hk, hk.2⟩ : _ ∧ k_ ≠ gb495))) (fun _ hk => hk.2) (.bool t490)) (fun _ hk => hk.2) (.slice Ao22 t491.length co22)) (fun _ h_ => h_.1))) (Kd.R_base ho0) hb); have n1_ := Aside0.mk (Kd.V_elder' (by (with_reducible repeat (first | apply Kd.V_alloc | apply Kd.V_drewN | apply Kd.V_drew)); exact (Kd.V_mono (Kd.V_far (p := ⟨gb495, 1, none⟩) (Kd.V_far (p := ⟨gb495, 0, none⟩) (Kd.V_mono HO493.out (fun k_ hk => (⟨hk, hk.2⟩ : _ ∧ k_ ≠ gb495))) (fun _ hk => hk.2) (.bool t490)) (fun _ hk => hk.2) (.slice Ao22 t491.length co22)) (fun _ h_ => h_.1))) (Kd.R_base ho0) hb); have n2_ := Aside0.mk (Kd.R_lower ho0 (below_size zb)); have n3_ := Aside0.mk (blk_below (g := gb489) (o := .cells #[.bool t484, .slice Ao17 t485.length co17] 27 (0, 0)) (zk BK489.out) hb); have n4_ := Aside0.mk (blk_below (g := gb495) (o := .cells #[.bool t490, .slice Ao22 t491.length co22] 27 (0, 0)) (by (with_reducible repeat (first | refine blk_drewN ?_ _ | refine blk_drew ?_ | refine blk_alloc ?_ _)); refine blk_put (cs := #[.bool t490, .slice none 0 0]) ?_ 1 _ rfl; (with_reducible repeat (first | refine blk_drewN ?_ _ | refine blk_drew ?_ | refine blk_alloc ?_ _)); refine blk_put (cs := #[.bool false, .slice none 0 0]) ?_ 0 _ rfl; (with_reducible repeat (first | refine blk_drewN ?_ _ | refine blk_drew ?_ | refine blk_alloc ?_ _)); exact BK495.out) hb); have n5_ := Aside0.mk (below_step zb hb); clear HO487; clear HO493; clear BK489; clear BK495; clear HB; have HO487 := n0_; have HO493 := n1_; have HO499 := n2_; have BK489 := n3_; have BK495 := n4_; have HB := n5_; clear n0_ n1_ n2_ n3_ n4_ n5_; (try clear hb); (try clear hb2); (try clear hk); (try clear hi); (try clear ho0)) | ((with_reducible refine gate_dst (N := 11) rfl ?_); (try (refine gate_guard (by rfl) ?_; dsimp only)); refine box_event ?hg (N := 11) ?hd (cs := #[.bool false, .slice none 0 0]) (t := 27) ?hr ?_; (case hd => rfl); (case hg => rfl); (case hr => first | (go_simp; done) | (go_simp; rfl)); intro gb501 hg w24 hbox hb; have n0_ := Aside0.mk (Kd.V_below (Kd.V_elderB (zV HO487.out) gb501 (Nat.le_of_eq hg.symm)) hb); have n1_ := Aside0.mk (Kd.V_below (Kd.V_elderB (zV HO493.out) gb501 (Nat.le_of_eq hg.symm)) hb); have n2_ := Aside0.mk (Kd.R_below (zR HO499.out) hb); have n3_ := Aside0.mk (blk_below (g := gb489) (o := .cells #[.bool t484, .slice Ao17 t485.length co17] 27 (0, 0)) (zk BK489.out) hb); have n4_ := Aside0.mk (blk_below (g := gb495) (o := .cells #[.bool t490, .slice Ao22 t491.length co22] 27 (0, 0)) (zk BK495.out) hb); have n5_ := Aside0.mk (below_step zb hb); have n6_ := Aside0.mk (hbox); have n7_ := Aside0.mk ((by rw [hg]; exact (below_size zb) : w.heap.size ≤ gb501)); have n8_ := Aside0.mk ((by rw [hg]; exact (below_size zb) : w.heap.size ≤ gb501)); have n9_ := Aside0.mk ((by rw [hg]; exact Nat.ne_of_lt (blk_lt (g := gb489) (o := .cells #[.bool t484, .slice Ao17 t485.length co17] 27 (0, 0)) (zk BK489.out)) : gb489 ≠ gb501)); have n10_ := Aside0.mk ((by rw [hg]; exact Nat.ne_of_gt (blk_lt (g := gb489) (o := .cells #[.bool t484, .slice Ao17 t485.length co17] 27 (0, 0)) (zk BK489.out)) : gb501 ≠ gb489)); have n11_ := Aside0.mk ((by rw [hg]; exact Nat.ne_of_lt (blk_lt (g := gb495) (o := .cells #[.bool t490, .slice Ao22 t491.length co22] 27 (0, 0)) (zk BK495.out)) : gb495 ≠ gb501)); have n12_ := Aside0.mk ((by rw [hg]; exact Nat.ne_of_gt (blk_lt (g := gb495) (o := .cells #[.bool t490, .slice Ao22 t491.length co22] 27 (0, 0)) (zk BK495.out)) : gb501 ≠ gb495)); clear HO487; clear HO493; clear HO499; clear BK489; clear BK495; clear HB; have HO487 := n0_; have HO493 := n1_; have HO499 := n2_; have BK489 := n3_; have BK495 := n4_; have HB := n5_; have BK501 := n6_; have GW501 := n7_; have GE501 := n8_; have NB489_501 := n9_; have NB501_489 := n10_; have NB495_501 := n11_; have NB501_495 := n12_; clear n0_ n1_ n2_ n3_ n4_ n5_ n6_ n7_ n8_ n9_ n10_ n11_ n12_; clear hb hbox hg; have hnb25 := NB501_489.out; have hnc25 := NB489_501.out; have hnb26 := NB501_495.out; have hnc26 := NB495_501.out; have hcz27_0 : w24.cell? ⟨gb501, 0, none⟩ = some (.bool false) := (blk_cell BK501.out 0).trans rfl; have hcz27_1 : w24.cell? ⟨gb501, 1, none⟩ = some (.slice none 0 0) := (blk_cell BK501.out 1).trans rfl; have hfz27_0 := blk_frozen BK501.out 0; have hfz27_1 := blk_frozen BK501.out 1; obtain ⟨Ao28, co28, eo28⟩ := Kd.R_slice HO499.out; subst eo28))
        (try simp only [Act.put, List.setIfInBounds_toArray, List.set_cons_zero, List.set_cons_succ])
        go_cut [60] (fun v60 wc => ∃ (kq : Nat) (x60_10 : Bool), v60 = .bool x60_10 ∧ Aside0 (laws_FnBigTen.j1 kq t482 t483 t488 t500 x60_10 t484 t485 t490 t491 t496 t497 = some r) ∧ Aside0 (kq ≤ kj2) ∧ Aside0 (Kd.V (Kd.int .i64) 3 wc w.heap.size (fun k_ => some k_ ≠ ((.slice Ao28 t497.length co28) : Value).ownBlock ∧ k_ ≠ gb489 ∧ k_ ≠ gb495 ∧ k_ ≠ gb501) (.slice Ao17 t485.length co17) t485) ∧ Aside0 (Kd.V (Kd.int .i64) 3 wc w.heap.size (fun k_ => some k_ ≠ ((.slice Ao28 t497.length co28) : Value).ownBlock ∧ k_ ≠ gb489 ∧ k_ ≠ gb495 ∧ k_ ≠ gb501) (.slice Ao22 t491.length co22) t491) ∧ Aside0 (Kd.R (Kd.int .i64) 3 wc w.heap.size (fun _ => True) (.slice Ao28 t497.length co28) t497) ∧ Aside0 (wc.heap[gb489]? = some (.cells #[.bool t484, (.slice Ao17 t485.length co17)] 27 (0, 0))) ∧ Aside0 (wc.heap[gb495]? = some (.cells #[.bool t490, (.slice Ao22 t491.length co22)] 27 (0, 0))) ∧ Aside0 (wc.heap[gb501]? = some (.cells #[.bool t496, (.slice Ao28 t497.length co28)] 27 (0, 0))) ∧ Aside0 (Below w.heap.size w wc))
        case first =>
          have H := HC11.out
          clear HC11
          by_cases c29 : (t488 != t500) = true
          · rw [if_pos c29] at H
            have c29b0 : (t488 != t500) = true := c29
            (try (have c29b1 : decide (t488 = t500) = false := by simpa using c29))
            (try (have c29b2 : (t488 == t500) = false := by simpa using c29))
            (try (have c29b3 : ¬ (t488 = t500) := by simpa using c29))
            clear c29
            (first | rw [c29b0] | (simp only [i64_w, i32_w]; rw [c29b0]) | skip)
            have H' := Aside0.mk H
            clear H
            go_wp2
            go_meet
            case rel => exact ⟨_, (true), (by first | rfl | (simp; done) | (simp [*]; done)), H', ⟨by have := HJ2.out; first | omega | exact Nat.le_refl _⟩, ⟨by (with_reducible repeat (first | apply Kd.V_alloc | apply Kd.V_drewN | apply Kd.V_drew)); exact Kd.V_mono (Kd.V_far (p := ⟨gb501, 1, none⟩) (Kd.V_far (p := ⟨gb501, 0, none⟩) (Kd.V_mono HO487.out (fun k_ hk => (⟨hk, hk.2⟩ : _ ∧ k_ ≠ gb501))) (fun _ hk => hk.2) (.bool t496)) (fun _ hk => hk.2) (.slice Ao28 t497.length co28)) (fun _ hk => ⟨hk.1.1.2, ⟨hk.1.1.1.1.2, ⟨hk.1.1.1.2, hk.1.2⟩⟩⟩)⟩, ⟨by (with_reducible repeat (first | apply Kd.V_alloc | apply Kd.V_drewN | apply Kd.V_drew)); exact Kd.V_mono (Kd.V_far (p := ⟨gb501, 1, none⟩) (Kd.V_far (p := ⟨gb501, 0, none⟩) (Kd.V_mono HO493.out (fun k_ hk => (⟨hk, hk.2⟩ : _ ∧ k_ ≠ gb501))) (fun _ hk => hk.2) (.bool t496)) (fun _ hk => hk.2) (.slice Ao28 t497.length co28)) (fun _ hk => ⟨hk.1.1.2, ⟨hk.1.1.1.1, ⟨hk.1.1.1.2, hk.1.2⟩⟩⟩)⟩, ⟨by (with_reducible repeat (first | apply Kd.R_alloc | apply Kd.R_drewN | apply Kd.R_drew)); exact Kd.R_mono (Kd.R_far (p := ⟨gb501, 1, none⟩) (Kd.R_far (p := ⟨gb501, 0, none⟩) (Kd.R_types HO499.out BK501.out (by decide)) (fun _ hk => hk.2) (.bool t496)) (fun _ hk => hk.2) (.slice Ao28 t497.length co28)) (fun _ hk => trivial)⟩, ⟨by (with_reducible repeat (first | refine blk_drewN ?_ _ | refine blk_drew ?_ | refine blk_alloc ?_ _)); refine blk_far ?_ NB489_501.out _; (with_reducible repeat (first | refine blk_drewN ?_ _ | refine blk_drew ?_ | refine blk_alloc ?_ _)); refine blk_far ?_ NB489_501.out _; (with_reducible repeat (first | refine blk_drewN ?_ _ | refine blk_drew ?_ | refine blk_alloc ?_ _)); exact BK489.out⟩, ⟨by (with_reducible repeat (first | refine blk_drewN ?_ _ | refine blk_drew ?_ | refine blk_alloc ?_ _)); refine blk_far ?_ NB495_501.out _; (with_reducible repeat (first | refine blk_drewN ?_ _ | refine blk_drew ?_ | refine blk_alloc ?_ _)); refine blk_far ?_ NB495_501.out _; (with_reducible repeat (first | refine blk_drewN ?_ _ | refine blk_drew ?_ | refine blk_alloc ?_ _)); exact BK495.out⟩, ⟨by (with_reducible repeat (first | refine blk_drewN ?_ _ | refine blk_drew ?_ | refine blk_alloc ?_ _)); refine blk_put (cs := #[.bool t496, .slice none 0 0]) ?_ 1 _ rfl; (with_reducible repeat (first | refine blk_drewN ?_ _ | refine blk_drew ?_ | refine blk_alloc ?_ _)); refine blk_put (cs := #[.bool false, .slice none 0 0]) ?_ 0 _ rfl; (with_reducible repeat (first | refine blk_drewN ?_ _ | refine blk_drew ?_ | refine blk_alloc ?_ _)); exact BK501.out⟩, ⟨zb⟩⟩
          · rw [if_neg c29] at H
            have c29b0 : (t488 != t500) = false := by simpa using c29
            (try (have c29b1 : decide (t488 = t500) = true := by simpa using c29))
            (try (have c29b2 : (t488 == t500) = true := by simpa using c29))
            clear c29
            (first | rw [c29b0] | (simp only [i64_w, i32_w]; rw [c29b0]) | skip)
            replace H := Option.bind_eq_some_iff.mp H
            obtain ⟨t502, A300, H⟩ := H
            replace H : (if t502 = true then (if t488 = true then (laws_FnBigTen.j1 kj2 t482 t483 t488 t500 (!t494) t484 t485 t490 t491 t496 t497) else (laws_FnBigTen.j1 kj2 t482 t483 t488 t500 true t484 t485 t490 t491 t496 t497)) else (laws_FnBigTen.j1 kj2 t482 t483 t488 t500 true t484 t485 t490 t491 t496 t497)) = some r := H
            have A30 := Aside0.mk A300
            clear A300
            by_cases c31 : t502 = true
            · subst c31
              have H1 : (if t488 = true then (laws_FnBigTen.j1 kj2 t482 t483 t488 t500 (!t494) t484 t485 t490 t491 t496 t497) else (laws_FnBigTen.j1 kj2 t482 t483 t488 t500 true t484 t485 t490 t491 t496 t497)) = some r := by rw [if_pos rfl] at H; exact H
              clear H
              have H := H1
              clear H1
              by_cases c32 : t488 = true
              · subst c32
                have H1 : (laws_FnBigTen.j1 kj2 t482 t483 true t500 (!t494) t484 t485 t490 t491 t496 t497) = some r := by rw [if_pos rfl] at H; exact H
                clear H
                have H := H1
                clear H1
                have H' := Aside0.mk H
                clear H
                have hnb33 := NB489_495.out
                have hnc33 := NB495_489.out
                have hnb34 := NB489_501.out
                have hnc34 := NB501_489.out
                have hcz35_0 : w24.cell? ⟨gb489, 0, none⟩ = some (.bool t484) := (blk_cell BK489.out 0).trans rfl
                have hcz35_1 : w24.cell? ⟨gb489, 1, none⟩ = some (.slice Ao17 t485.length co17) := (blk_cell BK489.out 1).trans rfl
                have hfz35_0 := blk_frozen BK489.out 0
                have hfz35_1 := blk_frozen BK489.out 1
                have hnb36 := NB501_495.out
                have hnc36 := NB495_501.out
                have hcz37_0 : w24.cell? ⟨gb501, 0, none⟩ = some (.bool false) := (blk_cell BK501.out 0).trans rfl
                have hcz37_1 : w24.cell? ⟨gb501, 1, none⟩ = some (.slice none 0 0) := (blk_cell BK501.out 1).trans rfl
                have hfz37_0 := blk_frozen BK501.out 0
                have hfz37_1 := blk_frozen BK501.out 1
                go_wp2_with (first | (go_at_call 26; (with_reducible refine (laws_jtBig.calls kj2 t484 _ _ t485 t496 _ _ t497 true _ ?side1 ?side2 ?side3 ?side4 A30.out).mono ?_); (case side1 => refine (Kd.V_reads' (e := 3) (base := w.heap.size) (ok := fun k_ => ((((True ∧ k_ ≠ gb489) ∧ k_ ≠ gb495) ∧ some k_ ≠ (.slice Ao28 t497.length co28 : Value).ownBlock) ∧ k_ ≠ gb501)) (n := t485.length) (c := co17) ?_).2.2; exact (by (with_reducible repeat (first | apply Kd.V_alloc | apply Kd.V_drewN | apply Kd.V_drew)); exact (Kd.V_mono (Kd.V_far (p := ⟨gb501, 1, none⟩) (Kd.V_far (p := ⟨gb501, 0, none⟩) (Kd.V_mono HO487.out (fun k_ hk => (⟨hk, hk.2⟩ : _ ∧ k_ ≠ gb501))) (fun _ hk => hk.2) (.bool t496)) (fun _ hk => hk.2) (.slice Ao28 t497.length co28)) (fun _ h_ => h_.1)))); (case side2 => exact (Kd.V_reads' HO487.out).2.1); (case side3 => refine (Kd.R_reads' (e := 3) (base := w.heap.size) (ok := fun k_ => True) (n := t497.length) (c := co28) ?_).2.2; exact (by (with_reducible repeat (first | apply Kd.R_alloc | apply Kd.R_drewN | apply Kd.R_drew)); exact (Kd.R_mono (Kd.R_far (p := ⟨gb501, 1, none⟩) (Kd.R_far (p := ⟨gb501, 0, none⟩) (Kd.R_types HO499.out BK501.out (by decide)) (fun _ hk => hk.2) (.bool t496)) (fun _ hk => hk.2) (.slice Ao28 t497.length co28)) (fun _ h_ => h_.1)))); (case side4 => exact (Kd.R_reads' HO499.out).2.1); rintro e w38 ⟨rfl, hb⟩; have n0_ := Aside0.mk (Kd.V_below (by (with_reducible repeat (first | apply Kd.V_alloc | apply Kd.V_drewN | apply Kd.V_drew)); exact (Kd.V_mono (Kd.V_far (p := ⟨gb501, 1, none⟩) (Kd.V_far (p := ⟨gb501, 0, none⟩) (Kd.V_mono HO487.out (fun k_ hk => (⟨hk, hk.2⟩ : _ ∧ k_ ≠ gb501))) (fun _ hk => hk.2) (.bool t496)) (fun _ hk => hk.2) (.slice Ao28 t497.length co28)) (fun _ h_ => h_.1))) hb); have n1_ := Aside0.mk (Kd.V_below (by (with_reducible repeat (first | apply Kd.V_alloc | apply Kd.V_drewN | apply Kd.V_drew)); exact (Kd.V_mono (Kd.V_far (p := ⟨gb501, 1, none⟩) (Kd.V_far (p := ⟨gb501, 0, none⟩) (Kd.V_mono HO493.out (fun k_ hk => (⟨hk, hk.2⟩ : _ ∧ k_ ≠ gb501))) (fun _ hk => hk.2) (.bool t496)) (fun _ hk => hk.2) (.slice Ao28 t497.length co28)) (fun _ h_ => h_.1))) hb); have n2_ := Aside0.mk (Kd.R_below (by (with_reducible repeat (first | apply Kd.R_alloc | apply Kd.R_drewN | apply Kd.R_drew)); exact (Kd.R_mono (Kd.R_far (p := ⟨gb501, 1, none⟩) (Kd.R_far (p := ⟨gb501, 0, none⟩) (Kd.R_types HO499.out BK501.out (by decide)) (fun _ hk => hk.2) (.bool t496)) (fun _ hk => hk.2) (.slice Ao28 t497.length co28)) (fun _ h_ => h_.1))) hb); have n3_ := Aside0.mk (blk_below (g := gb489) (o := .cells #[.bool t484, .slice Ao17 t485.length co17] 27 (0, 0)) (zk BK489.out) hb); have n4_ := Aside0.mk (blk_below (g := gb495) (o := .cells #[.bool t490, .slice Ao22 t491.length co22] 27 (0, 0)) (zk BK495.out) hb); have n5_ := Aside0.mk (blk_below (g := gb501) (o := .cells #[.bool t496, .slice Ao28 t497.length co28] 27 (0, 0)) (by (with_reducible repeat (first | refine blk_drewN ?_ _ | refine blk_drew ?_ | refine blk_alloc ?_ _)); refine blk_put (cs := #[.bool t496, .slice none 0 0]) ?_ 1 _ rfl; (with_reducible repeat (first | refine blk_drewN ?_ _ | refine blk_drew ?_ | refine blk_alloc ?_ _)); refine blk_put (cs := #[.bool false, .slice none 0 0]) ?_ 0 _ rfl; (with_reducible repeat (first | refine blk_drewN ?_ _ | refine blk_drew ?_ | refine blk_alloc ?_ _)); exact BK501.out) hb); have n6_ := Aside0.mk (below_step zb hb); clear HO487; clear HO493; clear HO499; clear BK489; clear BK495; clear BK501; clear HB; have HO487 := n0_; have HO493 := n1_; have HO499 := n2_; have BK489 := n3_; have BK495 := n4_; have BK501 := n5_; have HB := n6_; clear n0_ n1_ n2_ n3_ n4_ n5_ n6_; (try clear hb); (try clear hb2); (try clear hk); (try clear hi)))
                go_meet
                case rel => exact ⟨_, (!t494), (by first | rfl | (simp; done) | (simp [*]; done)), H', ⟨by have := HJ2.out; first | omega | exact Nat.le_refl _⟩, ⟨by (with_reducible repeat (first | apply Kd.V_alloc | apply Kd.V_drewN | apply Kd.V_drew)); exact Kd.V_mono HO487.out (fun _ hk => ⟨hk.1.2, ⟨hk.1.1.1.2, ⟨hk.1.1.2, hk.2⟩⟩⟩)⟩, ⟨by (with_reducible repeat (first | apply Kd.V_alloc | apply Kd.V_drewN | apply Kd.V_drew)); exact Kd.V_mono HO493.out (fun _ hk => ⟨hk.1.2, ⟨hk.1.1.1, ⟨hk.1.1.2, hk.2⟩⟩⟩)⟩, ⟨by (with_reducible repeat (first | apply Kd.R_alloc | apply Kd.R_drewN | apply Kd.R_drew)); exact HO499.out⟩, ⟨by (with_reducible repeat (first | refine blk_drewN ?_ _ | refine blk_drew ?_ | refine blk_alloc ?_ _)); exact BK489.out⟩, ⟨by (with_reducible repeat (first | refine blk_drewN ?_ _ | refine blk_drew ?_ | refine blk_alloc ?_ _)); exact BK495.out⟩, ⟨by (with_reducible repeat (first | refine blk_drewN ?_ _ | refine blk_drew ?_ | refine blk_alloc ?_ _)); exact BK501.out⟩, ⟨zb⟩⟩
              · replace c32 := Bool.eq_false_iff.mpr c32
                subst c32
                have H1 : (laws_FnBigTen.j1 kj2 t482 t483 false t500 true t484 t485 t490 t491 t496 t497) = some r := by rw [if_neg (show ¬ (false = true) by decide)] at H; exact H
                clear H
                have H := H1
                clear H1
                have H' := Aside0.mk H
                clear H
                have hnb39 := NB489_495.out
                have hnc39 := NB495_489.out
                have hnb40 := NB489_501.out
                have hnc40 := NB501_489.out
                have hcz41_0 : w24.cell? ⟨gb489, 0, none⟩ = some (.bool t484) := (blk_cell BK489.out 0).trans rfl
                have hcz41_1 : w24.cell? ⟨gb489, 1, none⟩ = some (.slice Ao17 t485.length co17) := (blk_cell BK489.out 1).trans rfl
                have hfz41_0 := blk_frozen BK489.out 0
                have hfz41_1 := blk_frozen BK489.out 1
                have hnb42 := NB501_495.out
                have hnc42 := NB495_501.out
                have hcz43_0 : w24.cell? ⟨gb501, 0, none⟩ = some (.bool false) := (blk_cell BK501.out 0).trans rfl
                have hcz43_1 : w24.cell? ⟨gb501, 1, none⟩ = some (.slice none 0 0) := (blk_cell BK501.out 1).trans rfl
                have hfz43_0 := blk_frozen BK501.out 0
                have hfz43_1 := blk_frozen BK501.out 1
                go_wp2_with (first | (go_at_call 26; (with_reducible refine (laws_jtBig.calls kj2 t484 _ _ t485 t496 _ _ t497 true _ ?side1 ?side2 ?side3 ?side4 A30.out).mono ?_); (case side1 => refine (Kd.V_reads' (e := 3) (base := w.heap.size) (ok := fun k_ => ((((True ∧ k_ ≠ gb489) ∧ k_ ≠ gb495) ∧ some k_ ≠ (.slice Ao28 t497.length co28 : Value).ownBlock) ∧ k_ ≠ gb501)) (n := t485.length) (c := co17) ?_).2.2; exact (by (with_reducible repeat (first | apply Kd.V_alloc | apply Kd.V_drewN | apply Kd.V_drew)); exact (Kd.V_mono (Kd.V_far (p := ⟨gb501, 1, none⟩) (Kd.V_far (p := ⟨gb501, 0, none⟩) (Kd.V_mono HO487.out (fun k_ hk => (⟨hk, hk.2⟩ : _ ∧ k_ ≠ gb501))) (fun _ hk => hk.2) (.bool t496)) (fun _ hk => hk.2) (.slice Ao28 t497.length co28)) (fun _ h_ => h_.1)))); (case side2 => exact (Kd.V_reads' HO487.out).2.1); (case side3 => refine (Kd.R_reads' (e := 3) (base := w.heap.size) (ok := fun k_ => True) (n := t497.length) (c := co28) ?_).2.2; exact (by (with_reducible repeat (first | apply Kd.R_alloc | apply Kd.R_drewN | apply Kd.R_drew)); exact (Kd.R_mono (Kd.R_far (p := ⟨gb501, 1, none⟩) (Kd.R_far (p := ⟨gb501, 0, none⟩) (Kd.R_types HO499.out BK501.out (by decide)) (fun _ hk => hk.2) (.bool t496)) (fun _ hk => hk.2) (.slice Ao28 t497.length co28)) (fun _ h_ => h_.1)))); (case side4 => exact (Kd.R_reads' HO499.out).2.1); rintro e w44 ⟨rfl, hb⟩; have n0_ := Aside0.mk (Kd.V_below (by (with_reducible repeat (first | apply Kd.V_alloc | apply Kd.V_drewN | apply Kd.V_drew)); exact (Kd.V_mono (Kd.V_far (p := ⟨gb501, 1, none⟩) (Kd.V_far (p := ⟨gb501, 0, none⟩) (Kd.V_mono HO487.out (fun k_ hk => (⟨hk, hk.2⟩ : _ ∧ k_ ≠ gb501))) (fun _ hk => hk.2) (.bool t496)) (fun _ hk => hk.2) (.slice Ao28 t497.length co28)) (fun _ h_ => h_.1))) hb); have n1_ := Aside0.mk (Kd.V_below (by (with_reducible repeat (first | apply Kd.V_alloc | apply Kd.V_drewN | apply Kd.V_drew)); exact (Kd.V_mono (Kd.V_far (p := ⟨gb501, 1, none⟩) (Kd.V_far (p := ⟨gb501, 0, none⟩) (Kd.V_mono HO493.out (fun k_ hk => (⟨hk, hk.2⟩ : _ ∧ k_ ≠ gb501))) (fun _ hk => hk.2) (.bool t496)) (fun _ hk => hk.2) (.slice Ao28 t497.length co28)) (fun _ h_ => h_.1))) hb); have n2_ := Aside0.mk (Kd.R_below (by (with_reducible repeat (first | apply Kd.R_alloc | apply Kd.R_drewN | apply Kd.R_drew)); exact (Kd.R_mono (Kd.R_far (p := ⟨gb501, 1, none⟩) (Kd.R_far (p := ⟨gb501, 0, none⟩) (Kd.R_types HO499.out BK501.out (by decide)) (fun _ hk => hk.2) (.bool t496)) (fun _ hk => hk.2) (.slice Ao28 t497.length co28)) (fun _ h_ => h_.1))) hb); have n3_ := Aside0.mk (blk_below (g := gb489) (o := .cells #[.bool t484, .slice Ao17 t485.length co17] 27 (0, 0)) (zk BK489.out) hb); have n4_ := Aside0.mk (blk_below (g := gb495) (o := .cells #[.bool t490, .slice Ao22 t491.length co22] 27 (0, 0)) (zk BK495.out) hb); have n5_ := Aside0.mk (blk_below (g := gb501) (o := .cells #[.bool t496, .slice Ao28 t497.length co28] 27 (0, 0)) (by (with_reducible repeat (first | refine blk_drewN ?_ _ | refine blk_drew ?_ | refine blk_alloc ?_ _)); refine blk_put (cs := #[.bool t496, .slice none 0 0]) ?_ 1 _ rfl; (with_reducible repeat (first | refine blk_drewN ?_ _ | refine blk_drew ?_ | refine blk_alloc ?_ _)); refine blk_put (cs := #[.bool false, .slice none 0 0]) ?_ 0 _ rfl; (with_reducible repeat (first | refine blk_drewN ?_ _ | refine blk_drew ?_ | refine blk_alloc ?_ _)); exact BK501.out) hb); have n6_ := Aside0.mk (below_step zb hb); clear HO487; clear HO493; clear HO499; clear BK489; clear BK495; clear BK501; clear HB; have HO487 := n0_; have HO493 := n1_; have HO499 := n2_; have BK489 := n3_; have BK495 := n4_; have BK501 := n5_; have HB := n6_; clear n0_ n1_ n2_ n3_ n4_ n5_ n6_; (try clear hb); (try clear hb2); (try clear hk); (try clear hi)))
                go_meet
                case rel => exact ⟨_, (true), (by first | rfl | (simp; done) | (simp [*]; done)), H', ⟨by have := HJ2.out; first | omega | exact Nat.le_refl _⟩, ⟨by (with_reducible repeat (first | apply Kd.V_alloc | apply Kd.V_drewN | apply Kd.V_drew)); exact Kd.V_mono HO487.out (fun _ hk => ⟨hk.1.2, ⟨hk.1.1.1.2, ⟨hk.1.1.2, hk.2⟩⟩⟩)⟩, ⟨by (with_reducible repeat (first | apply Kd.V_alloc | apply Kd.V_drewN | apply Kd.V_drew)); exact Kd.V_mono HO493.out (fun _ hk => ⟨hk.1.2, ⟨hk.1.1.1, ⟨hk.1.1.2, hk.2⟩⟩⟩)⟩, ⟨by (with_reducible repeat (first | apply Kd.R_alloc | apply Kd.R_drewN | apply Kd.R_drew)); exact HO499.out⟩, ⟨by (with_reducible repeat (first | refine blk_drewN ?_ _ | refine blk_drew ?_ | refine blk_alloc ?_ _)); exact BK489.out⟩, ⟨by (with_reducible repeat (first | refine blk_drewN ?_ _ | refine blk_drew ?_ | refine blk_alloc ?_ _)); exact BK495.out⟩, ⟨by (with_reducible repeat (first | refine blk_drewN ?_ _ | refine blk_drew ?_ | refine blk_alloc ?_ _)); exact BK501.out⟩, ⟨zb⟩⟩
            · replace c31 := Bool.eq_false_iff.mpr c31
              subst c31
              have H1 : (laws_FnBigTen.j1 kj2 t482 t483 t488 t500 true t484 t485 t490 t491 t496 t497) = some r := by rw [if_neg (show ¬ (false = true) by decide)] at H; exact H
              clear H
              have H := H1
              clear H1
              have H' := Aside0.mk H
              clear H
              have hnb45 := NB489_495.out
              have hnc45 := NB495_489.out
              have hnb46 := NB489_501.out
              have hnc46 := NB501_489.out
              have hcz47_0 : w24.cell? ⟨gb489, 0, none⟩ = some (.bool t484) := (blk_cell BK489.out 0).trans rfl
              have hcz47_1 : w24.cell? ⟨gb489, 1, none⟩ = some (.slice Ao17 t485.length co17) := (blk_cell BK489.out 1).trans rfl
              have hfz47_0 := blk_frozen BK489.out 0
              have hfz47_1 := blk_frozen BK489.out 1
              have hnb48 := NB501_495.out
              have hnc48 := NB495_501.out
              have hcz49_0 : w24.cell? ⟨gb501, 0, none⟩ = some (.bool false) := (blk_cell BK501.out 0).trans rfl
              have hcz49_1 : w24.cell? ⟨gb501, 1, none⟩ = some (.slice none 0 0) := (blk_cell BK501.out 1).trans rfl
              have hfz49_0 := blk_frozen BK501.out 0
              have hfz49_1 := blk_frozen BK501.out 1
              go_wp2_with (first | (go_at_call 26; (with_reducible refine (laws_jtBig.calls kj2 t484 _ _ t485 t496 _ _ t497 false _ ?side1 ?side2 ?side3 ?side4 A30.out).mono ?_); (case side1 => refine (Kd.V_reads' (e := 3) (base := w.heap.size) (ok := fun k_ => ((((True ∧ k_ ≠ gb489) ∧ k_ ≠ gb495) ∧ some k_ ≠ (.slice Ao28 t497.length co28 : Value).ownBlock) ∧ k_ ≠ gb501)) (n := t485.length) (c := co17) ?_).2.2; exact (by (with_reducible repeat (first | apply Kd.V_alloc | apply Kd.V_drewN | apply Kd.V_drew)); exact (Kd.V_mono (Kd.V_far (p := ⟨gb501, 1, none⟩) (Kd.V_far (p := ⟨gb501, 0, none⟩) (Kd.V_mono HO487.out (fun k_ hk => (⟨hk, hk.2⟩ : _ ∧ k_ ≠ gb501))) (fun _ hk => hk.2) (.bool t496)) (fun _ hk => hk.2) (.slice Ao28 t497.length co28)) (fun _ h_ => h_.1)))); (case side2 => exact (Kd.V_reads' HO487.out).2.1); (case side3 => refine (Kd.R_reads' (e := 3) (base := w.heap.size) (ok := fun k_ => True) (n := t497.length) (c := co28) ?_).2.2; exact (by (with_reducible repeat (first | apply Kd.R_alloc | apply Kd.R_drewN | apply Kd.R_drew)); exact (Kd.R_mono (Kd.R_far (p := ⟨gb501, 1, none⟩) (Kd.R_far (p := ⟨gb501, 0, none⟩) (Kd.R_types HO499.out BK501.out (by decide)) (fun _ hk => hk.2) (.bool t496)) (fun _ hk => hk.2) (.slice Ao28 t497.length co28)) (fun _ h_ => h_.1)))); (case side4 => exact (Kd.R_reads' HO499.out).2.1); rintro e w50 ⟨rfl, hb⟩; have n0_ := Aside0.mk (Kd.V_below (by (with_reducible repeat (first | apply Kd.V_alloc | apply Kd.V_drewN | apply Kd.V_drew)); exact (Kd.V_mono (Kd.V_far (p := ⟨gb501, 1, none⟩) (Kd.V_far (p := ⟨gb501, 0, none⟩) (Kd.V_mono HO487.out (fun k_ hk => (⟨hk, hk.2⟩ : _ ∧ k_ ≠ gb501))) (fun _ hk => hk.2) (.bool t496)) (fun _ hk => hk.2) (.slice Ao28 t497.length co28)) (fun _ h_ => h_.1))) hb); have n1_ := Aside0.mk (Kd.V_below (by (with_reducible repeat (first | apply Kd.V_alloc | apply Kd.V_drewN | apply Kd.V_drew)); exact (Kd.V_mono (Kd.V_far (p := ⟨gb501, 1, none⟩) (Kd.V_far (p := ⟨gb501, 0, none⟩) (Kd.V_mono HO493.out (fun k_ hk => (⟨hk, hk.2⟩ : _ ∧ k_ ≠ gb501))) (fun _ hk => hk.2) (.bool t496)) (fun _ hk => hk.2) (.slice Ao28 t497.length co28)) (fun _ h_ => h_.1))) hb); have n2_ := Aside0.mk (Kd.R_below (by (with_reducible repeat (first | apply Kd.R_alloc | apply Kd.R_drewN | apply Kd.R_drew)); exact (Kd.R_mono (Kd.R_far (p := ⟨gb501, 1, none⟩) (Kd.R_far (p := ⟨gb501, 0, none⟩) (Kd.R_types HO499.out BK501.out (by decide)) (fun _ hk => hk.2) (.bool t496)) (fun _ hk => hk.2) (.slice Ao28 t497.length co28)) (fun _ h_ => h_.1))) hb); have n3_ := Aside0.mk (blk_below (g := gb489) (o := .cells #[.bool t484, .slice Ao17 t485.length co17] 27 (0, 0)) (zk BK489.out) hb); have n4_ := Aside0.mk (blk_below (g := gb495) (o := .cells #[.bool t490, .slice Ao22 t491.length co22] 27 (0, 0)) (zk BK495.out) hb); have n5_ := Aside0.mk (blk_below (g := gb501) (o := .cells #[.bool t496, .slice Ao28 t497.length co28] 27 (0, 0)) (by (with_reducible repeat (first | refine blk_drewN ?_ _ | refine blk_drew ?_ | refine blk_alloc ?_ _)); refine blk_put (cs := #[.bool t496, .slice none 0 0]) ?_ 1 _ rfl; (with_reducible repeat (first | refine blk_drewN ?_ _ | refine blk_drew ?_ | refine blk_alloc ?_ _)); refine blk_put (cs := #[.bool false, .slice none 0 0]) ?_ 0 _ rfl; (with_reducible repeat (first | refine blk_drewN ?_ _ | refine blk_drew ?_ | refine blk_alloc ?_ _)); exact BK501.out) hb); have n6_ := Aside0.mk (below_step zb hb); clear HO487; clear HO493; clear HO499; clear BK489; clear BK495; clear BK501; clear HB; have HO487 := n0_; have HO493 := n1_; have HO499 := n2_; have BK489 := n3_; have BK495 := n4_; have BK501 := n5_; have HB := n6_; clear n0_ n1_ n2_ n3_ n4_ n5_ n6_; (try clear hb); (try clear hb2); (try clear hk); (try clear hi)))
              go_meet
              case rel => exact ⟨_, (true), (by first | rfl | (simp; done) | (simp [*]; done)), H', ⟨by have := HJ2.out; first | omega | exact Nat.le_refl _⟩, ⟨by (with_reducible repeat (first | apply Kd.V_alloc | apply Kd.V_drewN | apply Kd.V_drew)); exact Kd.V_mono HO487.out (fun _ hk => ⟨hk.1.2, ⟨hk.1.1.1.2, ⟨hk.1.1.2, hk.2⟩⟩⟩)⟩, ⟨by (with_reducible repeat (first | apply Kd.V_alloc | apply Kd.V_drewN | apply Kd.V_drew)); exact Kd.V_mono HO493.out (fun _ hk => ⟨hk.1.2, ⟨hk.1.1.1, ⟨hk.1.1.2, hk.2⟩⟩⟩)⟩, ⟨by (with_reducible repeat (first | apply Kd.R_alloc | apply Kd.R_drewN | apply Kd.R_drew)); exact HO499.out⟩, ⟨by (with_reducible repeat (first | refine blk_drewN ?_ _ | refine blk_drew ?_ | refine blk_alloc ?_ _)); exact BK489.out⟩, ⟨by (with_reducible repeat (first | refine blk_drewN ?_ _ | refine blk_drew ?_ | refine blk_alloc ?_ _)); exact BK495.out⟩, ⟨by (with_reducible repeat (first | refine blk_drewN ?_ _ | refine blk_drew ?_ | refine blk_alloc ?_ _)); exact BK501.out⟩, ⟨zb⟩⟩
        case rest =>
          clear HC11
          try clear c1
          try clear c2
          try clear p2
          try clear c3
          try clear c4
          try clear c4b0
          try clear c4b1
          try clear c5
          try clear c8
          try clear c20
          try clear c25
          try clear c26
          try clear c28
          try clear c29
          try clear c29b0
          try clear c29b1
          try clear c29b2
          try clear c30
          try clear c31
          try clear c32
          try clear c33
          try clear c34
          try clear c36
          try clear c39
          try clear c40
          try clear c42
          try clear c45
          try clear c46
          try clear c48
          try clear hcz16_0
          try clear hcz16_1
          try clear hcz21_0
          try clear hcz21_1
          try clear hcz27_0
          try clear hcz27_1
          try clear hcz35_0
          try clear hcz35_1
          try clear hcz37_0
          try clear hcz37_1
          try clear hcz41_0
          try clear hcz41_1
          try clear hcz43_0
          try clear hcz43_1
          try clear hcz47_0
          try clear hcz47_1
          try clear hcz49_0
          try clear hcz49_1
          try clear hfz16_0
          try clear hfz16_1
          try clear hfz21_0
          try clear hfz21_1
          try clear hfz27_0
          try clear hfz27_1
          try clear hfz35_0
          try clear hfz35_1
          try clear hfz37_0
          try clear hfz37_1
          try clear hfz41_0
          try clear hfz41_1
          try clear hfz43_0
          try clear hfz43_1
          try clear hfz47_0
          try clear hfz47_1
          try clear hfz49_0
          try clear hfz49_1
          try clear p2
          obtain ⟨kq, x60_10, rfl, HA, HJ10, HO_490001, HO_496001, HO_502001, BK489, BK495, BK501, HB⟩ := hcut
          cases kq with
          | zero => exact absurd HA.out (by simp [laws_FnBigTen.j1])
          | succ kj10 =>
            have H := HA.out
            clear HA
            simp only [laws_FnBigTen.j1] at H
            by_cases c51 : x60_10 = true
            · subst c51
              have H1 : (if (t488 == t500) = true then ((laws_jtBig.f kj10 t484 t485 t496 t497).bind fun t503 => (some t503)) else (some false)) = some r := by rw [if_pos rfl] at H; exact H
              clear H
              have H := H1
              clear H1
              by_cases c52 : (t488 == t500) = true
              · rw [if_pos c52] at H
                have c52b0 : (t488 == t500) = true := c52
                (try (have c52b1 : decide (t488 = t500) = true := by simpa using c52))
                (try (have c52b2 : (t488 == t500) = true := by simpa using c52))
                clear c52
                replace H := Option.bind_eq_some_iff.mp H
                obtain ⟨t503, A530, H⟩ := H
                replace H : (some t503) = some r := H
                have A53 := Aside0.mk A530
                clear A530
                obtain rfl := Option.some.inj H
                have hnb54 := NB489_495.out
                have hnc54 := NB495_489.out
                have hnb55 := NB489_501.out
                have hnc55 := NB501_489.out
                have hcz56_0 : wc.cell? ⟨gb489, 0, none⟩ = some (.bool t484) := (blk_cell BK489.out 0).trans rfl
                have hcz56_1 : wc.cell? ⟨gb489, 1, none⟩ = some (.slice Ao17 t485.length co17) := (blk_cell BK489.out 1).trans rfl
                have hfz56_0 := blk_frozen BK489.out 0
                have hfz56_1 := blk_frozen BK489.out 1
                have hnb57 := NB501_495.out
                have hnc57 := NB495_501.out
                have hcz58_0 : wc.cell? ⟨gb501, 0, none⟩ = some (.bool t496) := (blk_cell BK501.out 0).trans rfl
                have hcz58_1 : wc.cell? ⟨gb501, 1, none⟩ = some (.slice Ao28 t497.length co28) := (blk_cell BK501.out 1).trans rfl
                have hfz58_0 := blk_frozen BK501.out 0
                have hfz58_1 := blk_frozen BK501.out 1
                go_wp2_with (first | (go_at_call 26; (with_reducible refine (laws_jtBig.calls kj10 t484 _ _ t485 t496 _ _ t497 t503 _ ?side1 ?side2 ?side3 ?side4 A53.out).mono ?_); (case side1 => repeat (first | exact (Kd.V_reads' HO_490001.out).2.2 | (with_reducible refine Kd.C_alloc ?_ _) | (with_reducible refine Kd.C_drewN ?_ _) | (with_reducible refine Kd.C_drew ?_))); (case side2 => exact (Kd.V_reads' HO_490001.out).2.1); (case side3 => repeat (first | exact (Kd.R_reads' HO_502001.out).2.2 | (with_reducible refine Kd.C_alloc ?_ _) | (with_reducible refine Kd.C_drewN ?_ _) | (with_reducible refine Kd.C_drew ?_))); (case side4 => exact (Kd.R_reads' HO_502001.out).2.1); rintro e w59 ⟨rfl, hb⟩; have n0_ := Aside0.mk (Kd.V_below (zV HO_490001.out) hb); have n1_ := Aside0.mk (Kd.V_below (zV HO_496001.out) hb); have n2_ := Aside0.mk (Kd.R_below (zR HO_502001.out) hb); have n3_ := Aside0.mk (blk_below (g := gb489) (o := .cells #[.bool t484, .slice Ao17 t485.length co17] 27 (0, 0)) (zk BK489.out) hb); have n4_ := Aside0.mk (blk_below (g := gb495) (o := .cells #[.bool t490, .slice Ao22 t491.length co22] 27 (0, 0)) (zk BK495.out) hb); have n5_ := Aside0.mk (blk_below (g := gb501) (o := .cells #[.bool t496, .slice Ao28 t497.length co28] 27 (0, 0)) (zk BK501.out) hb); have n6_ := Aside0.mk (below_step zb hb); clear HO_490001; clear HO_496001; clear HO_502001; clear BK489; clear BK495; clear BK501; clear HB; have HO_490001 := n0_; have HO_496001 := n1_; have HO_502001 := n2_; have BK489 := n3_; have BK495 := n4_; have BK501 := n5_; have HB := n6_; clear n0_ n1_ n2_ n3_ n4_ n5_ n6_; (try clear hb); (try clear hb2); (try clear hk); (try clear hi)))
                go_ret
                exact ⟨by first | rfl | (simp [errW_none, errW_some] <;> rfl) | (simp [*, errW_none, errW_some] <;> rfl), zb⟩
              · rw [if_neg c52] at H
                have c52b0 : (t488 == t500) = false := by simpa using c52
                (try (have c52b1 : decide (t488 = t500) = false := by simpa using c52))
                (try (have c52b2 : (t488 == t500) = false := by simpa using c52))
                (try (have c52b3 : ¬ (t488 = t500) := by simpa using c52))
                clear c52
                obtain rfl := Option.some.inj H
                go_wp2
                go_ret
                exact ⟨by first | rfl | (simp [errW_none, errW_some] <;> rfl) | (simp [*, errW_none, errW_some] <;> rfl), zb⟩
            · replace c51 := Bool.eq_false_iff.mpr c51
              subst c51
              have H1 : ((impl_BigMul.f kj10 t484 t485 t490 t491).bind fun bt504 => ((impl_BigTen.f kj10 (wrap64 (t482 + t483))).bind fun bt510 => (if (bt504.2.2 == bt510.2.2) = true then ((laws_jtBig.f kj10 bt504.1 bt504.2.1 bt510.1 bt510.2.1).bind fun t516 => (if t516 = true then ((impl_BigPut.f t484 t485).bind fun t517 => (some ((t517.size : Int) == (wrap64 (t482 + 1))))) else (some false))) else (some false)))) = some r := by rw [if_neg (show ¬ (false = true) by decide)] at H; exact H
              clear H
              have H := H1
              clear H1
              replace H := Option.bind_eq_some_iff.mp H
              obtain ⟨⟨t504, t505, t508⟩, A600, H⟩ := H
              replace H : ((impl_BigTen.f kj10 (wrap64 (t482 + t483))).bind fun bt510 => (if (t508 == bt510.2.2) = true then ((laws_jtBig.f kj10 t504 t505 bt510.1 bt510.2.1).bind fun t516 => (if t516 = true then ((impl_BigPut.f t484 t485).bind fun t517 => (some ((t517.size : Int) == (wrap64 (t482 + 1))))) else (some false))) else (some false))) = some r := H
              have A60 := Aside0.mk A600
              clear A600
              replace H := Option.bind_eq_some_iff.mp H
              obtain ⟨⟨t510, t511, t514⟩, A610, H⟩ := H
              replace H : (if (t508 == t514) = true then ((laws_jtBig.f kj10 t504 t505 t510 t511).bind fun t516 => (if t516 = true then ((impl_BigPut.f t484 t485).bind fun t517 => (some ((t517.size : Int) == (wrap64 (t482 + 1))))) else (some false))) else (some false)) = some r := H
              have A61 := Aside0.mk A610
              clear A610
              by_cases c62 : (t508 == t514) = true
              · rw [if_pos c62] at H
                have c62b0 : (t508 == t514) = true := c62
                (try (have c62b1 : decide (t508 = t514) = true := by simpa using c62))
                (try (have c62b2 : (t508 == t514) = true := by simpa using c62))
                clear c62
                replace H := Option.bind_eq_some_iff.mp H
                obtain ⟨t516, A630, H⟩ := H
                replace H : (if t516 = true then ((impl_BigPut.f t484 t485).bind fun t517 => (some ((t517.size : Int) == (wrap64 (t482 + 1))))) else (some false)) = some r := H
                have A63 := Aside0.mk A630
                clear A630
                by_cases c64 : t516 = true
                · subst c64
                  have H1 : ((impl_BigPut.f t484 t485).bind fun t517 => (some ((t517.size : Int) == (wrap64 (t482 + 1))))) = some r := by rw [if_pos rfl] at H; exact H
                  clear H
                  have H := H1
                  clear H1
                  replace H := Option.bind_eq_some_iff.mp H
                  obtain ⟨t517, A650, H⟩ := H
                  replace H : (some ((t517.size : Int) == (wrap64 (t482 + 1)))) = some r := H
                  have A65 := Aside0.mk A650
                  clear A650
                  obtain rfl := Option.some.inj H
                  have hnb66 := NB489_495.out
                  have hnc66 := NB495_489.out
                  have hnb67 := NB489_501.out
                  have hnc67 := NB501_489.out
                  have hcz68_0 : wc.cell? ⟨gb489, 0, none⟩ = some (.bool t484) := (blk_cell BK489.out 0).trans rfl
                  have hcz68_1 : wc.cell? ⟨gb489, 1, none⟩ = some (.slice Ao17 t485.length co17) := (blk_cell BK489.out 1).trans rfl
                  have hfz68_0 := blk_frozen BK489.out 0
                  have hfz68_1 := blk_frozen BK489.out 1
                  have hnb69 := NB495_501.out
                  have hnc69 := NB501_495.out
                  have hcz70_0 : wc.cell? ⟨gb495, 0, none⟩ = some (.bool t490) := (blk_cell BK495.out 0).trans rfl
                  have hcz70_1 : wc.cell? ⟨gb495, 1, none⟩ = some (.slice Ao22 t491.length co22) := (blk_cell BK495.out 1).trans rfl
                  have hfz70_0 := blk_frozen BK495.out 0
                  have hfz70_1 := blk_frozen BK495.out 1
                  go_wp2_with (first | ((with_reducible refine gate_callee (f := 31) rfl ?_); refine goesL_ (some 72) rfl rfl Tryd.func31 (by kernel_rfl) rfl #[.agg #[.bool t484, .slice Ao17 t485.length co17], .agg #[.bool t490, .slice Ao22 t491.length co22]] rfl za ?_; (with_reducible refine (impl_BigMul.calls kj10 t484 (fun k_ => (some k_ ≠ (.slice Ao28 t497.length co28 : Value).ownBlock ∧ (k_ ≠ gb489 ∧ (k_ ≠ gb495 ∧ k_ ≠ gb501)))) _ _ t485 t490 (fun k_ => (some k_ ≠ (.slice Ao28 t497.length co28 : Value).ownBlock ∧ (k_ ≠ gb489 ∧ (k_ ≠ gb495 ∧ k_ ≠ gb501)))) _ _ t491 t504 t505 t508 _ ?side1 ?side2 A60.out).mono ?_); (case side1 => exact HO_490001.out); (case side2 => exact HO_496001.out); rintro e w71 ⟨v506, rfl, ho0, hb⟩; refine ⟨_, rfl, ?_⟩; have n0_ := Aside0.mk (Kd.V_below (zV HO_490001.out) hb); have n1_ := Aside0.mk (Kd.V_below (zV HO_496001.out) hb); have n2_ := Aside0.mk (Kd.R_below (zR HO_502001.out) hb); have n3_ := Aside0.mk (Kd.V_lower (Kd.V_mono (ok' := fun k_ => some k_ ≠ (.slice Ao28 t497.length co28 : Value).ownBlock ∧ k_ ≠ gb489 ∧ k_ ≠ gb495 ∧ k_ ≠ gb501) ho0 (fun k_ hk_ => ⟨Or.elim hk_ (fun hs_ => Or.elim hs_ (fun hs_ => hs_.1) (fun hs_ => hs_.1)) (fun hn_ => (Kd.fresh' (Kd.R_lt (zR HO_502001.out)) k_ hn_)), Or.elim hk_ (fun hs_ => Or.elim hs_ (fun hs_ => hs_.2.1) (fun hs_ => hs_.2.1)) (fun hn_ => (Kd.freshB (g := gb489) (o := .cells #[.bool t484, .slice Ao17 t485.length co17] 27 (0, 0)) (zk BK489.out) k_ hn_)), Or.elim hk_ (fun hs_ => Or.elim hs_ (fun hs_ => hs_.2.2.1) (fun hs_ => hs_.2.2.1)) (fun hn_ => (Kd.freshB (g := gb495) (o := .cells #[.bool t490, .slice Ao22 t491.length co22] 27 (0, 0)) (zk BK495.out) k_ hn_)), Or.elim hk_ (fun hs_ => Or.elim hs_ (fun hs_ => hs_.2.2.2) (fun hs_ => hs_.2.2.2)) (fun hn_ => (Kd.freshB (g := gb501) (o := .cells #[.bool t496, .slice Ao28 t497.length co28] 27 (0, 0)) (zk BK501.out) k_ hn_))⟩)) (below_size zb)); have n4_ := Aside0.mk (blk_below (g := gb489) (o := .cells #[.bool t484, .slice Ao17 t485.length co17] 27 (0, 0)) (zk BK489.out) hb); have n5_ := Aside0.mk (blk_below (g := gb495) (o := .cells #[.bool t490, .slice Ao22 t491.length co22] 27 (0, 0)) (zk BK495.out) hb); have n6_ := Aside0.mk (blk_below (g := gb501) (o := .cells #[.bool t496, .slice Ao28 t497.length co28] 27 (0, 0)) (zk BK501.out) hb); have n7_ := Aside0.mk (below_step zb hb); clear HO_490001; clear HO_496001; clear HO_502001; clear BK489; clear BK495; clear BK501; clear HB; have HO_490001 := n0_; have HO_496001 := n1_; have HO_502001 := n2_; have HO507 := n3_; have BK489 := n4_; have BK495 := n5_; have BK501 := n6_; have HB := n7_; clear n0_ n1_ n2_ n3_ n4_ n5_ n6_ n7_; (try clear hb); (try clear hb2); (try clear hk); (try clear hi); (try clear ho0)) | ((with_reducible refine gate_dst (N := 13) rfl ?_); (try (refine gate_guard (by rfl) ?_; dsimp only)); refine box_event ?hg (N := 13) ?hd (cs := #[.bool false, .slice none 0 0]) (t := 27) ?hr ?_; (case hd => rfl); (case hg => rfl); (case hr => first | (go_simp; done) | (go_simp; rfl)); intro gb509 hg w72 hbox hb; have n0_ := Aside0.mk (Kd.V_below (Kd.V_elderB (zV HO_490001.out) gb509 (Nat.le_of_eq hg.symm)) hb); have n1_ := Aside0.mk (Kd.V_below (Kd.V_elderB (zV HO_496001.out) gb509 (Nat.le_of_eq hg.symm)) hb); have n2_ := Aside0.mk (Kd.R_below (zR HO_502001.out) hb); have n3_ := Aside0.mk (Kd.V_below (Kd.V_elderB (zV HO507.out) gb509 (Nat.le_of_eq hg.symm)) hb); have n4_ := Aside0.mk (blk_below (g := gb489) (o := .cells #[.bool t484, .slice Ao17 t485.length co17] 27 (0, 0)) (zk BK489.out) hb); have n5_ := Aside0.mk (blk_below (g := gb495) (o := .cells #[.bool t490, .slice Ao22 t491.length co22] 27 (0, 0)) (zk BK495.out) hb); have n6_ := Aside0.mk (blk_below (g := gb501) (o := .cells #[.bool t496, .slice Ao28 t497.length co28] 27 (0, 0)) (zk BK501.out) hb); have n7_ := Aside0.mk (below_step zb hb); have n8_ := Aside0.mk (hbox); have n9_ := Aside0.mk ((by rw [hg]; exact (below_size zb) : w.heap.size ≤ gb509)); have n10_ := Aside0.mk ((by rw [hg]; exact (below_size zb) : w.heap.size ≤ gb509)); have n11_ := Aside0.mk ((by rw [hg]; exact Nat.ne_of_lt (blk_lt (g := gb489) (o := .cells #[.bool t484, .slice Ao17 t485.length co17] 27 (0, 0)) (zk BK489.out)) : gb489 ≠ gb509)); have n12_ := Aside0.mk ((by rw [hg]; exact Nat.ne_of_gt (blk_lt (g := gb489) (o := .cells #[.bool t484, .slice Ao17 t485.length co17] 27 (0, 0)) (zk BK489.out)) : gb509 ≠ gb489)); have n13_ := Aside0.mk ((by rw [hg]; exact Nat.ne_of_lt (blk_lt (g := gb495) (o := .cells #[.bool t490, .slice Ao22 t491.length co22] 27 (0, 0)) (zk BK495.out)) : gb495 ≠ gb509)); have n14_ := Aside0.mk ((by rw [hg]; exact Nat.ne_of_gt (blk_lt (g := gb495) (o := .cells #[.bool t490, .slice Ao22 t491.length co22] 27 (0, 0)) (zk BK495.out)) : gb509 ≠ gb495)); have n15_ := Aside0.mk ((by rw [hg]; exact Nat.ne_of_lt (blk_lt (g := gb501) (o := .cells #[.bool t496, .slice Ao28 t497.length co28] 27 (0, 0)) (zk BK501.out)) : gb501 ≠ gb509)); have n16_ := Aside0.mk ((by rw [hg]; exact Nat.ne_of_gt (blk_lt (g := gb501) (o := .cells #[.bool t496, .slice Ao28 t497.length co28] 27 (0, 0)) (zk BK501.out)) : gb509 ≠ gb501)); clear HO_490001; clear HO_496001; clear HO_502001; clear HO507; clear BK489; clear BK495; clear BK501; clear HB; have HO_490001 := n0_; have HO_496001 := n1_; have HO_502001 := n2_; have HO507 := n3_; have BK489 := n4_; have BK495 := n5_; have BK501 := n6_; have HB := n7_; have BK509 := n8_; have GW509 := n9_; have GE509 := n10_; have NB489_509 := n11_; have NB509_489 := n12_; have NB495_509 := n13_; have NB509_495 := n14_; have NB501_509 := n15_; have NB509_501 := n16_; clear n0_ n1_ n2_ n3_ n4_ n5_ n6_ n7_ n8_ n9_ n10_ n11_ n12_ n13_ n14_ n15_ n16_; clear hb hbox hg; have hnb73 := NB509_489.out; have hnc73 := NB489_509.out; have hnb74 := NB509_495.out; have hnc74 := NB495_509.out; have hnb75 := NB509_501.out; have hnc75 := NB501_509.out; have hcz76_0 : w72.cell? ⟨gb509, 0, none⟩ = some (.bool false) := (blk_cell BK509.out 0).trans rfl; have hcz76_1 : w72.cell? ⟨gb509, 1, none⟩ = some (.slice none 0 0) := (blk_cell BK509.out 1).trans rfl; have hfz76_0 := blk_frozen BK509.out 0; have hfz76_1 := blk_frozen BK509.out 1; obtain ⟨Ao77, co77, eo77⟩ := Kd.V_slice HO507.out; subst eo77) | ((with_reducible refine gate_callee (f := 29) rfl ?_); refine goesL_ (some 79) rfl rfl Tryd.func29 (by kernel_rfl) rfl #[.int .i64 (wrap64 (t482 + t483))] rfl za ?_; (with_reducible refine (impl_BigTen.calls kj10 (wrap64 (t482 + t483)) t510 t511 t514 _ A61.out).mono ?_); rintro e w78 ⟨v512, rfl, ho0, hb⟩; refine ⟨_, rfl, ?_⟩; have n0_ := Aside0.mk (Kd.V_below (by (with_reducible repeat (first | apply Kd.V_alloc | apply Kd.V_drewN | apply Kd.V_drew)); exact (Kd.V_mono (Kd.V_far (p := ⟨gb509, 1, none⟩) (Kd.V_far (p := ⟨gb509, 0, none⟩) (Kd.V_mono HO_490001.out (fun k_ hk => (⟨hk, hk.2⟩ : _ ∧ k_ ≠ gb509))) (fun _ hk => hk.2) (.bool t504)) (fun _ hk => hk.2) (.slice Ao77 t505.length co77)) (fun _ h_ => h_.1))) hb); have n1_ := Aside0.mk (Kd.V_below (by (with_reducible repeat (first | apply Kd.V_alloc | apply Kd.V_drewN | apply Kd.V_drew)); exact (Kd.V_mono (Kd.V_far (p := ⟨gb509, 1, none⟩) (Kd.V_far (p := ⟨gb509, 0, none⟩) (Kd.V_mono HO_496001.out (fun k_ hk => (⟨hk, hk.2⟩ : _ ∧ k_ ≠ gb509))) (fun _ hk => hk.2) (.bool t504)) (fun _ hk => hk.2) (.slice Ao77 t505.length co77)) (fun _ h_ => h_.1))) hb); have n2_ := Aside0.mk (Kd.R_below (by (with_reducible repeat (first | apply Kd.R_alloc | apply Kd.R_drewN | apply Kd.R_drew)); exact (Kd.R_mono (Kd.R_far (p := ⟨gb509, 1, none⟩) (Kd.R_far (p := ⟨gb509, 0, none⟩) (Kd.R_types HO_502001.out BK509.out (by decide)) (fun _ hk => hk.2) (.bool t504)) (fun _ hk => hk.2) (.slice Ao77 t505.length co77)) (fun _ h_ => h_.1))) hb); have n3_ := Aside0.mk (Kd.V_below (by (with_reducible repeat (first | apply Kd.V_alloc | apply Kd.V_drewN | apply Kd.V_drew)); exact (Kd.V_mono (Kd.V_far (p := ⟨gb509, 1, none⟩) (Kd.V_far (p := ⟨gb509, 0, none⟩) (Kd.V_mono HO507.out (fun k_ hk => (⟨hk, hk.2⟩ : _ ∧ k_ ≠ gb509))) (fun _ hk => hk.2) (.bool t504)) (fun _ hk => hk.2) (.slice Ao77 t505.length co77)) (fun _ h_ => h_.1))) hb); have n4_ := Aside0.mk (Kd.V_lower (Kd.V_mono (ok' := fun k_ => some k_ ≠ (.slice Ao28 t497.length co28 : Value).ownBlock ∧ k_ ≠ gb489 ∧ k_ ≠ gb495 ∧ k_ ≠ gb501 ∧ k_ ≠ gb509) ho0 (fun k_ hk_ => ⟨(Kd.fresh' (Kd.R_lt (by (with_reducible repeat (first | apply Kd.R_alloc | apply Kd.R_drewN | apply Kd.R_drew)); exact (Kd.R_mono (Kd.R_far (p := ⟨gb509, 1, none⟩) (Kd.R_far (p := ⟨gb509, 0, none⟩) (Kd.R_types HO_502001.out BK509.out (by decide)) (fun _ hk => hk.2) (.bool t504)) (fun _ hk => hk.2) (.slice Ao77 t505.length co77)) (fun _ h_ => h_.1)))) k_ hk_), (Kd.freshB (g := gb489) (o := .cells #[.bool t484, .slice Ao17 t485.length co17] 27 (0, 0)) (zk BK489.out) k_ hk_), (Kd.freshB (g := gb495) (o := .cells #[.bool t490, .slice Ao22 t491.length co22] 27 (0, 0)) (zk BK495.out) k_ hk_), (Kd.freshB (g := gb501) (o := .cells #[.bool t496, .slice Ao28 t497.length co28] 27 (0, 0)) (zk BK501.out) k_ hk_), (Kd.freshB (g := gb509) (o := .cells #[.bool t504, .slice Ao77 t505.length co77] 27 (0, 0)) (by (with_reducible repeat (first | refine blk_drewN ?_ _ | refine blk_drew ?_ | refine blk_alloc ?_ _)); refine blk_put (cs := #[.bool t504, .slice none 0 0]) ?_ 1 _ rfl; (with_reducible repeat (first | refine blk_drewN ?_ _ | refine blk_drew ?_ | refine blk_alloc ?_ _)); refine blk_put (cs := #[.bool false, .slice none 0 0]) ?_ 0 _ rfl; (with_reducible repeat (first | refine blk_drewN ?_ _ | refine blk_drew ?_ | refine blk_alloc ?_ _)); exact BK509.out) k_ hk_)⟩)) (below_size zb)); have n5_ := Aside0.mk (blk_below (g := gb489) (o := .cells #[.bool t484, .slice Ao17 t485.length co17] 27 (0, 0)) (zk BK489.out) hb); have n6_ := Aside0.mk (blk_below (g := gb495) (o := .cells #[.bool t490, .slice Ao22 t491.length co22] 27 (0, 0)) (zk BK495.out) hb); have n7_ := Aside0.mk (blk_below (g := gb501) (o := .cells #[.bool t496, .slice Ao28 t497.length co28] 27 (0, 0)) (zk BK501.out) hb); have n8_ := Aside0.mk (blk_below (g := gb509) (o := .cells #[.bool t504, .slice Ao77 t505.length co77] 27 (0, 0)) (by (with_reducible repeat (first | refine blk_drewN ?_ _ | refine blk_drew ?_ | refine blk_alloc ?_ _)); refine blk_put (cs := #[.bool t504, .slice none 0 0]) ?_ 1 _ rfl; (with_reducible repeat (first | refine blk_drewN ?_ _ | refine blk_drew ?_ | refine blk_alloc ?_ _)); refine blk_put (cs := #[.bool false, .slice none 0 0]) ?_ 0 _ rfl; (with_reducible repeat (first | refine blk_drewN ?_ _ | refine blk_drew ?_ | refine blk_alloc ?_ _)); exact BK509.out) hb); have n9_ := Aside0.mk (below_step zb hb); clear HO_490001; clear HO_496001; clear HO_502001; clear HO507; clear BK489; clear BK495; clear BK501; clear BK509; clear HB; have HO_490001 := n0_; have HO_496001 := n1_; have HO_502001 := n2_; have HO507 := n3_; have HO513 := n4_; have BK489 := n5_; have BK495 := n6_; have BK501 := n7_; have BK509 := n8_; have HB := n9_; clear n0_ n1_ n2_ n3_ n4_ n5_ n6_ n7_ n8_ n9_; (try clear hb); (try clear hb2); (try clear hk); (try clear hi); (try clear ho0)) | ((with_reducible refine gate_dst (N := 15) rfl ?_); (try (refine gate_guard (by rfl) ?_; dsimp only)); refine box_event ?hg (N := 15) ?hd (cs := #[.bool false, .slice none 0 0]) (t := 27) ?hr ?_; (case hd => rfl); (case hg => rfl); (case hr => first | (go_simp; done) | (go_simp; rfl)); intro gb515 hg w79 hbox hb; have n0_ := Aside0.mk (Kd.V_below (Kd.V_elderB (zV HO_490001.out) gb515 (Nat.le_of_eq hg.symm)) hb); have n1_ := Aside0.mk (Kd.V_below (Kd.V_elderB (zV HO_496001.out) gb515 (Nat.le_of_eq hg.symm)) hb); have n2_ := Aside0.mk (Kd.R_below (zR HO_502001.out) hb); have n3_ := Aside0.mk (Kd.V_below (Kd.V_elderB (zV HO507.out) gb515 (Nat.le_of_eq hg.symm)) hb); have n4_ := Aside0.mk (Kd.V_below (Kd.V_elderB (zV HO513.out) gb515 (Nat.le_of_eq hg.symm)) hb); have n5_ := Aside0.mk (blk_below (g := gb489) (o := .cells #[.bool t484, .slice Ao17 t485.length co17] 27 (0, 0)) (zk BK489.out) hb); have n6_ := Aside0.mk (blk_below (g := gb495) (o := .cells #[.bool t490, .slice Ao22 t491.length co22] 27 (0, 0)) (zk BK495.out) hb); have n7_ := Aside0.mk (blk_below (g := gb501) (o := .cells #[.bool t496, .slice Ao28 t497.length co28] 27 (0, 0)) (zk BK501.out) hb); have n8_ := Aside0.mk (blk_below (g := gb509) (o := .cells #[.bool t504, .slice Ao77 t505.length co77] 27 (0, 0)) (zk BK509.out) hb); have n9_ := Aside0.mk (below_step zb hb); have n10_ := Aside0.mk (hbox); have n11_ := Aside0.mk ((by rw [hg]; exact (below_size zb) : w.heap.size ≤ gb515)); have n12_ := Aside0.mk ((by rw [hg]; exact (below_size zb) : w.heap.size ≤ gb515)); have n13_ := Aside0.mk ((by rw [hg]; exact Nat.ne_of_lt (blk_lt (g := gb489) (o := .cells #[.bool t484, .slice Ao17 t485.length co17] 27 (0, 0)) (zk BK489.out)) : gb489 ≠ gb515)); have n14_ := Aside0.mk ((by rw [hg]; exact Nat.ne_of_gt (blk_lt (g := gb489) (o := .cells #[.bool t484, .slice Ao17 t485.length co17] 27 (0, 0)) (zk BK489.out)) : gb515 ≠ gb489)); have n15_ := Aside0.mk ((by rw [hg]; exact Nat.ne_of_lt (blk_lt (g := gb495) (o := .cells #[.bool t490, .slice Ao22 t491.length co22] 27 (0, 0)) (zk BK495.out)) : gb495 ≠ gb515)); have n16_ := Aside0.mk ((by rw [hg]; exact Nat.ne_of_gt (blk_lt (g := gb495) (o := .cells #[.bool t490, .slice Ao22 t491.length co22] 27 (0, 0)) (zk BK495.out)) : gb515 ≠ gb495)); have n17_ := Aside0.mk ((by rw [hg]; exact Nat.ne_of_lt (blk_lt (g := gb501) (o := .cells #[.bool t496, .slice Ao28 t497.length co28] 27 (0, 0)) (zk BK501.out)) : gb501 ≠ gb515)); have n18_ := Aside0.mk ((by rw [hg]; exact Nat.ne_of_gt (blk_lt (g := gb501) (o := .cells #[.bool t496, .slice Ao28 t497.length co28] 27 (0, 0)) (zk BK501.out)) : gb515 ≠ gb501)); have n19_ := Aside0.mk ((by rw [hg]; exact Nat.ne_of_lt (blk_lt (g := gb509) (o := .cells #[.bool t504, .slice Ao77 t505.length co77] 27 (0, 0)) (zk BK509.out)) : gb509 ≠ gb515)); have n20_ := Aside0.mk ((by rw [hg]; exact Nat.ne_of_gt (blk_lt (g := gb509) (o := .cells #[.bool t504, .slice Ao77 t505.length co77] 27 (0, 0)) (zk BK509.out)) : gb515 ≠ gb509)); clear HO_490001; clear HO_496001; clear HO_502001; clear HO507; clear HO513; clear BK489; clear BK495; clear BK501; clear BK509; clear HB; have HO_490001 := n0_; have HO_496001 := n1_; have HO_502001 := n2_; have HO507 := n3_; have HO513 := n4_; have BK489 := n5_; have BK495 := n6_; have BK501 := n7_; have BK509 := n8_; have HB := n9_; have BK515 := n10_; have GW515 := n11_; have GE515 := n12_; have NB489_515 := n13_; have NB515_489 := n14_; have NB495_515 := n15_; have NB515_495 := n16_; have NB501_515 := n17_; have NB515_501 := n18_; have NB509_515 := n19_; have NB515_509 := n20_; clear n0_ n1_ n2_ n3_ n4_ n5_ n6_ n7_ n8_ n9_ n10_ n11_ n12_ n13_ n14_ n15_ n16_ n17_ n18_ n19_ n20_; clear hb hbox hg; have hnb80 := NB515_489.out; have hnc80 := NB489_515.out; have hnb81 := NB515_495.out; have hnc81 := NB495_515.out; have hnb82 := NB515_501.out; have hnc82 := NB501_515.out; have hnb83 := NB515_509.out; have hnc83 := NB509_515.out; have hcz84_0 : w79.cell? ⟨gb515, 0, none⟩ = some (.bool false) := (blk_cell BK515.out 0).trans rfl; have hcz84_1 : w79.cell? ⟨gb515, 1, none⟩ = some (.slice none 0 0) := (blk_cell BK515.out 1).trans rfl; have hfz84_0 := blk_frozen BK515.out 0; have hfz84_1 := blk_frozen BK515.out 1; obtain ⟨Ao85, co85, eo85⟩ := Kd.V_slice HO513.out; subst eo85; have hcz86_0 : w79.cell? ⟨gb509, 0, none⟩ = some (.bool t504) := (blk_cell BK509.out 0).trans rfl; have hcz86_1 : w79.cell? ⟨gb509, 1, none⟩ = some (.slice Ao77 t505.length co77) := (blk_cell BK509.out 1).trans rfl; have hfz86_0 := blk_frozen BK509.out 0; have hfz86_1 := blk_frozen BK509.out 1) | (go_at_call 26; (with_reducible refine (laws_jtBig.calls kj10 t504 _ _ t505 t510 _ _ t511 true _ ?side1 ?side2 ?side3 ?side4 A63.out).mono ?_); (case side1 => refine (Kd.V_reads' (e := 3) (base := w.heap.size) (ok := fun k_ => (((some k_ ≠ (.slice Ao28 t497.length co28 : Value).ownBlock ∧ (k_ ≠ gb489 ∧ (k_ ≠ gb495 ∧ k_ ≠ gb501))) ∧ k_ ≠ gb509) ∧ k_ ≠ gb515)) (n := t505.length) (c := co77) ?_).2.2; exact (by (with_reducible repeat (first | apply Kd.V_alloc | apply Kd.V_drewN | apply Kd.V_drew)); exact (Kd.V_mono (Kd.V_far (p := ⟨gb515, 1, none⟩) (Kd.V_far (p := ⟨gb515, 0, none⟩) (Kd.V_mono HO507.out (fun k_ hk => (⟨hk, hk.2⟩ : _ ∧ k_ ≠ gb515))) (fun _ hk => hk.2) (.bool t510)) (fun _ hk => hk.2) (.slice Ao85 t511.length co85)) (fun _ h_ => h_.1)))); (case side2 => exact (Kd.V_reads' HO507.out).2.1); (case side3 => refine (Kd.V_reads' (e := 3) (base := w.heap.size) (ok := fun k_ => ((some k_ ≠ (.slice Ao28 t497.length co28 : Value).ownBlock ∧ (k_ ≠ gb489 ∧ (k_ ≠ gb495 ∧ (k_ ≠ gb501 ∧ k_ ≠ gb509)))) ∧ k_ ≠ gb515)) (n := t511.length) (c := co85) ?_).2.2; exact (by (with_reducible repeat (first | apply Kd.V_alloc | apply Kd.V_drewN | apply Kd.V_drew)); exact (Kd.V_mono (Kd.V_far (p := ⟨gb515, 1, none⟩) (Kd.V_far (p := ⟨gb515, 0, none⟩) (Kd.V_mono HO513.out (fun k_ hk => (⟨hk, hk.2⟩ : _ ∧ k_ ≠ gb515))) (fun _ hk => hk.2) (.bool t510)) (fun _ hk => hk.2) (.slice Ao85 t511.length co85)) (fun _ h_ => h_.1)))); (case side4 => exact (Kd.V_reads' HO513.out).2.1); rintro e w87 ⟨rfl, hb⟩; have n0_ := Aside0.mk (Kd.V_below (by (with_reducible repeat (first | apply Kd.V_alloc | apply Kd.V_drewN | apply Kd.V_drew)); exact (Kd.V_mono (Kd.V_far (p := ⟨gb515, 1, none⟩) (Kd.V_far (p := ⟨gb515, 0, none⟩) (Kd.V_mono HO_490001.out (fun k_ hk => (⟨hk, hk.2⟩ : _ ∧ k_ ≠ gb515))) (fun _ hk => hk.2) (.bool t510)) (fun _ hk => hk.2) (.slice Ao85 t511.length co85)) (fun _ h_ => h_.1))) hb); have n1_ := Aside0.mk (Kd.V_below (by (with_reducible repeat (first | apply Kd.V_alloc | apply Kd.V_drewN | apply Kd.V_drew)); exact (Kd.V_mono (Kd.V_far (p := ⟨gb515, 1, none⟩) (Kd.V_far (p := ⟨gb515, 0, none⟩) (Kd.V_mono HO_496001.out (fun k_ hk => (⟨hk, hk.2⟩ : _ ∧ k_ ≠ gb515))) (fun _ hk => hk.2) (.bool t510)) (fun _ hk => hk.2) (.slice Ao85 t511.length co85)) (fun _ h_ => h_.1))) hb); have n2_ := Aside0.mk (Kd.R_below (by (with_reducible repeat (first | apply Kd.R_alloc | apply Kd.R_drewN | apply Kd.R_drew)); exact (Kd.R_mono (Kd.R_far (p := ⟨gb515, 1, none⟩) (Kd.R_far (p := ⟨gb515, 0, none⟩) (Kd.R_types HO_502001.out BK515.out (by decide)) (fun _ hk => hk.2) (.bool t510)) (fun _ hk => hk.2) (.slice Ao85 t511.length co85)) (fun _ h_ => h_.1))) hb); have n3_ := Aside0.mk (Kd.V_below (by (with_reducible repeat (first | apply Kd.V_alloc | apply Kd.V_drewN | apply Kd.V_drew)); exact (Kd.V_mono (Kd.V_far (p := ⟨gb515, 1, none⟩) (Kd.V_far (p := ⟨gb515, 0, none⟩) (Kd.V_mono HO507.out (fun k_ hk => (⟨hk, hk.2⟩ : _ ∧ k_ ≠ gb515))) (fun _ hk => hk.2) (.bool t510)) (fun _ hk => hk.2) (.slice Ao85 t511.length co85)) (fun _ h_ => h_.1))) hb); have n4_ := Aside0.mk (Kd.V_below (by (with_reducible repeat (first | apply Kd.V_alloc | apply Kd.V_drewN | apply Kd.V_drew)); exact (Kd.V_mono (Kd.V_far (p := ⟨gb515, 1, none⟩) (Kd.V_far (p := ⟨gb515, 0, none⟩) (Kd.V_mono HO513.out (fun k_ hk => (⟨hk, hk.2⟩ : _ ∧ k_ ≠ gb515))) (fun _ hk => hk.2) (.bool t510)) (fun _ hk => hk.2) (.slice Ao85 t511.length co85)) (fun _ h_ => h_.1))) hb); have n5_ := Aside0.mk (blk_below (g := gb489) (o := .cells #[.bool t484, .slice Ao17 t485.length co17] 27 (0, 0)) (zk BK489.out) hb); have n6_ := Aside0.mk (blk_below (g := gb495) (o := .cells #[.bool t490, .slice Ao22 t491.length co22] 27 (0, 0)) (zk BK495.out) hb); have n7_ := Aside0.mk (blk_below (g := gb501) (o := .cells #[.bool t496, .slice Ao28 t497.length co28] 27 (0, 0)) (zk BK501.out) hb); have n8_ := Aside0.mk (blk_below (g := gb509) (o := .cells #[.bool t504, .slice Ao77 t505.length co77] 27 (0, 0)) (zk BK509.out) hb); have n9_ := Aside0.mk (blk_below (g := gb515) (o := .cells #[.bool t510, .slice Ao85 t511.length co85] 27 (0, 0)) (by (with_reducible repeat (first | refine blk_drewN ?_ _ | refine blk_drew ?_ | refine blk_alloc ?_ _)); refine blk_put (cs := #[.bool t510, .slice none 0 0]) ?_ 1 _ rfl; (with_reducible repeat (first | refine blk_drewN ?_ _ | refine blk_drew ?_ | refine blk_alloc ?_ _)); refine blk_put (cs := #[.bool false, .slice none 0 0]) ?_ 0 _ rfl; (with_reducible repeat (first | refine blk_drewN ?_ _ | refine blk_drew ?_ | refine blk_alloc ?_ _)); exact BK515.out) hb); have n10_ := Aside0.mk (below_step zb hb); clear HO_490001; clear HO_496001; clear HO_502001; clear HO507; clear HO513; clear BK489; clear BK495; clear BK501; clear BK509; clear BK515; clear HB; have HO_490001 := n0_; have HO_496001 := n1_; have HO_502001 := n2_; have HO507 := n3_; have HO513 := n4_; have BK489 := n5_; have BK495 := n6_; have BK501 := n7_; have BK509 := n8_; have BK515 := n9_; have HB := n10_; clear n0_ n1_ n2_ n3_ n4_ n5_ n6_ n7_ n8_ n9_ n10_; (try clear hb); (try clear hb2); (try clear hk); (try clear hi); have hcz88_0 : w87.cell? ⟨gb489, 0, none⟩ = some (.bool t484) := (blk_cell BK489.out 0).trans rfl; have hcz88_1 : w87.cell? ⟨gb489, 1, none⟩ = some (.slice Ao17 t485.length co17) := (blk_cell BK489.out 1).trans rfl; have hfz88_0 := blk_frozen BK489.out 0; have hfz88_1 := blk_frozen BK489.out 1) | (go_at_call 12; (with_reducible refine (impl_BigPut.calls t484 _ _ t485 t517 _ ?side1 ?side2 ?side3 A65.out).mono ?_); (case side1 => exact HT.out.below zb); (case side2 => repeat (first | exact (Kd.V_reads' HO_490001.out).2.2 | (with_reducible refine Kd.C_alloc ?_ _) | (with_reducible refine Kd.C_drewN ?_ _) | (with_reducible refine Kd.C_drew ?_))); (case side3 => exact (Kd.V_reads' HO_490001.out).2.1); rintro e w89 ⟨rfl, hb⟩; have n0_ := Aside0.mk (Kd.V_below (zV HO_490001.out) hb); have n1_ := Aside0.mk (Kd.V_below (zV HO_496001.out) hb); have n2_ := Aside0.mk (Kd.R_below (zR HO_502001.out) hb); have n3_ := Aside0.mk (Kd.V_below (zV HO507.out) hb); have n4_ := Aside0.mk (Kd.V_below (zV HO513.out) hb); have n5_ := Aside0.mk (blk_below (g := gb489) (o := .cells #[.bool t484, .slice Ao17 t485.length co17] 27 (0, 0)) (zk BK489.out) hb); have n6_ := Aside0.mk (blk_below (g := gb495) (o := .cells #[.bool t490, .slice Ao22 t491.length co22] 27 (0, 0)) (zk BK495.out) hb); have n7_ := Aside0.mk (blk_below (g := gb501) (o := .cells #[.bool t496, .slice Ao28 t497.length co28] 27 (0, 0)) (zk BK501.out) hb); have n8_ := Aside0.mk (blk_below (g := gb509) (o := .cells #[.bool t504, .slice Ao77 t505.length co77] 27 (0, 0)) (zk BK509.out) hb); have n9_ := Aside0.mk (blk_below (g := gb515) (o := .cells #[.bool t510, .slice Ao85 t511.length co85] 27 (0, 0)) (zk BK515.out) hb); have n10_ := Aside0.mk (below_step zb hb); clear HO_490001; clear HO_496001; clear HO_502001; clear HO507; clear HO513; clear BK489; clear BK495; clear BK501; clear BK509; clear BK515; clear HB; have HO_490001 := n0_; have HO_496001 := n1_; have HO_502001 := n2_; have HO507 := n3_; have HO513 := n4_; have BK489 := n5_; have BK495 := n6_; have BK501 := n7_; have BK509 := n8_; have BK515 := n9_; have HB := n10_; clear n0_ n1_ n2_ n3_ n4_ n5_ n6_ n7_ n8_ n9_ n10_; (try clear hb); (try clear hb2); (try clear hk); (try clear hi)))
                  go_ret
                  exact ⟨by first | rfl | (simp [errW_none, errW_some] <;> rfl) | (simp [*, errW_none, errW_some] <;> rfl), zb⟩
                · replace c64 := Bool.eq_false_iff.mpr c64
                  subst c64
                  have H1 : (some false) = some r := by rw [if_neg (show ¬ (false = true) by decide)] at H; exact H
                  clear H
                  have H := H1
                  clear H1
                  obtain rfl := Option.some.inj H
                  have hnb90 := NB489_495.out
                  have hnc90 := NB495_489.out
                  have hnb91 := NB489_501.out
                  have hnc91 := NB501_489.out
                  have hcz92_0 : wc.cell? ⟨gb489, 0, none⟩ = some (.bool t484) := (blk_cell BK489.out 0).trans rfl
                  have hcz92_1 : wc.cell? ⟨gb489, 1, none⟩ = some (.slice Ao17 t485.length co17) := (blk_cell BK489.out 1).trans rfl
                  have hfz92_0 := blk_frozen BK489.out 0
                  have hfz92_1 := blk_frozen BK489.out 1
                  have hnb93 := NB495_501.out
                  have hnc93 := NB501_495.out
                  have hcz94_0 : wc.cell? ⟨gb495, 0, none⟩ = some (.bool t490) := (blk_cell BK495.out 0).trans rfl
                  have hcz94_1 : wc.cell? ⟨gb495, 1, none⟩ = some (.slice Ao22 t491.length co22) := (blk_cell BK495.out 1).trans rfl
                  have hfz94_0 := blk_frozen BK495.out 0
                  have hfz94_1 := blk_frozen BK495.out 1
                  go_wp2_with (first | ((with_reducible refine gate_callee (f := 31) rfl ?_); refine goesL_ (some 72) rfl rfl Tryd.func31 (by kernel_rfl) rfl #[.agg #[.bool t484, .slice Ao17 t485.length co17], .agg #[.bool t490, .slice Ao22 t491.length co22]] rfl za ?_; (with_reducible refine (impl_BigMul.calls kj10 t484 (fun k_ => (some k_ ≠ (.slice Ao28 t497.length co28 : Value).ownBlock ∧ (k_ ≠ gb489 ∧ (k_ ≠ gb495 ∧ k_ ≠ gb501)))) _ _ t485 t490 (fun k_ => (some k_ ≠ (.slice Ao28 t497.length co28 : Value).ownBlock ∧ (k_ ≠ gb489 ∧ (k_ ≠ gb495 ∧ k_ ≠ gb501)))) _ _ t491 t504 t505 t508 _ ?side1 ?side2 A60.out).mono ?_); (case side1 => exact HO_490001.out); (case side2 => exact HO_496001.out); rintro e w95 ⟨v506, rfl, ho0, hb⟩; refine ⟨_, rfl, ?_⟩; have n0_ := Aside0.mk (Kd.V_below (zV HO_490001.out) hb); have n1_ := Aside0.mk (Kd.V_below (zV HO_496001.out) hb); have n2_ := Aside0.mk (Kd.R_below (zR HO_502001.out) hb); have n3_ := Aside0.mk (Kd.V_lower (Kd.V_mono (ok' := fun k_ => some k_ ≠ (.slice Ao28 t497.length co28 : Value).ownBlock ∧ k_ ≠ gb489 ∧ k_ ≠ gb495 ∧ k_ ≠ gb501) ho0 (fun k_ hk_ => ⟨Or.elim hk_ (fun hs_ => Or.elim hs_ (fun hs_ => hs_.1) (fun hs_ => hs_.1)) (fun hn_ => (Kd.fresh' (Kd.R_lt (zR HO_502001.out)) k_ hn_)), Or.elim hk_ (fun hs_ => Or.elim hs_ (fun hs_ => hs_.2.1) (fun hs_ => hs_.2.1)) (fun hn_ => (Kd.freshB (g := gb489) (o := .cells #[.bool t484, .slice Ao17 t485.length co17] 27 (0, 0)) (zk BK489.out) k_ hn_)), Or.elim hk_ (fun hs_ => Or.elim hs_ (fun hs_ => hs_.2.2.1) (fun hs_ => hs_.2.2.1)) (fun hn_ => (Kd.freshB (g := gb495) (o := .cells #[.bool t490, .slice Ao22 t491.length co22] 27 (0, 0)) (zk BK495.out) k_ hn_)), Or.elim hk_ (fun hs_ => Or.elim hs_ (fun hs_ => hs_.2.2.2) (fun hs_ => hs_.2.2.2)) (fun hn_ => (Kd.freshB (g := gb501) (o := .cells #[.bool t496, .slice Ao28 t497.length co28] 27 (0, 0)) (zk BK501.out) k_ hn_))⟩)) (below_size zb)); have n4_ := Aside0.mk (blk_below (g := gb489) (o := .cells #[.bool t484, .slice Ao17 t485.length co17] 27 (0, 0)) (zk BK489.out) hb); have n5_ := Aside0.mk (blk_below (g := gb495) (o := .cells #[.bool t490, .slice Ao22 t491.length co22] 27 (0, 0)) (zk BK495.out) hb); have n6_ := Aside0.mk (blk_below (g := gb501) (o := .cells #[.bool t496, .slice Ao28 t497.length co28] 27 (0, 0)) (zk BK501.out) hb); have n7_ := Aside0.mk (below_step zb hb); clear HO_490001; clear HO_496001; clear HO_502001; clear BK489; clear BK495; clear BK501; clear HB; have HO_490001 := n0_; have HO_496001 := n1_; have HO_502001 := n2_; have HO507 := n3_; have BK489 := n4_; have BK495 := n5_; have BK501 := n6_; have HB := n7_; clear n0_ n1_ n2_ n3_ n4_ n5_ n6_ n7_; (try clear hb); (try clear hb2); (try clear hk); (try clear hi); (try clear ho0)) | ((with_reducible refine gate_dst (N := 13) rfl ?_); (try (refine gate_guard (by rfl) ?_; dsimp only)); refine box_event ?hg (N := 13) ?hd (cs := #[.bool false, .slice none 0 0]) (t := 27) ?hr ?_; (case hd => rfl); (case hg => rfl); (case hr => first | (go_simp; done) | (go_simp; rfl)); intro gb509 hg w96 hbox hb; have n0_ := Aside0.mk (Kd.V_below (Kd.V_elderB (zV HO_490001.out) gb509 (Nat.le_of_eq hg.symm)) hb); have n1_ := Aside0.mk (Kd.V_below (Kd.V_elderB (zV HO_496001.out) gb509 (Nat.le_of_eq hg.symm)) hb); have n2_ := Aside0.mk (Kd.R_below (zR HO_502001.out) hb); have n3_ := Aside0.mk (Kd.V_below (Kd.V_elderB (zV HO507.out) gb509 (Nat.le_of_eq hg.symm)) hb); have n4_ := Aside0.mk (blk_below (g := gb489) (o := .cells #[.bool t484, .slice Ao17 t485.length co17] 27 (0, 0)) (zk BK489.out) hb); have n5_ := Aside0.mk (blk_below (g := gb495) (o := .cells #[.bool t490, .slice Ao22 t491.length co22] 27 (0, 0)) (zk BK495.out) hb); have n6_ := Aside0.mk (blk_below (g := gb501) (o := .cells #[.bool t496, .slice Ao28 t497.length co28] 27 (0, 0)) (zk BK501.out) hb); have n7_ := Aside0.mk (below_step zb hb); have n8_ := Aside0.mk (hbox); have n9_ := Aside0.mk ((by rw [hg]; exact (below_size zb) : w.heap.size ≤ gb509)); have n10_ := Aside0.mk ((by rw [hg]; exact (below_size zb) : w.heap.size ≤ gb509)); have n11_ := Aside0.mk ((by rw [hg]; exact Nat.ne_of_lt (blk_lt (g := gb489) (o := .cells #[.bool t484, .slice Ao17 t485.length co17] 27 (0, 0)) (zk BK489.out)) : gb489 ≠ gb509)); have n12_ := Aside0.mk ((by rw [hg]; exact Nat.ne_of_gt (blk_lt (g := gb489) (o := .cells #[.bool t484, .slice Ao17 t485.length co17] 27 (0, 0)) (zk BK489.out)) : gb509 ≠ gb489)); have n13_ := Aside0.mk ((by rw [hg]; exact Nat.ne_of_lt (blk_lt (g := gb495) (o := .cells #[.bool t490, .slice Ao22 t491.length co22] 27 (0, 0)) (zk BK495.out)) : gb495 ≠ gb509)); have n14_ := Aside0.mk ((by rw [hg]; exact Nat.ne_of_gt (blk_lt (g := gb495) (o := .cells #[.bool t490, .slice Ao22 t491.length co22] 27 (0, 0)) (zk BK495.out)) : gb509 ≠ gb495)); have n15_ := Aside0.mk ((by rw [hg]; exact Nat.ne_of_lt (blk_lt (g := gb501) (o := .cells #[.bool t496, .slice Ao28 t497.length co28] 27 (0, 0)) (zk BK501.out)) : gb501 ≠ gb509)); have n16_ := Aside0.mk ((by rw [hg]; exact Nat.ne_of_gt (blk_lt (g := gb501) (o := .cells #[.bool t496, .slice Ao28 t497.length co28] 27 (0, 0)) (zk BK501.out)) : gb509 ≠ gb501)); clear HO_490001; clear HO_496001; clear HO_502001; clear HO507; clear BK489; clear BK495; clear BK501; clear HB; have HO_490001 := n0_; have HO_496001 := n1_; have HO_502001 := n2_; have HO507 := n3_; have BK489 := n4_; have BK495 := n5_; have BK501 := n6_; have HB := n7_; have BK509 := n8_; have GW509 := n9_; have GE509 := n10_; have NB489_509 := n11_; have NB509_489 := n12_; have NB495_509 := n13_; have NB509_495 := n14_; have NB501_509 := n15_; have NB509_501 := n16_; clear n0_ n1_ n2_ n3_ n4_ n5_ n6_ n7_ n8_ n9_ n10_ n11_ n12_ n13_ n14_ n15_ n16_; clear hb hbox hg; have hnb97 := NB509_489.out; have hnc97 := NB489_509.out; have hnb98 := NB509_495.out; have hnc98 := NB495_509.out; have hnb99 := NB509_501.out; have hnc99 := NB501_509.out; have hcz100_0 : w96.cell? ⟨gb509, 0, none⟩ = some (.bool false) := (blk_cell BK509.out 0).trans rfl; have hcz100_1 : w96.cell? ⟨gb509, 1, none⟩ = some (.slice none 0 0) := (blk_cell BK509.out 1).trans rfl; have hfz100_0 := blk_frozen BK509.out 0; have hfz100_1 := blk_frozen BK509.out 1; obtain ⟨Ao101, co101, eo101⟩ := Kd.V_slice HO507.out; subst eo101) | ((with_reducible refine gate_callee (f := 29) rfl ?_); refine goesL_ (some 79) rfl rfl Tryd.func29 (by kernel_rfl) rfl #[.int .i64 (wrap64 (t482 + t483))] rfl za ?_; (with_reducible refine (impl_BigTen.calls kj10 (wrap64 (t482 + t483)) t510 t511 t514 _ A61.out).mono ?_); rintro e w102 ⟨v512, rfl, ho0, hb⟩; refine ⟨_, rfl, ?_⟩; have n0_ := Aside0.mk (Kd.V_below (by (with_reducible repeat (first | apply Kd.V_alloc | apply Kd.V_drewN | apply Kd.V_drew)); exact (Kd.V_mono (Kd.V_far (p := ⟨gb509, 1, none⟩) (Kd.V_far (p := ⟨gb509, 0, none⟩) (Kd.V_mono HO_490001.out (fun k_ hk => (⟨hk, hk.2⟩ : _ ∧ k_ ≠ gb509))) (fun _ hk => hk.2) (.bool t504)) (fun _ hk => hk.2) (.slice Ao101 t505.length co101)) (fun _ h_ => h_.1))) hb); have n1_ := Aside0.mk (Kd.V_below (by (with_reducible repeat (first | apply Kd.V_alloc | apply Kd.V_drewN | apply Kd.V_drew)); exact (Kd.V_mono (Kd.V_far (p := ⟨gb509, 1, none⟩) (Kd.V_far (p := ⟨gb509, 0, none⟩) (Kd.V_mono HO_496001.out (fun k_ hk => (⟨hk, hk.2⟩ : _ ∧ k_ ≠ gb509))) (fun _ hk => hk.2) (.bool t504)) (fun _ hk => hk.2) (.slice Ao101 t505.length co101)) (fun _ h_ => h_.1))) hb); have n2_ := Aside0.mk (Kd.R_below (by (with_reducible repeat (first | apply Kd.R_alloc | apply Kd.R_drewN | apply Kd.R_drew)); exact (Kd.R_mono (Kd.R_far (p := ⟨gb509, 1, none⟩) (Kd.R_far (p := ⟨gb509, 0, none⟩) (Kd.R_types HO_502001.out BK509.out (by decide)) (fun _ hk => hk.2) (.bool t504)) (fun _ hk => hk.2) (.slice Ao101 t505.length co101)) (fun _ h_ => h_.1))) hb); have n3_ := Aside0.mk (Kd.V_below (by (with_reducible repeat (first | apply Kd.V_alloc | apply Kd.V_drewN | apply Kd.V_drew)); exact (Kd.V_mono (Kd.V_far (p := ⟨gb509, 1, none⟩) (Kd.V_far (p := ⟨gb509, 0, none⟩) (Kd.V_mono HO507.out (fun k_ hk => (⟨hk, hk.2⟩ : _ ∧ k_ ≠ gb509))) (fun _ hk => hk.2) (.bool t504)) (fun _ hk => hk.2) (.slice Ao101 t505.length co101)) (fun _ h_ => h_.1))) hb); have n4_ := Aside0.mk (Kd.V_lower (Kd.V_mono (ok' := fun k_ => some k_ ≠ (.slice Ao28 t497.length co28 : Value).ownBlock ∧ k_ ≠ gb489 ∧ k_ ≠ gb495 ∧ k_ ≠ gb501 ∧ k_ ≠ gb509) ho0 (fun k_ hk_ => ⟨(Kd.fresh' (Kd.R_lt (by (with_reducible repeat (first | apply Kd.R_alloc | apply Kd.R_drewN | apply Kd.R_drew)); exact (Kd.R_mono (Kd.R_far (p := ⟨gb509, 1, none⟩) (Kd.R_far (p := ⟨gb509, 0, none⟩) (Kd.R_types HO_502001.out BK509.out (by decide)) (fun _ hk => hk.2) (.bool t504)) (fun _ hk => hk.2) (.slice Ao101 t505.length co101)) (fun _ h_ => h_.1)))) k_ hk_), (Kd.freshB (g := gb489) (o := .cells #[.bool t484, .slice Ao17 t485.length co17] 27 (0, 0)) (zk BK489.out) k_ hk_), (Kd.freshB (g := gb495) (o := .cells #[.bool t490, .slice Ao22 t491.length co22] 27 (0, 0)) (zk BK495.out) k_ hk_), (Kd.freshB (g := gb501) (o := .cells #[.bool t496, .slice Ao28 t497.length co28] 27 (0, 0)) (zk BK501.out) k_ hk_), (Kd.freshB (g := gb509) (o := .cells #[.bool t504, .slice Ao101 t505.length co101] 27 (0, 0)) (by (with_reducible repeat (first | refine blk_drewN ?_ _ | refine blk_drew ?_ | refine blk_alloc ?_ _)); refine blk_put (cs := #[.bool t504, .slice none 0 0]) ?_ 1 _ rfl; (with_reducible repeat (first | refine blk_drewN ?_ _ | refine blk_drew ?_ | refine blk_alloc ?_ _)); refine blk_put (cs := #[.bool false, .slice none 0 0]) ?_ 0 _ rfl; (with_reducible repeat (first | refine blk_drewN ?_ _ | refine blk_drew ?_ | refine blk_alloc ?_ _)); exact BK509.out) k_ hk_)⟩)) (below_size zb)); have n5_ := Aside0.mk (blk_below (g := gb489) (o := .cells #[.bool t484, .slice Ao17 t485.length co17] 27 (0, 0)) (zk BK489.out) hb); have n6_ := Aside0.mk (blk_below (g := gb495) (o := .cells #[.bool t490, .slice Ao22 t491.length co22] 27 (0, 0)) (zk BK495.out) hb); have n7_ := Aside0.mk (blk_below (g := gb501) (o := .cells #[.bool t496, .slice Ao28 t497.length co28] 27 (0, 0)) (zk BK501.out) hb); have n8_ := Aside0.mk (blk_below (g := gb509) (o := .cells #[.bool t504, .slice Ao101 t505.length co101] 27 (0, 0)) (by (with_reducible repeat (first | refine blk_drewN ?_ _ | refine blk_drew ?_ | refine blk_alloc ?_ _)); refine blk_put (cs := #[.bool t504, .slice none 0 0]) ?_ 1 _ rfl; (with_reducible repeat (first | refine blk_drewN ?_ _ | refine blk_drew ?_ | refine blk_alloc ?_ _)); refine blk_put (cs := #[.bool false, .slice none 0 0]) ?_ 0 _ rfl; (with_reducible repeat (first | refine blk_drewN ?_ _ | refine blk_drew ?_ | refine blk_alloc ?_ _)); exact BK509.out) hb); have n9_ := Aside0.mk (below_step zb hb); clear HO_490001; clear HO_496001; clear HO_502001; clear HO507; clear BK489; clear BK495; clear BK501; clear BK509; clear HB; have HO_490001 := n0_; have HO_496001 := n1_; have HO_502001 := n2_; have HO507 := n3_; have HO513 := n4_; have BK489 := n5_; have BK495 := n6_; have BK501 := n7_; have BK509 := n8_; have HB := n9_; clear n0_ n1_ n2_ n3_ n4_ n5_ n6_ n7_ n8_ n9_; (try clear hb); (try clear hb2); (try clear hk); (try clear hi); (try clear ho0)) | ((with_reducible refine gate_dst (N := 15) rfl ?_); (try (refine gate_guard (by rfl) ?_; dsimp only)); refine box_event ?hg (N := 15) ?hd (cs := #[.bool false, .slice none 0 0]) (t := 27) ?hr ?_; (case hd => rfl); (case hg => rfl); (case hr => first | (go_simp; done) | (go_simp; rfl)); intro gb515 hg w103 hbox hb; have n0_ := Aside0.mk (Kd.V_below (Kd.V_elderB (zV HO_490001.out) gb515 (Nat.le_of_eq hg.symm)) hb); have n1_ := Aside0.mk (Kd.V_below (Kd.V_elderB (zV HO_496001.out) gb515 (Nat.le_of_eq hg.symm)) hb); have n2_ := Aside0.mk (Kd.R_below (zR HO_502001.out) hb); have n3_ := Aside0.mk (Kd.V_below (Kd.V_elderB (zV HO507.out) gb515 (Nat.le_of_eq hg.symm)) hb); have n4_ := Aside0.mk (Kd.V_below (Kd.V_elderB (zV HO513.out) gb515 (Nat.le_of_eq hg.symm)) hb); have n5_ := Aside0.mk (blk_below (g := gb489) (o := .cells #[.bool t484, .slice Ao17 t485.length co17] 27 (0, 0)) (zk BK489.out) hb); have n6_ := Aside0.mk (blk_below (g := gb495) (o := .cells #[.bool t490, .slice Ao22 t491.length co22] 27 (0, 0)) (zk BK495.out) hb); have n7_ := Aside0.mk (blk_below (g := gb501) (o := .cells #[.bool t496, .slice Ao28 t497.length co28] 27 (0, 0)) (zk BK501.out) hb); have n8_ := Aside0.mk (blk_below (g := gb509) (o := .cells #[.bool t504, .slice Ao101 t505.length co101] 27 (0, 0)) (zk BK509.out) hb); have n9_ := Aside0.mk (below_step zb hb); have n10_ := Aside0.mk (hbox); have n11_ := Aside0.mk ((by rw [hg]; exact (below_size zb) : w.heap.size ≤ gb515)); have n12_ := Aside0.mk ((by rw [hg]; exact (below_size zb) : w.heap.size ≤ gb515)); have n13_ := Aside0.mk ((by rw [hg]; exact Nat.ne_of_lt (blk_lt (g := gb489) (o := .cells #[.bool t484, .slice Ao17 t485.length co17] 27 (0, 0)) (zk BK489.out)) : gb489 ≠ gb515)); have n14_ := Aside0.mk ((by rw [hg]; exact Nat.ne_of_gt (blk_lt (g := gb489) (o := .cells #[.bool t484, .slice Ao17 t485.length co17] 27 (0, 0)) (zk BK489.out)) : gb515 ≠ gb489)); have n15_ := Aside0.mk ((by rw [hg]; exact Nat.ne_of_lt (blk_lt (g := gb495) (o := .cells #[.bool t490, .slice Ao22 t491.length co22] 27 (0, 0)) (zk BK495.out)) : gb495 ≠ gb515)); have n16_ := Aside0.mk ((by rw [hg]; exact Nat.ne_of_gt (blk_lt (g := gb495) (o := .cells #[.bool t490, .slice Ao22 t491.length co22] 27 (0, 0)) (zk BK495.out)) : gb515 ≠ gb495)); have n17_ := Aside0.mk ((by rw [hg]; exact Nat.ne_of_lt (blk_lt (g := gb501) (o := .cells #[.bool t496, .slice Ao28 t497.length co28] 27 (0, 0)) (zk BK501.out)) : gb501 ≠ gb515)); have n18_ := Aside0.mk ((by rw [hg]; exact Nat.ne_of_gt (blk_lt (g := gb501) (o := .cells #[.bool t496, .slice Ao28 t497.length co28] 27 (0, 0)) (zk BK501.out)) : gb515 ≠ gb501)); have n19_ := Aside0.mk ((by rw [hg]; exact Nat.ne_of_lt (blk_lt (g := gb509) (o := .cells #[.bool t504, .slice Ao101 t505.length co101] 27 (0, 0)) (zk BK509.out)) : gb509 ≠ gb515)); have n20_ := Aside0.mk ((by rw [hg]; exact Nat.ne_of_gt (blk_lt (g := gb509) (o := .cells #[.bool t504, .slice Ao101 t505.length co101] 27 (0, 0)) (zk BK509.out)) : gb515 ≠ gb509)); clear HO_490001; clear HO_496001; clear HO_502001; clear HO507; clear HO513; clear BK489; clear BK495; clear BK501; clear BK509; clear HB; have HO_490001 := n0_; have HO_496001 := n1_; have HO_502001 := n2_; have HO507 := n3_; have HO513 := n4_; have BK489 := n5_; have BK495 := n6_; have BK501 := n7_; have BK509 := n8_; have HB := n9_; have BK515 := n10_; have GW515 := n11_; have GE515 := n12_; have NB489_515 := n13_; have NB515_489 := n14_; have NB495_515 := n15_; have NB515_495 := n16_; have NB501_515 := n17_; have NB515_501 := n18_; have NB509_515 := n19_; have NB515_509 := n20_; clear n0_ n1_ n2_ n3_ n4_ n5_ n6_ n7_ n8_ n9_ n10_ n11_ n12_ n13_ n14_ n15_ n16_ n17_ n18_ n19_ n20_; clear hb hbox hg; have hnb104 := NB515_489.out; have hnc104 := NB489_515.out; have hnb105 := NB515_495.out; have hnc105 := NB495_515.out; have hnb106 := NB515_501.out; have hnc106 := NB501_515.out; have hnb107 := NB515_509.out; have hnc107 := NB509_515.out; have hcz108_0 : w103.cell? ⟨gb515, 0, none⟩ = some (.bool false) := (blk_cell BK515.out 0).trans rfl; have hcz108_1 : w103.cell? ⟨gb515, 1, none⟩ = some (.slice none 0 0) := (blk_cell BK515.out 1).trans rfl; have hfz108_0 := blk_frozen BK515.out 0; have hfz108_1 := blk_frozen BK515.out 1; obtain ⟨Ao109, co109, eo109⟩ := Kd.V_slice HO513.out; subst eo109; have hcz110_0 : w103.cell? ⟨gb509, 0, none⟩ = some (.bool t504) := (blk_cell BK509.out 0).trans rfl; have hcz110_1 : w103.cell? ⟨gb509, 1, none⟩ = some (.slice Ao101 t505.length co101) := (blk_cell BK509.out 1).trans rfl; have hfz110_0 := blk_frozen BK509.out 0; have hfz110_1 := blk_frozen BK509.out 1) | (go_at_call 26; (with_reducible refine (laws_jtBig.calls kj10 t504 _ _ t505 t510 _ _ t511 false _ ?side1 ?side2 ?side3 ?side4 A63.out).mono ?_); (case side1 => refine (Kd.V_reads' (e := 3) (base := w.heap.size) (ok := fun k_ => (((some k_ ≠ (.slice Ao28 t497.length co28 : Value).ownBlock ∧ (k_ ≠ gb489 ∧ (k_ ≠ gb495 ∧ k_ ≠ gb501))) ∧ k_ ≠ gb509) ∧ k_ ≠ gb515)) (n := t505.length) (c := co101) ?_).2.2; exact (by (with_reducible repeat (first | apply Kd.V_alloc | apply Kd.V_drewN | apply Kd.V_drew)); exact (Kd.V_mono (Kd.V_far (p := ⟨gb515, 1, none⟩) (Kd.V_far (p := ⟨gb515, 0, none⟩) (Kd.V_mono HO507.out (fun k_ hk => (⟨hk, hk.2⟩ : _ ∧ k_ ≠ gb515))) (fun _ hk => hk.2) (.bool t510)) (fun _ hk => hk.2) (.slice Ao109 t511.length co109)) (fun _ h_ => h_.1)))); (case side2 => exact (Kd.V_reads' HO507.out).2.1); (case side3 => refine (Kd.V_reads' (e := 3) (base := w.heap.size) (ok := fun k_ => ((some k_ ≠ (.slice Ao28 t497.length co28 : Value).ownBlock ∧ (k_ ≠ gb489 ∧ (k_ ≠ gb495 ∧ (k_ ≠ gb501 ∧ k_ ≠ gb509)))) ∧ k_ ≠ gb515)) (n := t511.length) (c := co109) ?_).2.2; exact (by (with_reducible repeat (first | apply Kd.V_alloc | apply Kd.V_drewN | apply Kd.V_drew)); exact (Kd.V_mono (Kd.V_far (p := ⟨gb515, 1, none⟩) (Kd.V_far (p := ⟨gb515, 0, none⟩) (Kd.V_mono HO513.out (fun k_ hk => (⟨hk, hk.2⟩ : _ ∧ k_ ≠ gb515))) (fun _ hk => hk.2) (.bool t510)) (fun _ hk => hk.2) (.slice Ao109 t511.length co109)) (fun _ h_ => h_.1)))); (case side4 => exact (Kd.V_reads' HO513.out).2.1); rintro e w111 ⟨rfl, hb⟩; have n0_ := Aside0.mk (Kd.V_below (by (with_reducible repeat (first | apply Kd.V_alloc | apply Kd.V_drewN | apply Kd.V_drew)); exact (Kd.V_mono (Kd.V_far (p := ⟨gb515, 1, none⟩) (Kd.V_far (p := ⟨gb515, 0, none⟩) (Kd.V_mono HO_490001.out (fun k_ hk => (⟨hk, hk.2⟩ : _ ∧ k_ ≠ gb515))) (fun _ hk => hk.2) (.bool t510)) (fun _ hk => hk.2) (.slice Ao109 t511.length co109)) (fun _ h_ => h_.1))) hb); have n1_ := Aside0.mk (Kd.V_below (by (with_reducible repeat (first | apply Kd.V_alloc | apply Kd.V_drewN | apply Kd.V_drew)); exact (Kd.V_mono (Kd.V_far (p := ⟨gb515, 1, none⟩) (Kd.V_far (p := ⟨gb515, 0, none⟩) (Kd.V_mono HO_496001.out (fun k_ hk => (⟨hk, hk.2⟩ : _ ∧ k_ ≠ gb515))) (fun _ hk => hk.2) (.bool t510)) (fun _ hk => hk.2) (.slice Ao109 t511.length co109)) (fun _ h_ => h_.1))) hb); have n2_ := Aside0.mk (Kd.R_below (by (with_reducible repeat (first | apply Kd.R_alloc | apply Kd.R_drewN | apply Kd.R_drew)); exact (Kd.R_mono (Kd.R_far (p := ⟨gb515, 1, none⟩) (Kd.R_far (p := ⟨gb515, 0, none⟩) (Kd.R_types HO_502001.out BK515.out (by decide)) (fun _ hk => hk.2) (.bool t510)) (fun _ hk => hk.2) (.slice Ao109 t511.length co109)) (fun _ h_ => h_.1))) hb); have n3_ := Aside0.mk (Kd.V_below (by (with_reducible repeat (first | apply Kd.V_alloc | apply Kd.V_drewN | apply Kd.V_drew)); exact (Kd.V_mono (Kd.V_far (p := ⟨gb515, 1, none⟩) (Kd.V_far (p := ⟨gb515, 0, none⟩) (Kd.V_mono HO507.out (fun k_ hk => (⟨hk, hk.2⟩ : _ ∧ k_ ≠ gb515))) (fun _ hk => hk.2) (.bool t510)) (fun _ hk => hk.2) (.slice Ao109 t511.length co109)) (fun _ h_ => h_.1))) hb); have n4_ := Aside0.mk (Kd.V_below (by (with_reducible repeat (first | apply Kd.V_alloc | apply Kd.V_drewN | apply Kd.V_drew)); exact (Kd.V_mono (Kd.V_far (p := ⟨gb515, 1, none⟩) (Kd.V_far (p := ⟨gb515, 0, none⟩) (Kd.V_mono HO513.out (fun k_ hk => (⟨hk, hk.2⟩ : _ ∧ k_ ≠ gb515))) (fun _ hk => hk.2) (.bool t510)) (fun _ hk => hk.2) (.slice Ao109 t511.length co109)) (fun _ h_ => h_.1))) hb); have n5_ := Aside0.mk (blk_below (g := gb489) (o := .cells #[.bool t484, .slice Ao17 t485.length co17] 27 (0, 0)) (zk BK489.out) hb); have n6_ := Aside0.mk (blk_below (g := gb495) (o := .cells #[.bool t490, .slice Ao22 t491.length co22] 27 (0, 0)) (zk BK495.out) hb); have n7_ := Aside0.mk (blk_below (g := gb501) (o := .cells #[.bool t496, .slice Ao28 t497.length co28] 27 (0, 0)) (zk BK501.out) hb); have n8_ := Aside0.mk (blk_below (g := gb509) (o := .cells #[.bool t504, .slice Ao101 t505.length co101] 27 (0, 0)) (zk BK509.out) hb); have n9_ := Aside0.mk (blk_below (g := gb515) (o := .cells #[.bool t510, .slice Ao109 t511.length co109] 27 (0, 0)) (by (with_reducible repeat (first | refine blk_drewN ?_ _ | refine blk_drew ?_ | refine blk_alloc ?_ _)); refine blk_put (cs := #[.bool t510, .slice none 0 0]) ?_ 1 _ rfl; (with_reducible repeat (first | refine blk_drewN ?_ _ | refine blk_drew ?_ | refine blk_alloc ?_ _)); refine blk_put (cs := #[.bool false, .slice none 0 0]) ?_ 0 _ rfl; (with_reducible repeat (first | refine blk_drewN ?_ _ | refine blk_drew ?_ | refine blk_alloc ?_ _)); exact BK515.out) hb); have n10_ := Aside0.mk (below_step zb hb); clear HO_490001; clear HO_496001; clear HO_502001; clear HO507; clear HO513; clear BK489; clear BK495; clear BK501; clear BK509; clear BK515; clear HB; have HO_490001 := n0_; have HO_496001 := n1_; have HO_502001 := n2_; have HO507 := n3_; have HO513 := n4_; have BK489 := n5_; have BK495 := n6_; have BK501 := n7_; have BK509 := n8_; have BK515 := n9_; have HB := n10_; clear n0_ n1_ n2_ n3_ n4_ n5_ n6_ n7_ n8_ n9_ n10_; (try clear hb); (try clear hb2); (try clear hk); (try clear hi)))
                  go_ret
                  exact ⟨by first | rfl | (simp [errW_none, errW_some] <;> rfl) | (simp [*, errW_none, errW_some] <;> rfl), zb⟩
              · rw [if_neg c62] at H
                have c62b0 : (t508 == t514) = false := by simpa using c62
                (try (have c62b1 : decide (t508 = t514) = false := by simpa using c62))
                (try (have c62b2 : (t508 == t514) = false := by simpa using c62))
                (try (have c62b3 : ¬ (t508 = t514) := by simpa using c62))
                clear c62
                obtain rfl := Option.some.inj H
                have hnb112 := NB489_495.out
                have hnc112 := NB495_489.out
                have hnb113 := NB489_501.out
                have hnc113 := NB501_489.out
                have hcz114_0 : wc.cell? ⟨gb489, 0, none⟩ = some (.bool t484) := (blk_cell BK489.out 0).trans rfl
                have hcz114_1 : wc.cell? ⟨gb489, 1, none⟩ = some (.slice Ao17 t485.length co17) := (blk_cell BK489.out 1).trans rfl
                have hfz114_0 := blk_frozen BK489.out 0
                have hfz114_1 := blk_frozen BK489.out 1
                have hnb115 := NB495_501.out
                have hnc115 := NB501_495.out
                have hcz116_0 : wc.cell? ⟨gb495, 0, none⟩ = some (.bool t490) := (blk_cell BK495.out 0).trans rfl
                have hcz116_1 : wc.cell? ⟨gb495, 1, none⟩ = some (.slice Ao22 t491.length co22) := (blk_cell BK495.out 1).trans rfl
                have hfz116_0 := blk_frozen BK495.out 0
                have hfz116_1 := blk_frozen BK495.out 1
                go_wp2_with (first | ((with_reducible refine gate_callee (f := 31) rfl ?_); refine goesL_ (some 72) rfl rfl Tryd.func31 (by kernel_rfl) rfl #[.agg #[.bool t484, .slice Ao17 t485.length co17], .agg #[.bool t490, .slice Ao22 t491.length co22]] rfl za ?_; (with_reducible refine (impl_BigMul.calls kj10 t484 (fun k_ => (some k_ ≠ (.slice Ao28 t497.length co28 : Value).ownBlock ∧ (k_ ≠ gb489 ∧ (k_ ≠ gb495 ∧ k_ ≠ gb501)))) _ _ t485 t490 (fun k_ => (some k_ ≠ (.slice Ao28 t497.length co28 : Value).ownBlock ∧ (k_ ≠ gb489 ∧ (k_ ≠ gb495 ∧ k_ ≠ gb501)))) _ _ t491 t504 t505 t508 _ ?side1 ?side2 A60.out).mono ?_); (case side1 => exact HO_490001.out); (case side2 => exact HO_496001.out); rintro e w117 ⟨v506, rfl, ho0, hb⟩; refine ⟨_, rfl, ?_⟩; have n0_ := Aside0.mk (Kd.V_below (zV HO_490001.out) hb); have n1_ := Aside0.mk (Kd.V_below (zV HO_496001.out) hb); have n2_ := Aside0.mk (Kd.R_below (zR HO_502001.out) hb); have n3_ := Aside0.mk (Kd.V_lower (Kd.V_mono (ok' := fun k_ => some k_ ≠ (.slice Ao28 t497.length co28 : Value).ownBlock ∧ k_ ≠ gb489 ∧ k_ ≠ gb495 ∧ k_ ≠ gb501) ho0 (fun k_ hk_ => ⟨Or.elim hk_ (fun hs_ => Or.elim hs_ (fun hs_ => hs_.1) (fun hs_ => hs_.1)) (fun hn_ => (Kd.fresh' (Kd.R_lt (zR HO_502001.out)) k_ hn_)), Or.elim hk_ (fun hs_ => Or.elim hs_ (fun hs_ => hs_.2.1) (fun hs_ => hs_.2.1)) (fun hn_ => (Kd.freshB (g := gb489) (o := .cells #[.bool t484, .slice Ao17 t485.length co17] 27 (0, 0)) (zk BK489.out) k_ hn_)), Or.elim hk_ (fun hs_ => Or.elim hs_ (fun hs_ => hs_.2.2.1) (fun hs_ => hs_.2.2.1)) (fun hn_ => (Kd.freshB (g := gb495) (o := .cells #[.bool t490, .slice Ao22 t491.length co22] 27 (0, 0)) (zk BK495.out) k_ hn_)), Or.elim hk_ (fun hs_ => Or.elim hs_ (fun hs_ => hs_.2.2.2) (fun hs_ => hs_.2.2.2)) (fun hn_ => (Kd.freshB (g := gb501) (o := .cells #[.bool t496, .slice Ao28 t497.length co28] 27 (0, 0)) (zk BK501.out) k_ hn_))⟩)) (below_size zb)); have n4_ := Aside0.mk (blk_below (g := gb489) (o := .cells #[.bool t484, .slice Ao17 t485.length co17] 27 (0, 0)) (zk BK489.out) hb); have n5_ := Aside0.mk (blk_below (g := gb495) (o := .cells #[.bool t490, .slice Ao22 t491.length co22] 27 (0, 0)) (zk BK495.out) hb); have n6_ := Aside0.mk (blk_below (g := gb501) (o := .cells #[.bool t496, .slice Ao28 t497.length co28] 27 (0, 0)) (zk BK501.out) hb); have n7_ := Aside0.mk (below_step zb hb); clear HO_490001; clear HO_496001; clear HO_502001; clear BK489; clear BK495; clear BK501; clear HB; have HO_490001 := n0_; have HO_496001 := n1_; have HO_502001 := n2_; have HO507 := n3_; have BK489 := n4_; have BK495 := n5_; have BK501 := n6_; have HB := n7_; clear n0_ n1_ n2_ n3_ n4_ n5_ n6_ n7_; (try clear hb); (try clear hb2); (try clear hk); (try clear hi); (try clear ho0)) | ((with_reducible refine gate_dst (N := 13) rfl ?_); (try (refine gate_guard (by rfl) ?_; dsimp only)); refine box_event ?hg (N := 13) ?hd (cs := #[.bool false, .slice none 0 0]) (t := 27) ?hr ?_; (case hd => rfl); (case hg => rfl); (case hr => first | (go_simp; done) | (go_simp; rfl)); intro gb509 hg w118 hbox hb; have n0_ := Aside0.mk (Kd.V_below (Kd.V_elderB (zV HO_490001.out) gb509 (Nat.le_of_eq hg.symm)) hb); have n1_ := Aside0.mk (Kd.V_below (Kd.V_elderB (zV HO_496001.out) gb509 (Nat.le_of_eq hg.symm)) hb); have n2_ := Aside0.mk (Kd.R_below (zR HO_502001.out) hb); have n3_ := Aside0.mk (Kd.V_below (Kd.V_elderB (zV HO507.out) gb509 (Nat.le_of_eq hg.symm)) hb); have n4_ := Aside0.mk (blk_below (g := gb489) (o := .cells #[.bool t484, .slice Ao17 t485.length co17] 27 (0, 0)) (zk BK489.out) hb); have n5_ := Aside0.mk (blk_below (g := gb495) (o := .cells #[.bool t490, .slice Ao22 t491.length co22] 27 (0, 0)) (zk BK495.out) hb); have n6_ := Aside0.mk (blk_below (g := gb501) (o := .cells #[.bool t496, .slice Ao28 t497.length co28] 27 (0, 0)) (zk BK501.out) hb); have n7_ := Aside0.mk (below_step zb hb); have n8_ := Aside0.mk (hbox); have n9_ := Aside0.mk ((by rw [hg]; exact (below_size zb) : w.heap.size ≤ gb509)); have n10_ := Aside0.mk ((by rw [hg]; exact (below_size zb) : w.heap.size ≤ gb509)); have n11_ := Aside0.mk ((by rw [hg]; exact Nat.ne_of_lt (blk_lt (g := gb489) (o := .cells #[.bool t484, .slice Ao17 t485.length co17] 27 (0, 0)) (zk BK489.out)) : gb489 ≠ gb509)); have n12_ := Aside0.mk ((by rw [hg]; exact Nat.ne_of_gt (blk_lt (g := gb489) (o := .cells #[.bool t484, .slice Ao17 t485.length co17] 27 (0, 0)) (zk BK489.out)) : gb509 ≠ gb489)); have n13_ := Aside0.mk ((by rw [hg]; exact Nat.ne_of_lt (blk_lt (g := gb495) (o := .cells #[.bool t490, .slice Ao22 t491.length co22] 27 (0, 0)) (zk BK495.out)) : gb495 ≠ gb509)); have n14_ := Aside0.mk ((by rw [hg]; exact Nat.ne_of_gt (blk_lt (g := gb495) (o := .cells #[.bool t490, .slice Ao22 t491.length co22] 27 (0, 0)) (zk BK495.out)) : gb509 ≠ gb495)); have n15_ := Aside0.mk ((by rw [hg]; exact Nat.ne_of_lt (blk_lt (g := gb501) (o := .cells #[.bool t496, .slice Ao28 t497.length co28] 27 (0, 0)) (zk BK501.out)) : gb501 ≠ gb509)); have n16_ := Aside0.mk ((by rw [hg]; exact Nat.ne_of_gt (blk_lt (g := gb501) (o := .cells #[.bool t496, .slice Ao28 t497.length co28] 27 (0, 0)) (zk BK501.out)) : gb509 ≠ gb501)); clear HO_490001; clear HO_496001; clear HO_502001; clear HO507; clear BK489; clear BK495; clear BK501; clear HB; have HO_490001 := n0_; have HO_496001 := n1_; have HO_502001 := n2_; have HO507 := n3_; have BK489 := n4_; have BK495 := n5_; have BK501 := n6_; have HB := n7_; have BK509 := n8_; have GW509 := n9_; have GE509 := n10_; have NB489_509 := n11_; have NB509_489 := n12_; have NB495_509 := n13_; have NB509_495 := n14_; have NB501_509 := n15_; have NB509_501 := n16_; clear n0_ n1_ n2_ n3_ n4_ n5_ n6_ n7_ n8_ n9_ n10_ n11_ n12_ n13_ n14_ n15_ n16_; clear hb hbox hg; have hnb119 := NB509_489.out; have hnc119 := NB489_509.out; have hnb120 := NB509_495.out; have hnc120 := NB495_509.out; have hnb121 := NB509_501.out; have hnc121 := NB501_509.out; have hcz122_0 : w118.cell? ⟨gb509, 0, none⟩ = some (.bool false) := (blk_cell BK509.out 0).trans rfl; have hcz122_1 : w118.cell? ⟨gb509, 1, none⟩ = some (.slice none 0 0) := (blk_cell BK509.out 1).trans rfl; have hfz122_0 := blk_frozen BK509.out 0; have hfz122_1 := blk_frozen BK509.out 1; obtain ⟨Ao123, co123, eo123⟩ := Kd.V_slice HO507.out; subst eo123) | ((with_reducible refine gate_callee (f := 29) rfl ?_); refine goesL_ (some 79) rfl rfl Tryd.func29 (by kernel_rfl) rfl #[.int .i64 (wrap64 (t482 + t483))] rfl za ?_; (with_reducible refine (impl_BigTen.calls kj10 (wrap64 (t482 + t483)) t510 t511 t514 _ A61.out).mono ?_); rintro e w124 ⟨v512, rfl, ho0, hb⟩; refine ⟨_, rfl, ?_⟩; have n0_ := Aside0.mk (Kd.V_below (by (with_reducible repeat (first | apply Kd.V_alloc | apply Kd.V_drewN | apply Kd.V_drew)); exact (Kd.V_mono (Kd.V_far (p := ⟨gb509, 1, none⟩) (Kd.V_far (p := ⟨gb509, 0, none⟩) (Kd.V_mono HO_490001.out (fun k_ hk => (⟨hk, hk.2⟩ : _ ∧ k_ ≠ gb509))) (fun _ hk => hk.2) (.bool t504)) (fun _ hk => hk.2) (.slice Ao123 t505.length co123)) (fun _ h_ => h_.1))) hb); have n1_ := Aside0.mk (Kd.V_below (by (with_reducible repeat (first | apply Kd.V_alloc | apply Kd.V_drewN | apply Kd.V_drew)); exact (Kd.V_mono (Kd.V_far (p := ⟨gb509, 1, none⟩) (Kd.V_far (p := ⟨gb509, 0, none⟩) (Kd.V_mono HO_496001.out (fun k_ hk => (⟨hk, hk.2⟩ : _ ∧ k_ ≠ gb509))) (fun _ hk => hk.2) (.bool t504)) (fun _ hk => hk.2) (.slice Ao123 t505.length co123)) (fun _ h_ => h_.1))) hb); have n2_ := Aside0.mk (Kd.R_below (by (with_reducible repeat (first | apply Kd.R_alloc | apply Kd.R_drewN | apply Kd.R_drew)); exact (Kd.R_mono (Kd.R_far (p := ⟨gb509, 1, none⟩) (Kd.R_far (p := ⟨gb509, 0, none⟩) (Kd.R_types HO_502001.out BK509.out (by decide)) (fun _ hk => hk.2) (.bool t504)) (fun _ hk => hk.2) (.slice Ao123 t505.length co123)) (fun _ h_ => h_.1))) hb); have n3_ := Aside0.mk (Kd.V_below (by (with_reducible repeat (first | apply Kd.V_alloc | apply Kd.V_drewN | apply Kd.V_drew)); exact (Kd.V_mono (Kd.V_far (p := ⟨gb509, 1, none⟩) (Kd.V_far (p := ⟨gb509, 0, none⟩) (Kd.V_mono HO507.out (fun k_ hk => (⟨hk, hk.2⟩ : _ ∧ k_ ≠ gb509))) (fun _ hk => hk.2) (.bool t504)) (fun _ hk => hk.2) (.slice Ao123 t505.length co123)) (fun _ h_ => h_.1))) hb); have n4_ := Aside0.mk (Kd.V_lower (Kd.V_mono (ok' := fun k_ => some k_ ≠ (.slice Ao28 t497.length co28 : Value).ownBlock ∧ k_ ≠ gb489 ∧ k_ ≠ gb495 ∧ k_ ≠ gb501 ∧ k_ ≠ gb509) ho0 (fun k_ hk_ => ⟨(Kd.fresh' (Kd.R_lt (by (with_reducible repeat (first | apply Kd.R_alloc | apply Kd.R_drewN | apply Kd.R_drew)); exact (Kd.R_mono (Kd.R_far (p := ⟨gb509, 1, none⟩) (Kd.R_far (p := ⟨gb509, 0, none⟩) (Kd.R_types HO_502001.out BK509.out (by decide)) (fun _ hk => hk.2) (.bool t504)) (fun _ hk => hk.2) (.slice Ao123 t505.length co123)) (fun _ h_ => h_.1)))) k_ hk_), (Kd.freshB (g := gb489) (o := .cells #[.bool t484, .slice Ao17 t485.length co17] 27 (0, 0)) (zk BK489.out) k_ hk_), (Kd.freshB (g := gb495) (o := .cells #[.bool t490, .slice Ao22 t491.length co22] 27 (0, 0)) (zk BK495.out) k_ hk_), (Kd.freshB (g := gb501) (o := .cells #[.bool t496, .slice Ao28 t497.length co28] 27 (0, 0)) (zk BK501.out) k_ hk_), (Kd.freshB (g := gb509) (o := .cells #[.bool t504, .slice Ao123 t505.length co123] 27 (0, 0)) (by (with_reducible repeat (first | refine blk_drewN ?_ _ | refine blk_drew ?_ | refine blk_alloc ?_ _)); refine blk_put (cs := #[.bool t504, .slice none 0 0]) ?_ 1 _ rfl; (with_reducible repeat (first | refine blk_drewN ?_ _ | refine blk_drew ?_ | refine blk_alloc ?_ _)); refine blk_put (cs := #[.bool false, .slice none 0 0]) ?_ 0 _ rfl; (with_reducible repeat (first | refine blk_drewN ?_ _ | refine blk_drew ?_ | refine blk_alloc ?_ _)); exact BK509.out) k_ hk_)⟩)) (below_size zb)); have n5_ := Aside0.mk (blk_below (g := gb489) (o := .cells #[.bool t484, .slice Ao17 t485.length co17] 27 (0, 0)) (zk BK489.out) hb); have n6_ := Aside0.mk (blk_below (g := gb495) (o := .cells #[.bool t490, .slice Ao22 t491.length co22] 27 (0, 0)) (zk BK495.out) hb); have n7_ := Aside0.mk (blk_below (g := gb501) (o := .cells #[.bool t496, .slice Ao28 t497.length co28] 27 (0, 0)) (zk BK501.out) hb); have n8_ := Aside0.mk (blk_below (g := gb509) (o := .cells #[.bool t504, .slice Ao123 t505.length co123] 27 (0, 0)) (by (with_reducible repeat (first | refine blk_drewN ?_ _ | refine blk_drew ?_ | refine blk_alloc ?_ _)); refine blk_put (cs := #[.bool t504, .slice none 0 0]) ?_ 1 _ rfl; (with_reducible repeat (first | refine blk_drewN ?_ _ | refine blk_drew ?_ | refine blk_alloc ?_ _)); refine blk_put (cs := #[.bool false, .slice none 0 0]) ?_ 0 _ rfl; (with_reducible repeat (first | refine blk_drewN ?_ _ | refine blk_drew ?_ | refine blk_alloc ?_ _)); exact BK509.out) hb); have n9_ := Aside0.mk (below_step zb hb); clear HO_490001; clear HO_496001; clear HO_502001; clear HO507; clear BK489; clear BK495; clear BK501; clear BK509; clear HB; have HO_490001 := n0_; have HO_496001 := n1_; have HO_502001 := n2_; have HO507 := n3_; have HO513 := n4_; have BK489 := n5_; have BK495 := n6_; have BK501 := n7_; have BK509 := n8_; have HB := n9_; clear n0_ n1_ n2_ n3_ n4_ n5_ n6_ n7_ n8_ n9_; (try clear hb); (try clear hb2); (try clear hk); (try clear hi); (try clear ho0)) | ((with_reducible refine gate_dst (N := 15) rfl ?_); (try (refine gate_guard (by rfl) ?_; dsimp only)); refine box_event ?hg (N := 15) ?hd (cs := #[.bool false, .slice none 0 0]) (t := 27) ?hr ?_; (case hd => rfl); (case hg => rfl); (case hr => first | (go_simp; done) | (go_simp; rfl)); intro gb515 hg w125 hbox hb; have n0_ := Aside0.mk (Kd.V_below (Kd.V_elderB (zV HO_490001.out) gb515 (Nat.le_of_eq hg.symm)) hb); have n1_ := Aside0.mk (Kd.V_below (Kd.V_elderB (zV HO_496001.out) gb515 (Nat.le_of_eq hg.symm)) hb); have n2_ := Aside0.mk (Kd.R_below (zR HO_502001.out) hb); have n3_ := Aside0.mk (Kd.V_below (Kd.V_elderB (zV HO507.out) gb515 (Nat.le_of_eq hg.symm)) hb); have n4_ := Aside0.mk (Kd.V_below (Kd.V_elderB (zV HO513.out) gb515 (Nat.le_of_eq hg.symm)) hb); have n5_ := Aside0.mk (blk_below (g := gb489) (o := .cells #[.bool t484, .slice Ao17 t485.length co17] 27 (0, 0)) (zk BK489.out) hb); have n6_ := Aside0.mk (blk_below (g := gb495) (o := .cells #[.bool t490, .slice Ao22 t491.length co22] 27 (0, 0)) (zk BK495.out) hb); have n7_ := Aside0.mk (blk_below (g := gb501) (o := .cells #[.bool t496, .slice Ao28 t497.length co28] 27 (0, 0)) (zk BK501.out) hb); have n8_ := Aside0.mk (blk_below (g := gb509) (o := .cells #[.bool t504, .slice Ao123 t505.length co123] 27 (0, 0)) (zk BK509.out) hb); have n9_ := Aside0.mk (below_step zb hb); have n10_ := Aside0.mk (hbox); have n11_ := Aside0.mk ((by rw [hg]; exact (below_size zb) : w.heap.size ≤ gb515)); have n12_ := Aside0.mk ((by rw [hg]; exact (below_size zb) : w.heap.size ≤ gb515)); have n13_ := Aside0.mk ((by rw [hg]; exact Nat.ne_of_lt (blk_lt (g := gb489) (o := .cells #[.bool t484, .slice Ao17 t485.length co17] 27 (0, 0)) (zk BK489.out)) : gb489 ≠ gb515)); have n14_ := Aside0.mk ((by rw [hg]; exact Nat.ne_of_gt (blk_lt (g := gb489) (o := .cells #[.bool t484, .slice Ao17 t485.length co17] 27 (0, 0)) (zk BK489.out)) : gb515 ≠ gb489)); have n15_ := Aside0.mk ((by rw [hg]; exact Nat.ne_of_lt (blk_lt (g := gb495) (o := .cells #[.bool t490, .slice Ao22 t491.length co22] 27 (0, 0)) (zk BK495.out)) : gb495 ≠ gb515)); have n16_ := Aside0.mk ((by rw [hg]; exact Nat.ne_of_gt (blk_lt (g := gb495) (o := .cells #[.bool t490, .slice Ao22 t491.length co22] 27 (0, 0)) (zk BK495.out)) : gb515 ≠ gb495)); have n17_ := Aside0.mk ((by rw [hg]; exact Nat.ne_of_lt (blk_lt (g := gb501) (o := .cells #[.bool t496, .slice Ao28 t497.length co28] 27 (0, 0)) (zk BK501.out)) : gb501 ≠ gb515)); have n18_ := Aside0.mk ((by rw [hg]; exact Nat.ne_of_gt (blk_lt (g := gb501) (o := .cells #[.bool t496, .slice Ao28 t497.length co28] 27 (0, 0)) (zk BK501.out)) : gb515 ≠ gb501)); have n19_ := Aside0.mk ((by rw [hg]; exact Nat.ne_of_lt (blk_lt (g := gb509) (o := .cells #[.bool t504, .slice Ao123 t505.length co123] 27 (0, 0)) (zk BK509.out)) : gb509 ≠ gb515)); have n20_ := Aside0.mk ((by rw [hg]; exact Nat.ne_of_gt (blk_lt (g := gb509) (o := .cells #[.bool t504, .slice Ao123 t505.length co123] 27 (0, 0)) (zk BK509.out)) : gb515 ≠ gb509)); clear HO_490001; clear HO_496001; clear HO_502001; clear HO507; clear HO513; clear BK489; clear BK495; clear BK501; clear BK509; clear HB; have HO_490001 := n0_; have HO_496001 := n1_; have HO_502001 := n2_; have HO507 := n3_; have HO513 := n4_; have BK489 := n5_; have BK495 := n6_; have BK501 := n7_; have BK509 := n8_; have HB := n9_; have BK515 := n10_; have GW515 := n11_; have GE515 := n12_; have NB489_515 := n13_; have NB515_489 := n14_; have NB495_515 := n15_; have NB515_495 := n16_; have NB501_515 := n17_; have NB515_501 := n18_; have NB509_515 := n19_; have NB515_509 := n20_; clear n0_ n1_ n2_ n3_ n4_ n5_ n6_ n7_ n8_ n9_ n10_ n11_ n12_ n13_ n14_ n15_ n16_ n17_ n18_ n19_ n20_; clear hb hbox hg; have hnb126 := NB515_489.out; have hnc126 := NB489_515.out; have hnb127 := NB515_495.out; have hnc127 := NB495_515.out; have hnb128 := NB515_501.out; have hnc128 := NB501_515.out; have hnb129 := NB515_509.out; have hnc129 := NB509_515.out; have hcz130_0 : w125.cell? ⟨gb515, 0, none⟩ = some (.bool false) := (blk_cell BK515.out 0).trans rfl; have hcz130_1 : w125.cell? ⟨gb515, 1, none⟩ = some (.slice none 0 0) := (blk_cell BK515.out 1).trans rfl; have hfz130_0 := blk_frozen BK515.out 0; have hfz130_1 := blk_frozen BK515.out 1; obtain ⟨Ao131, co131, eo131⟩ := Kd.V_slice HO513.out; subst eo131))
                go_ret
                exact ⟨by first | rfl | (simp [errW_none, errW_some] <;> rfl) | (simp [*, errW_none, errW_some] <;> rfl), zb⟩
def laws_FnBigTen.Pure : Prop := ∀ (l0 : List Int) (l1 : List Int), l0.length ≤ maxLen → l0.length * 1 ≤ 140737488351232 → (∀ x ∈ l0, (Lit.int .u8 x).wf = true) → l1.length ≤ maxLen → l1.length * 1 ≤ 140737488351232 → (∀ x ∈ l1, (Lit.int .u8 x).wf = true) → ∃ k, laws_FnBigTen.f k l0 l1 = some true
theorem laws_FnBigTen.walk (P : laws_FnBigTen.Pure) (a0 : Option Addr) (len0 cap0 : Nat) (z0 : List Int) (a1 : Option Addr) (len1 cap1 : Nat) (z1 : List Int) (w : World) (hT : EnvI w) (w0 : (a0 = none ∧ len0 = 0 ∧ cap0 = 0 ∧ z0 = []) ∨ ∃ x, a0 = some x ∧ len0 ≤ cap0 ∧ cap0 ≤ maxLen ∧ z0.length = cap0 ∧ (∀ i, i < z0.length → w.cell? (x.add i) = some (.int .u8 (z0.getD i 0))) ∧ ∀ n ∈ z0, (Lit.int .u8 n).wf = true) (y0 : len0 * 1 ≤ 140737488351232) (w1 : (a1 = none ∧ len1 = 0 ∧ cap1 = 0 ∧ z1 = []) ∨ ∃ x, a1 = some x ∧ len1 ≤ cap1 ∧ cap1 ≤ maxLen ∧ z1.length = cap1 ∧ (∀ i, i < z1.length → w.cell? (x.add i) = some (.int .u8 (z1.getD i 0))) ∧ ∀ n ∈ z1, (Lit.int .u8 n).wf = true) (y1 : len1 * 1 ≤ 140737488351232) :
    Calls Tryd.prog 8 #[.slice a0 len0 cap0, .slice a1 len1 cap1] w fun e w' => e = .returned (.bool true) ∧ Below w.heap.size w w' := by
  obtain ⟨l0, rfl, hr0, hm0, hw0, hc0⟩ := ReadsInt.ofRowC w0
  obtain ⟨l1, rfl, hr1, hm1, hw1, hc1⟩ := ReadsInt.ofRowC w1
  obtain ⟨k, h⟩ := P l0 l1 hm0 y0 hw0 hm1 y1 hw1
  refine (laws_FnBigTen.calls k _ _ l0 _ _ l1 true w hT (Kd.C_of_reads (d := (0 : Int)) (h1 := fun _ => rfl) hr0) hc0 (Kd.C_of_reads (d := (0 : Int)) (h1 := fun _ => rfl) hr1) hc1 h).mono ?_
  rintro e w' ⟨rfl, hd⟩
  exact ⟨rfl, hd⟩
end Go.Proofs.YtdbgpoileffbeaaDoor.Pr
end
section
namespace Go.Proofs.YtdbgpoileffbeaaDoor.Str
open Go.Lib Go.RowKit Go.Proofs.YtdbgpoileffbeaaDoor.Dec Go.Proofs.YtdbgpoileffbeaaDoor.Pr Go.Proofs.YtdbgpoileffbeaaDoor.Ext Go.Proofs.YtdbgpoileffbeaaDoorW.PrintWords Go.Proofs.YtdbgpoileffbeaaDoorW.PrintLast Go.Proofs.YtdbgpoileffbeaaDoorW.PrintMore
set_option linter.unusedVariables false
set_option linter.unusedSimpArgs false
def str (l : List UInt8) : ByteArray := ⟨l.toArray⟩
theorem str_size (l : List UInt8) : (str l).size = l.length := by unfold str; simp [ByteArray.size]
theorem str_append (a b : List UInt8) : str a ++ str b = str (a ++ b) := by
  apply ByteArray.ext
  simp [str]
theorem bS {α β : Type} (a : α) (f : α → Option β) : (some a).bind f = f a := by have h := Option.bind_some a f; rw [h]
theorem w64 {x : Int} (h : -9223372036854775808 ≤ x) (h' : x ≤ 9223372036854775807) : wrap64 x = x := by unfold wrap64; omega
end Go.Proofs.YtdbgpoileffbeaaDoor.Str
end
section
namespace Go.Proofs.YtdbgpoileffbeaaDoor.Val
open Go.RowKit Go.Proofs.YtdbgpoileffbeaaDoor.Pr Go.Proofs.YtdbgpoileffbeaaDoor.Ext Go.Proofs.YtdbgpoileffbeaaDoor.Jt Go.Proofs.YtdbgpoileffbeaaDoorW.PrintWords Go.Proofs.YtdbgpoileffbeaaDoorW.PrintLast Go.Proofs.YtdbgpoileffbeaaDoorW.PrintMore
set_option linter.unusedVariables false
set_option linter.unusedSimpArgs false
theorem w64 {x : Int} (h : -9223372036854775808 ≤ x) (h' : x ≤ 9223372036854775807) : wrap64 x = x := by unfold wrap64; omega
theorem rdn (l : List Int) (i : Int) : rd l i = l.getD i.toNat 0 := rfl
def okD (x : Int) : Bool := decide (0 ≤ x) && decide (x ≤ 9999)
def okB (neg : Bool) (l : List Int) : Bool := decide (l.length ≤ 16) && l.all okD && (decide (l.length = 0) || decide (l.getD (l.length - 1) 0 ≠ 0)) && (!neg || decide (l.length ≠ 0))
theorem okB_iff (neg : Bool) (l : List Int) : okB neg l = true ↔ BOk neg l := by
  unfold okB BOk Dig Nz
  simp only [Bool.and_eq_true, decide_eq_true_eq, List.all_eq_true, okD, Bool.or_eq_true, Bool.not_eq_true']
  constructor
  · rintro ⟨⟨⟨a, b⟩, c⟩, d⟩
    exact ⟨a, b, c, fun h => d.resolve_left (by simp [h])⟩
  · rintro ⟨a, b, c, d⟩
    refine ⟨⟨⟨a, b⟩, c⟩, ?_⟩
    cases neg
    · exact .inl rfl
    · exact .inr (d rfl)
theorem any_bad (l : List Int) : l.any bad = !(l.all okD) := by
  induction l with
  | nil => rfl
  | cons x xs ih => rw [List.any_cons, List.all_cons, ih, Bool.not_and]; rfl
theorem bigOk_f (neg : Bool) (l : List Int) : impl_BigOk.f neg l = some (okB neg l) := by
  unfold impl_BigOk.f okB containsBad.f
  simp only [any_bad, Option.bind_some, Bool.not_not]
  by_cases h16 : (l.length : Int) ≤ 16
  · rw [if_pos h16, decide_eq_true (show l.length ≤ 16 by omega), Bool.true_and]
    by_cases h0 : (l.length : Int) = 0
    · rw [if_pos h0]
      have h0' : l.length = 0 := by omega
      cases neg
      · rw [if_neg (by decide)]; simp [h0']
      · rw [if_pos rfl, if_neg (by omega)]; simp [h0']
    · have h0' : l.length ≠ 0 := by omega
      rw [if_neg h0, if_pos (by omega), w64 (by omega) (by omega), if_pos (by omega), if_pos (by omega), rdn, show ((l.length : Int) - 1).toNat = l.length - 1 from by omega, decide_eq_false h0', decide_eq_true (show l.length ≠ 0 from h0'), Bool.false_or, Bool.or_true, Bool.and_true]
      by_cases hz : l.getD (l.length - 1) 0 = 0
      · rw [if_pos hz, decide_eq_false (by simpa using hz)]; simp
      · rw [if_neg hz, decide_eq_true hz]; simp
  · rw [if_neg h16, decide_eq_false (show ¬ l.length ≤ 16 by omega)]; simp
theorem rdN (l : List Int) (i : Nat) : rd l (i : Int) = l.getD i 0 := by unfold rd; rw [Int.toNat_natCast]
theorem getD_set_ne {l : List Int} {i j : Nat} (v : Int) (h : i < l.length) (hne : j ≠ i) : (l.set i v).getD j 0 = l.getD j 0 := by rw [getD_set l i j v h, if_neg hne]
end Go.Proofs.YtdbgpoileffbeaaDoor.Val
end
section
namespace Go.Proofs.YtdbgpoileffbeaaDoor.Str
open Go.Lib Go.RowKit Go.Proofs.YtdbgpoileffbeaaDoor.Dec Go.Proofs.YtdbgpoileffbeaaDoor.Jt Go.Proofs.YtdbgpoileffbeaaDoor.Val Go.Proofs.YtdbgpoileffbeaaDoor.Pr Go.Proofs.YtdbgpoileffbeaaDoor.Ext Go.Proofs.YtdbgpoileffbeaaDoorW.PrintWords Go.Proofs.YtdbgpoileffbeaaDoorW.PrintLast Go.Proofs.YtdbgpoileffbeaaDoorW.PrintMore
set_option linter.unusedVariables false
set_option linter.unusedSimpArgs false
theorem textS {l : List Int} (hd : Dig l) (hl : l.length ≤ 16) : impl_limbs_text.f l = some (str (textL l)) := by
  unfold impl_limbs_text.f
  rw [if_pos ⟨hd, by omega⟩]; rfl
def bigT (n : Bool) (l : List Int) : List UInt8 := if n = true then 45 :: textL l else textL l
theorem textL_16 {l : List Int} (hd : Dig l) (hl : l.length ≤ 16) : (textL l).length ≤ 65 := by have := textL_len l hd; omega
theorem implBigPut (n : Bool) (l : List Int) : impl_BigPut.f n l = some (str (if okB n l = true then bigT n l else [])) := by
  unfold impl_BigPut.f bigT
  rw [bigOk_f]; simp only [bS]
  by_cases h : okB n l = true
  · obtain ⟨hl, hd, hz, hn⟩ := (okB_iff n l).1 h
    have h65 := textL_16 hd hl
    rw [if_pos h, if_pos h, textS hd hl]; simp only [bS]
    cases n
    · rfl
    · rw [if_pos rfl, if_pos rfl, str_size, if_pos (by omega), show (⟨#[45]⟩ : ByteArray) = str [45] from rfl, str_append]; rfl
  · rw [if_neg h, if_neg h]; rfl
end Go.Proofs.YtdbgpoileffbeaaDoor.Str
end
section
namespace Go.Proofs.YtdbgpoileffbeaaDoor.Val
open Go.RowKit Go.Proofs.YtdbgpoileffbeaaDoor.Pr Go.Proofs.YtdbgpoileffbeaaDoor.Ext Go.Proofs.YtdbgpoileffbeaaDoor.Jt Go.Proofs.YtdbgpoileffbeaaDoorW.PrintWords Go.Proofs.YtdbgpoileffbeaaDoorW.PrintLast Go.Proofs.YtdbgpoileffbeaaDoorW.PrintMore
set_option linter.unusedVariables false
set_option linter.unusedSimpArgs false
def trimN (l : List Int) : Nat → Nat
  | 0 => 0
  | n + 1 => if l.getD n 0 = 0 then trimN l n else n + 1
def trimL (l : List Int) : List Int := l.take (trimN l l.length)
theorem trimN_le (l : List Int) (n : Nat) : trimN l n ≤ n := by
  induction n with
  | zero => exact Nat.le_refl _
  | succ n ih => unfold trimN; split <;> omega
theorem trimN_hi (l : List Int) (n : Nat) : ∀ j, trimN l n ≤ j → j < n → l.getD j 0 = 0 := by
  induction n with
  | zero => intro j _ h; omega
  | succ n ih =>
    intro j h1 h2
    unfold trimN at h1
    split at h1
    · rename_i h
      by_cases hj : j = n
      · rw [hj]; exact h
      · exact ih j h1 (by omega)
    · omega
theorem trimN_nz (l : List Int) (n : Nat) : 0 < trimN l n → l.getD (trimN l n - 1) 0 ≠ 0 := by
  induction n with
  | zero => intro h; simp [trimN] at h
  | succ n ih =>
    unfold trimN
    split
    · exact ih
    · rename_i h; intro _; rw [Nat.add_sub_cancel]; exact h
theorem trimL_of (l : List Int) : TrimOf l (trimL l) := ⟨trimN l l.length, trimN_le _ _, rfl, trimN_hi _ _, trimN_nz _ _⟩
theorem trimL_len (l : List Int) : (trimL l).length ≤ l.length := (trimL_of l).len
theorem trimL_rep {l : List Int} (hd : Dig l) : trimL l = rep (val l) := (trimL_of l).rep hd rfl
theorem sTrim_l0 (l : List Int) (hl : l.length < 1000000) : ∀ (n k : Nat), n ≤ l.length → n + 1 ≤ k → spec_l1Trim.l0 k l (n : Int) = some (l.take (trimN l n)) := by
  intro n
  induction n with
  | zero =>
    intro k hn hk
    obtain ⟨k, rfl⟩ : ∃ j, k = j + 1 := ⟨k - 1, by omega⟩
    rw [spec_l1Trim.l0, if_neg (by omega)]
    simp only [Option.bind_some]
    rw [if_pos (by omega), if_pos (by omega), if_pos (by simp)]
    simp [trimN]
  | succ n ih =>
    intro k hn hk
    obtain ⟨k, rfl⟩ : ∃ j, k = j + 1 := ⟨k - 1, by omega⟩
    rw [spec_l1Trim.l0, if_pos (by omega), w64 (by omega) (by omega), show (((n + 1 : Nat) : Int) - 1) = (n : Int) from by omega, if_pos (by omega), if_pos (by omega), rdn, Int.toNat_natCast]
    unfold trimN
    by_cases h : l.getD n 0 = 0
    · rw [if_pos h, if_pos h]; exact ih k (by omega) (by omega)
    · rw [if_neg h, if_neg h]
      simp only [Option.bind_some]
      rw [if_pos (by omega), if_pos (by omega), Int.toNat_natCast, if_pos (by rw [List.length_take]; simp; omega)]
      simp
theorem sTrim_ge (l : List Int) (hl : l.length < 1000000) (k : Nat) (hk : l.length + 1 ≤ k) : spec_l1Trim.f k l = some (trimL l) := sTrim_l0 l hl l.length k (Nat.le_refl _) hk
theorem iTrim_l0 (l : List Int) (hl : l.length < 1000000) : ∀ (n k : Nat), n ≤ l.length → n + 1 ≤ k → impl_limbs_trim.l0 k (l.take n) = some (l.take (trimN l n)) := by
  intro n
  induction n with
  | zero =>
    intro k hn hk
    obtain ⟨k, rfl⟩ : ∃ j, k = j + 1 := ⟨k - 1, by omega⟩
    rw [impl_limbs_trim.l0, if_neg (by simp)]
    rfl
  | succ n ih =>
    intro k hn hk
    obtain ⟨k, rfl⟩ : ∃ j, k = j + 1 := ⟨k - 1, by omega⟩
    have hlen : (l.take (n + 1)).length = n + 1 := by rw [List.length_take]; omega
    rw [impl_limbs_trim.l0, hlen, if_pos (by omega), w64 (by omega) (by omega), show (((n + 1 : Nat) : Int) - 1) = (n : Int) from by omega, if_pos (by omega), if_pos (by omega), rdn, Int.toNat_natCast, getD_take l (by omega)]
    unfold trimN
    by_cases h : l.getD n 0 = 0
    · rw [if_pos h, if_pos h, if_pos (by omega), List.take_take, Nat.min_eq_left (by omega)]; exact ih k (by omega) (by omega)
    · rw [if_neg h, if_neg h]
theorem iTrim_ge (l : List Int) (hl : l.length < 1000000) (k : Nat) (hk : l.length + 1 ≤ k) : impl_limbs_trim.f k l = some (trimL l) := by
  have e := iTrim_l0 l hl l.length k (Nat.le_refl _) hk
  rw [List.take_length] at e
  exact e
def bigR (x : Int) : Bool × List Int × Bool := if -pw 16 < x ∧ x < pw 16 then (mkN x, mkL x, true) else (false, [], false)
theorem bigR_of {neg : Bool} {l : List Int} (hd : Dig l) :
    (if ((rep (val l)).length : Int) > 16 then (false, ([] : List Int), false) else if neg = true then (decide (0 < (rep (val l)).length), rep (val l), true) else (false, rep (val l), true)) = bigR (bigv neg l) := by
  have h0 := val_nonneg hd
  have hr := rep_len h0 16
  have hp := pw_pos 16
  unfold bigR
  by_cases h : ((rep (val l)).length : Int) > 16
  · have hv : ¬ val l < pw 16 := fun hc => by have := hr.2 hc; omega
    rw [if_pos h, if_neg]
    unfold bigv
    split <;> omega
  · have hv : val l < pw 16 := hr.1 (by omega)
    have hin : -pw 16 < bigv neg l ∧ bigv neg l < pw 16 := by unfold bigv; split <;> omega
    rw [if_neg h, if_pos hin]
    cases neg
    · rw [if_neg (by decide)]
      unfold bigv mkN mkL
      rw [if_neg (by decide), if_neg (by omega), decide_eq_false (by omega)]
    · rw [if_pos rfl]
      unfold bigv mkN mkL
      rw [if_pos rfl]
      have hz := rep_nil h0
      by_cases hv0 : val l = 0
      · rw [hv0, rep_zero]; simp [rep_zero]
      · rw [if_pos (by omega), Int.neg_neg, decide_eq_true (show -val l < 0 by omega)]
        have : 0 < (rep (val l)).length := by
          apply Nat.pos_of_ne_zero
          intro hc
          exact hv0 (hz.1 (List.length_eq_zero_iff.1 hc))
        rw [decide_eq_true this]
theorem l1Big_ge {l : List Int} (hd : Dig l) (hl : l.length ≤ 1000) (neg : Bool) (k : Nat) (hk : 1010 ≤ k) : spec_l1Big.f k neg l = some (bigR (bigv neg l)) := by
  unfold spec_l1Big.f
  rw [sTrim_ge l (by omega) k (by omega), ← bigR_of hd, trimL_rep hd]
  simp only [Option.bind_some]
  (repeat' split) <;> simp_all
theorem big_ge {l : List Int} (hd : Dig l) (hl : l.length ≤ 1000) (neg : Bool) (k : Nat) (hk : 1010 ≤ k) : impl_big.f k neg l = some (bigR (bigv neg l)) := by
  unfold impl_big.f impl_clone_int.f clone99.f
  rw [iTrim_ge l (by omega) k (by omega), ← bigR_of hd]
  have := trimL_len l
  simp only [Option.bind_some]
  rw [if_pos (show (trimL l).length < 17592186044416 by omega), trimL_rep hd]
  simp only [Option.bind_some]
  (repeat' split) <;> simp_all
theorem val_drop (l : List Int) (i : Nat) : val (l.drop i) = l.getD i 0 + 10000 * val (l.drop (i + 1)) := by
  by_cases h : i < l.length
  · rw [drop_cons h]; rfl
  · rw [List.drop_eq_nil_of_le (by omega), List.drop_eq_nil_of_le (by omega), getD_ge (by omega)]; rfl
theorem dig_push {l : List Int} (h : Dig l) {x : Int} (h0 : 0 ≤ x) (h1 : x ≤ 9999) : Dig (l ++ [x]) := h.append (Dig.cons h0 h1 Dig.nil)
theorem val_push (l : List Int) (x : Int) : val (l ++ [x]) = val l + pw l.length * x := by rw [val_append]; simp [val]
def sv (q : Bool) (v : Int) : Int := if q = true then -v else v
theorem sv_rep {q : Bool} {v : Int} (h : 0 ≤ v) : bigv q (rep v) = sv q v := by unfold bigv sv; rw [rep_val h]
theorem bigv_sv (q : Bool) (l : List Int) : bigv q l = sv q (val l) := rfl
theorem rep_len_le {v : Int} (h0 : 0 ≤ v) {n : Nat} (h : v < pw n) : (rep v).length ≤ n := (rep_len h0 n).2 h
abbrev No : Bool × List Int × Bool := (false, [], false)
theorem bigs_f (n : Bool) (l : List Int) (n' : Bool) (l' : List Int) : impl_bigs.f n l n' l' = some (okB n l && okB n' l') := by
  unfold impl_bigs.f
  rw [bigOk_f, bigOk_f]
  simp only [Option.bind_some]
  cases okB n l <;> simp
theorem mul_bd {x y : Int} (hx : 0 ≤ x ∧ x ≤ 9999) (hy : 0 ≤ y ∧ y ≤ 9999) : 0 ≤ x * y ∧ x * y ≤ 99980001 := by
  constructor
  · exact Int.mul_nonneg hx.1 hy.1
  · have h1 : x * y ≤ 9999 * y := Int.mul_le_mul_of_nonneg_right hx.2 hy.1
    have h2 : 9999 * y ≤ 9999 * 9999 := Int.mul_le_mul_of_nonneg_left hy.2 (by omega)
    omega
theorem dig_set {l : List Int} (hd : Dig l) {i : Nat} {v : Int} (h0 : 0 ≤ v) (h1 : v ≤ 9999) : Dig (l.set i v) := by
  intro x hx
  rcases List.mem_or_eq_of_mem_set hx with h | h
  · exact hd x h
  · subst h; exact ⟨h0, h1⟩
theorem mul_cell {out : List Int} {p : Nat} {d e c R V : Int} (hp : p < out.length) (x : Int) (hx : x = out.getD p 0 + d * e + c) :
    val (out.set p (x % 10000)) + pw (p + 1) * (d * V + x / 10000) + R = val out + pw p * (d * (e + 10000 * V) + c) + R := by
  rw [val_set _ _ _ hp, pw_succ]
  have e1 : x = 10000 * (x / 10000) + x % 10000 := by omega
  generalize x / 10000 = q at e1 ⊢
  generalize x % 10000 = r at e1 ⊢
  generalize out.getD p 0 = o at *
  have e2 : r = o + d * e + c - 10000 * q := by omega
  subst e2
  grind
theorem iMul_l1 {a b : List Int} (hb : Dig b) (lb : b.length ≤ 50) {i : Nat} (hi : i < a.length) (la : a.length ≤ 50) {d : Int} (hd : 0 ≤ d ∧ d ≤ 9999) (K : Nat)
    (H : ∀ k out, K ≤ k → Dig out → out.length = a.length + b.length + 1 → (∀ q, i + 1 + b.length ≤ q → out.getD q 0 = 0) → impl_limbs_mul.l0 k b out a (a.length : Int) ((i + 1 : Nat) : Int) = some (rep (val out + pw (i + 1) * (val (a.drop (i + 1)) * val b)))) :
    ∀ (m k j : Nat) (out : List Int) (c : Int), j + m = b.length → K + m + 1 ≤ k → Dig out → out.length = a.length + b.length + 1 → 0 ≤ c → c ≤ 9999 → (∀ q, i + b.length ≤ q → out.getD q 0 = 0) →
      impl_limbs_mul.l1 k b out (i : Int) d c a (a.length : Int) (i : Int) b (b.length : Int) (j : Int) = some (rep (val out + pw (i + j) * (d * val (b.drop j) + c) + pw (i + 1) * (val (a.drop (i + 1)) * val b))) := by
  intro m
  induction m with
  | zero =>
    intro k j out c hj hk ho hL c0 c1 hz
    obtain ⟨k, rfl⟩ : ∃ q, k = q + 1 := ⟨k - 1, by omega⟩
    have hlt : i + b.length < out.length := by omega
    rw [impl_limbs_mul.l1, if_neg (by omega), w64 (x := (i : Int) + (b.length : Int)) (by omega) (by omega), if_pos (by omega), if_pos (by omega), rdn, show ((i : Int) + (b.length : Int)).toNat = i + b.length from by omega, hz _ (Nat.le_refl _),
      w64 (x := (0 : Int) + c) (by omega) (by omega), w64 (x := (i : Int) + 1) (by omega) (by omega), show ((i : Int) + 1) = ((i + 1 : Nat) : Int) from by omega]
    rw [H k _ (by omega) (dig_set ho (by omega) (by omega)) (by rw [List.length_set]; exact hL) (fun q hq => by rw [getD_set_ne _ hlt (by omega)]; exact hz q (by omega))]
    rw [val_set _ _ _ hlt, hz _ (Nat.le_refl _), List.drop_eq_nil_of_le (show b.length ≤ j by omega), val_nil, show i + j = i + b.length from by omega]
    congr 3
    grind
  | succ m ih =>
    intro k j out c hj hk ho hL c0 c1 hz
    obtain ⟨k, rfl⟩ : ∃ q, k = q + 1 := ⟨k - 1, by omega⟩
    have hlt : i + j < out.length := by omega
    have b1 := hb.getD j
    have b2 := ho.getD (i + j)
    have b3 := mul_bd hd b1
    rw [impl_limbs_mul.l1, if_pos (by omega), w64 (x := (i : Int) + (j : Int)) (by omega) (by omega), if_pos (by omega), if_pos (by omega), if_pos (by omega), if_pos (by omega)]
    simp only [rdn]
    rw [show ((i : Int) + (j : Int)).toNat = i + j from by omega, Int.toNat_natCast, w64 (x := d * b.getD j 0) (by omega) (by omega), w64 (x := out.getD (i + j) 0 + d * b.getD j 0) (by omega) (by omega), w64 (x := out.getD (i + j) 0 + d * b.getD j 0 + c) (by omega) (by omega),
      w64 (x := (j : Int) + 1) (by omega) (by omega), Int.tdiv_eq_ediv_of_nonneg (by omega), Int.tmod_eq_emod_of_nonneg (by omega)]
    rw [w64 (by omega) (by omega), show ((j : Int) + 1) = ((j + 1 : Nat) : Int) from by omega]
    rw [ih k (j + 1) _ _ (by omega) (by omega) (dig_set ho (by omega) (by omega)) (by rw [List.length_set]; exact hL) (by omega) (by omega) (fun q hq => by rw [getD_set_ne _ hlt (by omega)]; exact hz q hq)]
    rw [val_drop b j, show i + (j + 1) = i + j + 1 from by omega, mul_cell hlt _ rfl]
theorem iMul_l0 {a b : List Int} (ha : Dig a) (hb : Dig b) (la : a.length ≤ 50) (lb : b.length ≤ 50) : ∀ (m i : Nat), i + m = a.length → ∀ k out, 1200 + 60 * m ≤ k → Dig out → out.length = a.length + b.length + 1 → (∀ q, i + b.length ≤ q → out.getD q 0 = 0) →
    impl_limbs_mul.l0 k b out a (a.length : Int) (i : Int) = some (rep (val out + pw i * (val (a.drop i) * val b))) := by
  intro m
  induction m with
  | zero =>
    intro i hi k out hk ho hL hz
    obtain ⟨k, rfl⟩ : ∃ q, k = q + 1 := ⟨k - 1, by omega⟩
    rw [impl_limbs_mul.l0, if_neg (by omega), iTrim_ge out (by omega) k (by omega), trimL_rep ho, List.drop_eq_nil_of_le (by omega), val_nil]
    simp
  | succ m ih =>
    intro i hi k out hk ho hL hz
    obtain ⟨k, rfl⟩ : ∃ q, k = q + 1 := ⟨k - 1, by omega⟩
    have a1 := ha.getD i
    rw [impl_limbs_mul.l0, if_pos (by omega), if_pos (by omega), if_pos (by omega), rdn, Int.toNat_natCast]
    have e := iMul_l1 hb lb (i := i) (a := a) (by omega) la a1 (1200 + 60 * m) (fun k out hk h1 h2 h3 => ih (i + 1) (by omega) k out hk h1 h2 h3) b.length k 0 out 0 (by omega) (by omega) ho hL (by omega) (by omega) hz
    refine e.trans ?_
    rw [List.drop_zero, Nat.add_zero, val_drop a i, pw_succ]
    congr 2
    grind
theorem iMul_ge {a b : List Int} (ha : Dig a) (hb : Dig b) (la : a.length ≤ 50) (lb : b.length ≤ 50) (k : Nat) (hk : 5000 ≤ k) : impl_limbs_mul.f k a b = some (rep (val a * val b)) := by
  unfold impl_limbs_mul.f
  rw [w64 (x := (a.length : Int) + (b.length : Int)) (by omega) (by omega), w64 (by omega) (by omega), if_pos (by omega), if_pos (by omega), show ((a.length : Int) + (b.length : Int) + 1).toNat = a.length + b.length + 1 from by omega]
  have hz : ∀ q, (List.replicate (a.length + b.length + 1) (0 : Int)).getD q 0 = 0 := fun q => by
    rw [List.getD_eq_getElem?_getD, List.getElem?_replicate]; split <;> rfl
  have e := iMul_l0 ha hb la lb a.length 0 (by omega) k (List.replicate (a.length + b.length + 1) 0) (by omega) (dig_of_getD fun q _ => by rw [hz]; omega) (by simp) (fun q _ => hz q)
  rw [val_replicate, List.drop_zero, pw_zero] at e
  refine e.trans ?_
  congr 2
  omega
theorem jtInts_l0 {a b : List Int} (hl : a.length = b.length) (hL : a.length < 1000000) : ∀ (m k i : Nat), i + m = a.length → m + 1 ≤ k → laws_jtInts.l0 k a b (i : Int) = some (decide (a.drop i = b.drop i)) := by
  intro m
  induction m with
  | zero =>
    intro k i hi hk
    obtain ⟨k, rfl⟩ : ∃ j, k = j + 1 := ⟨k - 1, by omega⟩
    rw [laws_jtInts.l0, if_neg (by omega), List.drop_eq_nil_of_le (by omega), List.drop_eq_nil_of_le (by omega)]
    simp
  | succ m ih =>
    intro k i hi hk
    obtain ⟨k, rfl⟩ : ∃ j, k = j + 1 := ⟨k - 1, by omega⟩
    rw [laws_jtInts.l0, if_pos (by omega), if_pos (by omega), if_pos (by omega), rdN, rdN, drop_cons (l := a) (by omega), drop_cons (l := b) (by omega)]
    by_cases h : a.getD i 0 = b.getD i 0
    · rw [if_pos h, w64 (by omega) (by omega), show ((i : Int) + 1) = ((i + 1 : Nat) : Int) from by omega, ih k (i + 1) (by omega) (by omega), h]
      simp
    · rw [if_neg h]
      simp only [List.cons.injEq, h, false_and, decide_false]
theorem jtBig_ge (n : Bool) (l : List Int) (n' : Bool) (l' : List Int) (hl : l.length ≤ 1000) (k : Nat) (hk : 1010 ≤ k) : laws_jtBig.f k n l n' l' = some (decide (n = n' ∧ l = l')) := by
  unfold laws_jtBig.f laws_jtInts.f
  by_cases hn : n = n'
  · rw [if_pos (by simp [hn])]
    by_cases h : (l.length : Int) = (l'.length : Int)
    · have e := jtInts_l0 (a := l) (b := l') (by omega) (by omega) l.length k 0 (by omega) (by omega)
      rw [List.drop_zero, List.drop_zero] at e
      rw [if_pos h]
      simp only [hn, true_and]
      rw [show (0 : Int) = ((0 : Nat) : Int) from rfl, e]
      rfl
    · rw [if_neg h]
      have : l ≠ l' := fun hc => h (by rw [hc])
      simp [this]
  · rw [if_neg (by simp [hn])]
    simp [hn]
theorem bigR_len (x : Int) : (bigR x).2.1.length ≤ 16 := by
  unfold bigR
  split
  · rename_i h
    exact (mk_ok h.1 h.2).1
  · simp
def mulR (n : Bool) (l : List Int) (n' : Bool) (l' : List Int) : Bool × List Int × Bool := if okB n l = true ∧ okB n' l' = true then bigR (bigv n l * bigv n' l') else No
theorem sv_mul {q q' : Bool} {x y : Int} : sv (q != q') (x * y) = sv q x * sv q' y := by
  cases q <;> cases q' <;> simp [sv, Int.neg_mul, Int.mul_neg]
theorem mul_len {a b : List Int} (ha : Dig a) (hb : Dig b) (la : a.length ≤ 50) (lb : b.length ≤ 50) : 0 ≤ val a * val b ∧ (rep (val a * val b)).length ≤ 100 := by
  have na := val_nonneg ha
  have nb := val_nonneg hb
  have h0 := Int.mul_nonneg na nb
  refine ⟨h0, rep_len_le h0 ?_⟩
  have h1 := Int.lt_of_lt_of_le (val_lt ha) (pw_mono la)
  have h2 := Int.lt_of_lt_of_le (val_lt hb) (pw_mono lb)
  have p := pw_pos 50
  rw [show (100 : Nat) = 50 + 50 from rfl, pw_add]
  have h3 : val a * val b ≤ val a * pw 50 := Int.mul_le_mul_of_nonneg_left (by omega) na
  have h4 : val a * pw 50 < pw 50 * pw 50 := Int.mul_lt_mul_of_pos_right h1 (by omega)
  omega
theorem smul_ge {n n' : Bool} {a b : List Int} (ha : Dig a) (hb : Dig b) (la : a.length ≤ 50) (lb : b.length ≤ 50) (k : Nat) (hk : 5000 ≤ k) : impl_signed_mul.f k n a n' b = some (n != n', rep (val a * val b)) := by
  unfold impl_signed_mul.f
  rw [iMul_ge ha hb la lb k hk, Option.bind_some]
theorem bS {α β : Type} (a : α) (f : α → Option β) : (some a).bind f = f a := by have h := Option.bind_some a f; rw [h]
theorem bsg (n : Bool) (l : List Int) : impl_Big_signed.f n l = some (n, l) := by unfold impl_Big_signed.f; have h : (some (n, l)) = some (n, l) := rfl; rw [h]
theorem eta3 (x : Bool × List Int × Bool) : (some x).bind (fun bt => some (bt.1, bt.2.1, bt.2.2)) = some x := rfl
theorem iBigMul_ge (n : Bool) (l : List Int) (n' : Bool) (l' : List Int) (k : Nat) (hk : 6000 ≤ k) : impl_BigMul.f k n l n' l' = some (mulR n l n' l') := by
  unfold impl_BigMul.f mulR
  rw [bigs_f]
  simp only [bS]
  by_cases h : okB n l = true ∧ okB n' l' = true
  · rw [if_pos h, if_pos (by rw [h.1, h.2]; rfl)]
    obtain ⟨l1, d1, z1, _⟩ := (okB_iff n l).1 h.1
    obtain ⟨l2, d2, z2, _⟩ := (okB_iff n' l').1 h.2
    obtain ⟨h0, hl⟩ := mul_len d1 d2 (by omega) (by omega)
    simp only [bsg, bS]
    rw [smul_ge d1 d2 (by omega) (by omega) k (by omega)]
    simp only [bS]
    rw [big_ge (rep_dig _) (by omega) _ k (by omega), sv_rep h0, sv_mul, ← bigv_sv, ← bigv_sv]
    exact eta3 _
  · rw [if_neg h, if_neg (by simpa using h)]
def p10 (n : Nat) : Int := 10 ^ n
theorem p10_zero : p10 0 = 1 := rfl
theorem p10_succ (n : Nat) : p10 (n + 1) = 10 * p10 n := by unfold p10; rw [Int.pow_succ]; omega
theorem p10_pos (n : Nat) : 1 ≤ p10 n := by
  induction n with
  | zero => decide
  | succ n ih => rw [p10_succ]; omega
theorem p10_mono {m n : Nat} (h : m ≤ n) : p10 m ≤ p10 n := by
  obtain ⟨d, rfl⟩ := Nat.exists_eq_add_of_le h
  induction d with
  | zero => exact Int.le_refl _
  | succ d ih =>
    have h1 := ih (by omega)
    have h2 := p10_pos (m + d)
    rw [show m + (d + 1) = (m + d) + 1 from rfl, p10_succ]
    omega
theorem p10_63 : p10 63 = 1000000000000000000000000000000000000000000000000000000000000000 := by decide
theorem p10_lt {n : Nat} (h : n ≤ 63) : p10 n < pw 16 := by
  have := p10_mono h
  rw [p10_63] at this
  rw [pw16]; omega
theorem rep_one : ([1] : List Int) = rep 1 := is_rep (Dig.cons (by omega) (by omega) Dig.nil) (.inr (by decide)) rfl
theorem dig_ten : Dig ([10] : List Int) := Dig.cons (by omega) (by omega) Dig.nil
theorem iTen_l0 {n : Nat} (hn : n ≤ 63) : ∀ (m k i : Nat), i + m = n → 6000 + m ≤ k → impl_ten.l0 k (rep (p10 i)) (n : Int) (i : Int) = some (rep (p10 n)) := by
  intro m
  induction m with
  | zero =>
    intro k i hi hk
    obtain ⟨k, rfl⟩ : ∃ j, k = j + 1 := ⟨k - 1, by omega⟩
    rw [impl_ten.l0, if_neg (by omega), show i = n from by omega]
  | succ m ih =>
    intro k i hi hk
    obtain ⟨k, rfl⟩ : ∃ j, k = j + 1 := ⟨k - 1, by omega⟩
    have hp := p10_pos i
    have hl : (rep (p10 i)).length ≤ 16 := rep_len_le (by omega) (p10_lt (by omega))
    rw [impl_ten.l0, if_pos (by omega), iMul_ge (rep_dig _) dig_ten (by omega) (by decide) k (by omega), bS, rep_val (by omega), w64 (by omega) (by omega), show ((i : Int) + 1) = ((i + 1 : Nat) : Int) from by omega,
      show p10 i * val [10] = p10 (i + 1) from by rw [p10_succ]; simp [val]; omega]
    exact ih k (i + 1) (by omega) (by omega)
theorem iTen_ge {n : Nat} (hn : n ≤ 63) (k : Nat) (hk : 6100 ≤ k) : impl_ten.f k (n : Int) = some (rep (p10 n)) := by
  have e := iTen_l0 hn n k 0 (by omega) (by omega)
  rw [p10_zero, ← rep_one] at e
  exact e
def tenR (n : Int) : Bool × List Int × Bool := if 0 ≤ n ∧ n ≤ 63 then bigR (p10 n.toNat) else No
theorem tenR_len (n : Int) : (tenR n).2.1.length ≤ 16 := by unfold tenR; split; exact bigR_len _; simp
theorem iIn (n : Int) : impl_in.f n 0 63 = some (decide (0 ≤ n) && decide (n ≤ 63)) := by
  unfold impl_in.f
  by_cases h : n ≥ 0
  · rw [if_pos h, decide_eq_true h, Bool.true_and]
  · rw [if_neg h, decide_eq_false h, Bool.false_and]
theorem sIn (n : Int) : spec_l1In.f n 0 63 = some (decide (0 ≤ n) && decide (n ≤ 63)) := by
  unfold spec_l1In.f
  by_cases h : n ≥ 0
  · rw [if_pos h, decide_eq_true h, Bool.true_and]
  · rw [if_neg h, decide_eq_false h, Bool.false_and]
theorem iBigTen_ge (n : Int) (k : Nat) (hk : 7000 ≤ k) : impl_BigTen.f k n = some (tenR n) := by
  unfold impl_BigTen.f tenR
  rw [iIn, bS]
  by_cases h : 0 ≤ n ∧ n ≤ 63
  · obtain ⟨m, rfl⟩ := Int.eq_ofNat_of_zero_le h.1
    have hp := p10_pos m
    have hl : (rep (p10 m)).length ≤ 16 := rep_len_le (by omega) (p10_lt (by omega))
    rw [if_pos h, decide_eq_true h.1, decide_eq_true h.2, if_pos (by rfl), iTen_ge (by omega) k (by omega), bS, big_ge (rep_dig _) (by omega) _ k (by omega), sv_rep (by omega), Int.toNat_natCast]
    exact eta3 _
  · rw [if_neg h, if_neg (by simpa using h)]
theorem sTen_l1 (acc : List Int) (ha : acc.length ≤ 1000) : ∀ (m k : Nat) (x : Int), m ≤ 100 → 0 ≤ x → x * p10 m ≤ 9999 → m + 2 ≤ k → spec_l1TenAbs.l1 k (m : Int) acc x = some (acc ++ [x * p10 m]) := by
  intro m
  induction m with
  | zero =>
    intro k x hm h0 h1 hk
    obtain ⟨k, rfl⟩ : ∃ j, k = j + 1 := ⟨k - 1, by omega⟩
    rw [spec_l1TenAbs.l1, if_neg (by omega), if_pos (by omega), p10_zero, Int.mul_one]
  | succ m ih =>
    intro k x hm h0 h1 hk
    obtain ⟨k, rfl⟩ : ∃ j, k = j + 1 := ⟨k - 1, by omega⟩
    have hp := p10_pos m
    have e : x * p10 (m + 1) = (x * 10) * p10 m := by rw [p10_succ, Int.mul_assoc]
    rw [e] at h1 ⊢
    have hx : x * 10 ≤ 9999 := by
      have : (x * 10) * 1 ≤ (x * 10) * p10 m := Int.mul_le_mul_of_nonneg_left hp (by omega)
      omega
    rw [spec_l1TenAbs.l1, if_pos (by omega), w64 (x := x * 10) (by omega) (by omega), w64 (by omega) (by omega), show (((m + 1 : Nat) : Int) - 1) = (m : Int) from by omega]
    exact ih k (x * 10) (by omega) (by omega) h1 (by omega)
theorem p10_3 {m : Nat} (h : m ≤ 3) : p10 m ≤ 1000 := by have := p10_mono h; rw [show p10 3 = 1000 from by decide] at this; exact this
theorem sTen_l0 : ∀ (q k m : Nat) (acc : List Int), m < 4 * q + 4 → 4 * q ≤ m → acc.length + q ≤ 500 → Dig acc → val acc = 0 → q + 20 ≤ k → ∃ l, spec_l1TenAbs.l0 k (m : Int) acc = some l ∧ Dig l ∧ l.length ≤ 600 ∧ val l = pw acc.length * p10 m := by
  intro q
  induction q with
  | zero =>
    intro k m acc h1 h2 h3 hd hv hk
    obtain ⟨k, rfl⟩ : ∃ j, k = j + 1 := ⟨k - 1, by omega⟩
    have hp := p10_pos m
    have hp3 := p10_3 (m := m) (by omega)
    refine ⟨acc ++ [1 * p10 m], ?_, dig_push hd (by omega) (by omega), by simp; omega, by rw [val_push, hv]; simp⟩
    rw [spec_l1TenAbs.l0, if_neg (by omega), sTen_l1 acc (by omega) m k 1 (by omega) (by omega) (by omega) (by omega)]
  | succ q ih =>
    intro k m acc h1 h2 h3 hd hv hk
    obtain ⟨k, rfl⟩ : ∃ j, k = j + 1 := ⟨k - 1, by omega⟩
    obtain ⟨d, rfl⟩ : ∃ d, m = d + 4 := ⟨m - 4, by omega⟩
    obtain ⟨l, e, e2, e3, e4⟩ := ih k d (acc ++ [0]) (by omega) (by omega) (by simp; omega) (dig_push hd (by omega) (by omega)) (by rw [val_push, hv]; simp) (by omega)
    refine ⟨l, ?_, e2, e3, ?_⟩
    · rw [spec_l1TenAbs.l0, if_pos (by omega), if_pos (by omega), w64 (by omega) (by omega), show (((d + 4 : Nat) : Int) - 4) = (d : Int) from by omega]
      exact e
    · rw [e4, List.length_append, List.length_cons, List.length_nil, Nat.zero_add, pw_succ, p10_succ, p10_succ, p10_succ, p10_succ]
      grind
theorem sBigTen_ge (n : Int) (k : Nat) (hk : 7000 ≤ k) : spec_BigTen.f k n = some (tenR n) := by
  unfold spec_BigTen.f tenR
  rw [sIn, bS]
  by_cases h : 0 ≤ n ∧ n ≤ 63
  · obtain ⟨m, rfl⟩ := Int.eq_ofNat_of_zero_le h.1
    obtain ⟨l, e, e2, e3, e4⟩ := sTen_l0 (m / 4) k m [] (by omega) (by omega) (by simp; omega) Dig.nil rfl (by omega)
    rw [List.length_nil, pw_zero, Int.one_mul] at e4
    rw [if_pos h, decide_eq_true h.1, decide_eq_true h.2, if_pos (by rfl), show spec_l1TenAbs.f k (m : Int) = some l from e, bS, l1Big_ge e2 (by omega) _ k (by omega), bigv_sv, e4, Int.toNat_natCast]
    exact eta3 _
  · rw [if_neg h, if_neg (by simpa using h)]
end Go.Proofs.YtdbgpoileffbeaaDoor.Val
end
section
namespace Go.Proofs.YtdbgpoileffbeaaDoor.Drw
open Go.RowKit Go.Proofs.YtdbgpoileffbeaaDoor.Jt Go.Proofs.YtdbgpoileffbeaaDoor.Val Go.Proofs.YtdbgpoileffbeaaDoor.Pr Go.Proofs.YtdbgpoileffbeaaDoor.Ext Go.Proofs.YtdbgpoileffbeaaDoorW.PrintWords Go.Proofs.YtdbgpoileffbeaaDoorW.PrintLast Go.Proofs.YtdbgpoileffbeaaDoorW.PrintMore
set_option linter.unusedVariables false
set_option linter.unusedSimpArgs false
theorem wf8 {a : Int} (h : (Lit.int .u8 a).wf = true) : 0 ≤ a ∧ a ≤ 255 := by
  simp [Lit.wf, IntKind.min, IntKind.max, IntKind.signed, IntKind.bits] at h; omega
theorem rd_mem {l : List Int} {i : Int} (h0 : 0 ≤ i) (h : i < (l.length : Int)) : rd l i ∈ l := by
  have hi : i.toNat < l.length := by omega
  unfold rd
  rw [List.getD_eq_getElem?_getD, List.getElem?_eq_getElem hi]
  exact List.getElem_mem hi
theorem xor_nonneg {x y : Int} (hx : 0 ≤ x) (hx' : x < 4611686018427387904) (hy : 0 ≤ y) (hy' : y < 4611686018427387904) : 0 ≤ Go.bits .xor .i64 x y := by
  obtain ⟨a, rfl⟩ := Int.eq_ofNat_of_zero_le hx
  obtain ⟨b, rfl⟩ := Int.eq_ofNat_of_zero_le hy
  have ha : a < 2 ^ 62 := by omega
  have hb : b < 2 ^ 62 := by omega
  have hlt := Nat.xor_lt_two_pow ha hb
  have ha' : a % 2 ^ IntKind.i64.bits = a := Nat.mod_eq_of_lt (by show a < 2 ^ 64; omega)
  have hb' : b % 2 ^ IntKind.i64.bits = b := Nat.mod_eq_of_lt (by show b < 2 ^ 64; omega)
  have e : Go.bits .xor .i64 (a : Int) (b : Int) = ((a ^^^ b : Nat) : Int) := by
    simp only [Go.bits, BitVec.ofInt_natCast, BitVec.toNat_xor, BitVec.toNat_ofNat, ha', hb']
    rw [IntKind.wrap_i64]
    omega
  rw [e]
  omega
def BytesOk (b : List Int) : Prop := b.length ≤ 2000 ∧ ∀ x ∈ b, 0 ≤ x ∧ x ≤ 255
theorem pick_any {b : List Int} (hb : BytesOk b) {p n : Int} (hp : 0 ≤ p) (hp' : p ≤ 1000000) (hn : 1 ≤ n) :
    ∃ r, (∀ k, spec_l1Rd_pick.f (k + 1) b p n = some (r, p + 1)) ∧ 0 ≤ r ∧ r < n := by
  have e1 : wrap64 (p + 1) = p + 1 := w64 (by omega) (by omega)
  have e2 : wrap64 (p + 1 - 1) = p := by rw [w64 (by omega) (by omega)]; omega
  have hl := hb.1
  by_cases h0 : b.length = 0
  · refine ⟨0, fun k => ?_, by omega, by omega⟩
    have hz : ((b.length : Int) == 0) = true := by rw [h0]; rfl
    unfold spec_l1Rd_pick.f
    rw [if_neg (by omega), e1, hz]
    simp only [spec_l1Rd_pick.j0, if_true]
  · have hz : ((b.length : Int) == 0) = false := by rw [beq_eq_false_iff_ne]; omega
    by_cases hk : p < (b.length : Int)
    · have hm := hb.2 _ (rd_mem hp hk)
      refine ⟨Int.tmod (rd b p) n, fun k => ?_, Int.tmod_nonneg _ hm.1, Int.tmod_lt_of_pos _ (by omega)⟩
      unfold spec_l1Rd_pick.f
      rw [if_neg (by omega), e1, hz]
      simp only [spec_l1Rd_pick.j0]
      rw [if_neg (by decide), e2, if_pos hk, if_pos hp, if_neg (by omega), w64 (by omega) (by omega)]
    · have hL : (0 : Int) < (b.length : Int) := by omega
      have e7 : wrap64 (wrap64 (p * 7) + 3) = p * 7 + 3 := by
        rw [w64 (x := p * 7) (by omega) (by omega), w64 (by omega) (by omega)]
      have i1 := Int.tmod_nonneg (b.length : Int) hp
      have j1 := Int.tmod_lt_of_pos p hL
      have i2 := Int.tmod_nonneg (b.length : Int) (show 0 ≤ p * 7 + 3 by omega)
      have j2 := Int.tmod_lt_of_pos (p * 7 + 3) hL
      have hA := hb.2 _ (rd_mem i1 j1)
      have hB := hb.2 _ (rd_mem i2 j2)
      have hq0 : 0 ≤ Int.tdiv p (b.length : Int) := Int.tdiv_nonneg hp (by omega)
      have hq1 : Int.tdiv p (b.length : Int) ≤ p := by
        rw [Int.tdiv_eq_ediv_of_nonneg hp]; exact Int.ediv_le_self _ hp
      generalize hAe : rd b (Int.tmod p (b.length : Int)) = A at hA
      generalize hBe : rd b (Int.tmod (p * 7 + 3) (b.length : Int)) = B at hB
      generalize hQe : Int.tdiv p (b.length : Int) = Q at hq0 hq1
      have hX : 0 ≤ wrap64 (wrap64 (wrap64 (wrap64 (wrap64 A * 131) + wrap64 (wrap64 B * 1117)) + wrap64 (p * 29)) + wrap64 (wrap64 Q * 53)) ∧
          wrap64 (wrap64 (wrap64 (wrap64 (wrap64 A * 131) + wrap64 (wrap64 B * 1117)) + wrap64 (p * 29)) + wrap64 (wrap64 Q * 53)) < 1000000000 := by
        rw [w64 (x := A) (by omega) (by omega), w64 (x := B) (by omega) (by omega), w64 (x := Q) (by omega) (by omega), w64 (x := A * 131) (by omega) (by omega), w64 (x := B * 1117) (by omega) (by omega),
          w64 (x := p * 29) (by omega) (by omega), w64 (x := Q * 53) (by omega) (by omega), w64 (x := A * 131 + B * 1117) (by omega) (by omega), w64 (x := A * 131 + B * 1117 + p * 29) (by omega) (by omega),
          w64 (by omega) (by omega)]
        omega
      generalize hXe : wrap64 (wrap64 (wrap64 (wrap64 (wrap64 A * 131) + wrap64 (wrap64 B * 1117)) + wrap64 (p * 29)) + wrap64 (wrap64 Q * 53)) = X at hX
      have hY : 0 ≤ wrap64 (Int.tdiv X 64) ∧ wrap64 (Int.tdiv X 64) < 1000000000 := by
        rw [Int.tdiv_eq_ediv_of_nonneg hX.1, w64 (by omega) (by omega)]; omega
      refine ⟨Int.tmod (Go.bits .xor .i64 X (wrap64 (Int.tdiv X 64))) n, fun k => ?_, Int.tmod_nonneg _ (xor_nonneg hX.1 (by omega) hY.1 (by omega)), Int.tmod_lt_of_pos _ (by omega)⟩
      unfold spec_l1Rd_pick.f
      rw [if_neg (by omega), e1, hz]
      simp only [spec_l1Rd_pick.j0]
      rw [if_neg (by decide), e2, if_neg hk, if_neg (by omega), if_pos i1, if_pos j1, e7, if_pos i2, if_pos j2, if_neg (by omega), hAe, hBe, hQe, hXe]
theorem open_any {l : List Int} (hl : ∀ x ∈ l, (Lit.int .u8 x).wf = true) : ∃ b, spec_l1Open.f l = some (b, 0) ∧ BytesOk b := by
  unfold spec_l1Open.f
  by_cases h : (l.length : Int) > 2000
  · rw [if_pos h, if_pos (by omega)]
    exact ⟨_, rfl, by rw [List.length_take]; omega, fun x hx => wf8 (hl x (List.mem_of_mem_take hx))⟩
  · rw [if_neg h]
    exact ⟨_, rfl, by omega, fun x hx => wf8 (hl x hx)⟩
theorem pick_ge {b : List Int} (hb : BytesOk b) {p n : Int} (hp : 0 ≤ p) (hp' : p ≤ 1000000) (hn : 1 ≤ n) :
    ∃ r, (∀ k, 1 ≤ k → spec_l1Rd_pick.f k b p n = some (r, p + 1)) ∧ 0 ≤ r ∧ r < n := by
  obtain ⟨r, h, h0, h1⟩ := pick_any hb hp hp' hn
  exact ⟨r, fun k hk => by obtain ⟨m, rfl⟩ : ∃ m, k = m + 1 := ⟨k - 1, by omega⟩; exact h m, h0, h1⟩
theorem drawTen_any {l : List Int} (hl : ∀ x ∈ l, (Lit.int .u8 x).wf = true) : ∃ n, (∀ k, 1 ≤ k → spec_DrawBigTen.f k l = some n) ∧ -3 ≤ n ∧ n ≤ 66 := by
  obtain ⟨b, hb, hB⟩ := open_any hl
  obtain ⟨r, hr, r0, r1⟩ := pick_ge hB (p := 0) (by omega) (by omega) (n := 70) (by omega)
  refine ⟨r - 3, fun k hk => ?_, by omega, by omega⟩
  unfold spec_DrawBigTen.f
  rw [hb, Val.bS, hr k hk, Val.bS, Val.w64 (by omega) (by omega)]
end Go.Proofs.YtdbgpoileffbeaaDoor.Drw
end
section
namespace Go.Proofs.YtdbgpoileffbeaaDoor.Pure
open Go.RowKit Go.Proofs.YtdbgpoileffbeaaDoor.Pr Go.Proofs.YtdbgpoileffbeaaDoor.Ext Go.Proofs.YtdbgpoileffbeaaDoor.Dec Go.Proofs.YtdbgpoileffbeaaDoor.Jt Go.Proofs.YtdbgpoileffbeaaDoor.Val Go.Proofs.YtdbgpoileffbeaaDoor.Str Go.Proofs.YtdbgpoileffbeaaDoorW.PrintWords Go.Proofs.YtdbgpoileffbeaaDoorW.PrintLast Go.Proofs.YtdbgpoileffbeaaDoorW.PrintMore
set_option linter.unusedVariables false
set_option linter.unusedSimpArgs false
theorem p10_add (m n : Nat) : p10 m * p10 n = p10 (m + n) := by unfold p10; rw [Int.pow_add]
theorem p10_64 : p10 64 = pw 16 := by decide
theorem p10_nat (n : Nat) : p10 n = ((10 ^ n : Nat) : Int) := by unfold p10; simp
theorem tenR_yes {m : Nat} (h : m ≤ 63) : tenR (m : Int) = (false, rep (p10 m), true) := by
  have hp := p10_pos m
  have hl := p10_lt h
  unfold tenR bigR mkN mkL
  rw [if_pos (by omega), Int.toNat_natCast, if_pos (by omega), if_neg (by omega), decide_eq_false (by omega)]
theorem ten_ok {m : Nat} (h : m ≤ 63) : okB false (rep (p10 m)) = true := by
  have hp := p10_pos m
  rw [okB_iff]
  exact ⟨rep_len_le (by omega) (p10_lt h), rep_dig _, rep_nz _, fun e => by cases e⟩
theorem ten_mul {m n : Nat} (hm : m ≤ 63) (hn : n ≤ 63) : mulR false (rep (p10 m)) false (rep (p10 n)) = tenR ((m : Int) + (n : Int)) := by
  have h1 := p10_pos m
  have h2 := p10_pos n
  unfold mulR
  rw [if_pos ⟨ten_ok hm, ten_ok hn⟩]
  have e : bigv false (rep (p10 m)) * bigv false (rep (p10 n)) = p10 (m + n) := by
    unfold bigv
    rw [if_neg (by decide), if_neg (by decide), rep_val (by omega), rep_val (by omega), p10_add]
  rw [e]
  unfold tenR
  by_cases h : m + n ≤ 63
  · rw [if_pos (by omega), show ((m : Int) + (n : Int)).toNat = m + n by omega]
  · rw [if_neg (by omega)]
    unfold bigR
    have h3 := p10_mono (show 64 ≤ m + n by omega)
    rw [p10_64] at h3
    rw [if_neg (by omega)]
theorem ten_text {m : Nat} (h : m ≤ 63) : ∃ s, impl_BigPut.f false (rep (p10 m)) = some (str s) ∧ s.length = m + 1 := by
  have hp := p10_pos m
  refine ⟨textL (rep (p10 m)), ?_, ?_⟩
  · rw [implBigPut, if_pos (ten_ok h)]; rfl
  · rw [textL_eq _ (rep_dig _) (rep_nz _), rep_val (by omega), p10_nat, Int.toNat_natCast]
    have a := decDigits_len_le (n := 10 ^ m) (k := m + 1) (by omega) (Nat.pow_lt_pow_right (by decide) (by omega))
    have b := decDigits_len_gt (n := 10 ^ m) (k := m) (Nat.le_refl _)
    omega
theorem jt_same (n : Bool) (l : List Int) (h : l.length ≤ 1000) (k : Nat) (hk : 1010 ≤ k) : laws_jtBig.f k n l n l = some true := by
  rw [jtBig_ge n l n l h k hk]; simp
theorem FnBigTen {l m : List Int} (hl : ∀ x ∈ l, (Lit.int .u8 x).wf = true) (hm : ∀ x ∈ m, (Lit.int .u8 x).wf = true) : laws_FnBigTen.f 9000 l m = some true := by
  have j1 : ∀ (a b : Int) (c : Bool), -3 ≤ a → a ≤ 66 → -3 ≤ b → b ≤ 66 → (c = true ∨ (0 ≤ a ∧ a ≤ 63 ∧ 0 ≤ b ∧ b ≤ 63)) →
      laws_FnBigTen.j1 8999 a b (tenR a).2.2 (tenR a).2.2 c (tenR a).1 (tenR a).2.1 (tenR b).1 (tenR b).2.1 (tenR a).1 (tenR a).2.1 = some true := by
    intro a b c a0 a1 b0 b1 hc
    rw [laws_FnBigTen.j1]
    by_cases hct : c = true
    · rw [if_pos hct, if_pos (by simp), jt_same _ _ (by have := tenR_len a; omega) _ (by decide)]
      rfl
    · obtain ⟨p0, p1, q0, q1⟩ := hc.resolve_left hct
      obtain ⟨x, rfl⟩ := Int.eq_ofNat_of_zero_le p0
      obtain ⟨y, rfl⟩ := Int.eq_ofNat_of_zero_le q0
      obtain ⟨s, hs, ls⟩ := ten_text (m := x) (by omega)
      rw [if_neg hct, tenR_yes (m := x) (by omega), tenR_yes (m := y) (by omega), iBigMul_ge _ _ _ _ _ (by decide), ten_mul (by omega) (by omega), Str.w64 (x := (x : Int) + (y : Int)) (by omega) (by omega)]
      simp only [Str.bS]
      rw [iBigTen_ge _ _ (by decide)]
      simp only [Str.bS]
      rw [if_pos (by simp), jt_same _ _ (by have := tenR_len ((x : Int) + (y : Int)); omega) _ (by decide)]
      simp only [Str.bS]
      rw [if_pos trivial, hs]
      simp only [Str.bS]
      rw [str_size, ls, Str.w64 (by omega) (by omega)]
      simp
  have j0 : ∀ c, laws_FnBigTen.j0 9000 l m c = some true := by
    intro c
    rw [laws_FnBigTen.j0]
    by_cases hct : c = true
    · rw [if_pos hct]
    · rw [if_neg hct]
      obtain ⟨a, ha, a0, a1⟩ := Drw.drawTen_any hl
      obtain ⟨b, hb, b0, b1⟩ := Drw.drawTen_any hm
      rw [ha _ (by decide)]; simp only [Str.bS]
      rw [hb _ (by decide)]; simp only [Str.bS]
      rw [iBigTen_ge a _ (by decide)]; simp only [Str.bS]
      rw [iBigTen_ge b _ (by decide)]; simp only [Str.bS]
      rw [sBigTen_ge a _ (by decide)]; simp only [Str.bS]
      rw [if_neg (by simp), jt_same _ _ (by have := tenR_len a; omega) _ (by decide)]; simp only [Str.bS]
      rw [if_pos trivial]
      have ok : ∀ n : Int, (tenR n).2.2 = true → 0 ≤ n ∧ n ≤ 63 := by
        intro n h
        unfold tenR at h
        split at h
        · assumption
        · cases h
      by_cases h : (tenR a).2.2 = true
      · rw [if_pos h]
        refine j1 a b _ a0 a1 b0 b1 ?_
        by_cases h2 : (tenR b).2.2 = true
        · exact .inr ⟨(ok a h).1, (ok a h).2, (ok b h2).1, (ok b h2).2⟩
        · left; simp [h2]
      · rw [if_neg h]
        exact j1 a b true a0 a1 b0 b1 (.inl rfl)
  unfold laws_FnBigTen.f
  split
  · exact j0 true
  · exact j0 _
end Go.Proofs.YtdbgpoileffbeaaDoor.Pure
end
section
namespace Go.Proofs.YtdbgpoileffbeaaDoor.LaidE
open Go Go.RowKit Go.Proofs.YtdbgpoileffbeaaDoor.Ext
set_option linter.unusedVariables false
theorem powType : (Tryd.prog.globals[3]?).map (·.type) = some 138 := by kernel_rfl
theorem powData : (Rows.laid_internal_strconv_uint64pow10 : DataW Unit) = Lib.tabData .u64 Lib.pow10Tab := rfl
theorem envI_of {r : List (String × DataW Unit)} {W : World} (h : laidMet Tryd.prog (("internal/strconv.uint64pow10", Rows.laid_internal_strconv_uint64pow10) :: r) W) : EnvI W :=
  Lib.tabIs_of_head gPow powType Tryd.underlying138 Tryd.underlying112 (by kernel_rfl) (by kernel_rfl) (powData ▸ h)
end Go.Proofs.YtdbgpoileffbeaaDoor.LaidE
end
