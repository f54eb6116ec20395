/- What the claim's row needs of the contracts and words below it, and no more. -/
import Derived.Test.YtdemeoncjcbojaaQThree4
section
namespace Go.Proofs.Ytdemeoncjcbojaa.Pr
open Go.RowKit Go.Proofs.YtdemeoncjcbojaaW.PrintWords Go.Proofs.YtdemeoncjcbojaaW.PrintLast Go.Proofs.Ytdemeoncjcbojaa.Ext Go.Proofs.YtdemeoncjcbojaaW.PrintMore
attribute [local go_sem] max2_int min2_int max_two min_two max_three min_three max_four min_four
set_option linter.unusedVariables false
set_option linter.unusedSimpArgs false
mutual
def laws_FnBigCmpThree.j0 : Nat → List Int → List Int → Bool → Option (Bool)
  | 0, _, _, _ => none
  | k + 1, x0, x1, x18 => if x18 = true then (some true) else ((spec_DrawBigCmp.f k x0).bind fun bt757 => ((spec_DrawBigCmp.f k x1).bind fun bt767 => ((impl_BigCmp.f k bt757.1 bt757.2.1 bt757.2.2.1 bt757.2.2.2).bind fun t777 => ((impl_BigCmp.f k bt757.2.2.1 bt757.2.2.2 bt767.1 bt767.2.1).bind fun t778 => ((spec_BigCmp.f k bt757.1 bt757.2.1 bt757.2.2.1 bt757.2.2.2).bind fun t779 => (if t777 = t779 then ((spec_BigCmp.f k bt757.2.2.1 bt757.2.2.2 bt767.1 bt767.2.1).bind fun t780 => (if t778 = t780 then (if t777 = 2 then (laws_FnBigCmpThree.j1 k t777 t778 true bt757.1 bt757.2.1 bt757.2.2.1 bt757.2.2.2 bt767.1 bt767.2.1) else (laws_FnBigCmpThree.j1 k t777 t778 (t778 == 2) bt757.1 bt757.2.1 bt757.2.2.1 bt757.2.2.2 bt767.1 bt767.2.1)) else (laws_FnBigCmpThree.j1 k t777 t778 true bt757.1 bt757.2.1 bt757.2.2.1 bt757.2.2.2 bt767.1 bt767.2.1))) else (laws_FnBigCmpThree.j1 k t777 t778 true bt757.1 bt757.2.1 bt757.2.2.1 bt757.2.2.2 bt767.1 bt767.2.1)))))))
def laws_FnBigCmpThree.j1 : Nat → Int → Int → Bool → Bool → List Int → Bool → List Int → Bool → List Int → Option (Bool)
  | 0, _, _, _, _, _, _, _, _, _ => none
  | k + 1, x9, x10, x54, x766000, x766001, x767000, x767001, x776000, x776001 => if x54 = true then ((spec_BigCmp.f k x766000 x766001 x767000 x767001).bind fun t781 => (if x9 = t781 then ((spec_BigCmp.f k x767000 x767001 x776000 x776001).bind fun t782 => (some (x10 == t782))) else (some false))) else (if x9 ≤ 0 then (laws_FnBigCmpThree.j2 k x9 x10 (decide (x10 ≤ 0)) x766000 x766001 x776000 x776001) else (laws_FnBigCmpThree.j2 k x9 x10 false x766000 x766001 x776000 x776001))
def laws_FnBigCmpThree.j2 : Nat → Int → Int → Bool → Bool → List Int → Bool → List Int → Option (Bool)
  | 0, _, _, _, _, _, _, _ => none
  | k + 1, x9, x10, x72, x766000, x766001, x776000, x776001 => if x72 = true then ((impl_BigCmp.f k x766000 x766001 x776000 x776001).bind fun t783 => (if t783 ≤ 0 then ((impl_BigCmp.f k x766000 x766001 x776000 x776001).bind fun t784 => (if x9 = 0 then (some ((t784 == 0) == (x10 == 0))) else (some ((t784 == 0) == false)))) else (some false))) else (if x9 ≤ 0 then (some true) else (if x10 ≤ 0 then (some true) else ((impl_BigCmp.f k x766000 x766001 x776000 x776001).bind fun t785 => (some (t785 == 1)))))
end
def laws_FnBigCmpThree.f (k : Nat) (l0 : List Int) (l1 : List Int) : Option (Bool) := if (l0.length : Int) > 1048576 then (laws_FnBigCmpThree.j0 k l0 l1 true) else (laws_FnBigCmpThree.j0 k l0 l1 (decide ((l1.length : Int) > 1048576)))
set_option maxHeartbeats 8000000 in
set_option maxRecDepth 100000 in
theorem laws_FnBigCmpThree.calls (k : Nat) (A0 : Option Addr) (c0 : Nat) (l0 : List Int) (A1 : Option Addr) (c1 : Nat) (l1 : List Int) (r : Bool) (w : World) (hr0 : Kd.C (Kd.int .u8) w A0 l0.length l0) (hc0 : l0.length ≤ c0) (hr1 : Kd.C (Kd.int .u8) w A1 l1.length l1) (hc1 : l1.length ≤ c1) (h : laws_FnBigCmpThree.f k l0 l1 = some r) :
    Calls Try.prog 9 #[.slice A0 l0.length c0, .slice A1 l1.length c1] w fun e w' => e = .returned (.bool r) ∧ Below w.heap.size w w' := by
  have hu27 := Try.underlying27
  have HR0 := Aside0.mk hr0
  have HC0 := Aside0.mk hc0
  clear hr0 hc0
  have HR1 := Aside0.mk hr1
  have HC1 := Aside0.mk hc1
  clear hr1 hc1
  have HB := Aside0.mk (Below.refl w.heap.size w)
  have H : (if (l0.length : Int) > 1048576 then (laws_FnBigCmpThree.j0 k l0 l1 true) else (laws_FnBigCmpThree.j0 k l0 l1 (decide ((l1.length : Int) > 1048576)))) = some r := h
  clear h
  have HC3 := Aside0.mk H
  clear H
  go_enter Try.func9, Try.ntmps9
  go_upto_region 1 with (fail)
  go_cut [18] (fun v18 wc => ∃ (kq : Nat) (x18_2 : Bool), v18 = .bool x18_2 ∧ Aside0 (laws_FnBigCmpThree.j0 kq l0 l1 x18_2 = some r) ∧ Aside0 (kq ≤ k) ∧ Aside0 (Below w.heap.size w wc))
  case first =>
    have H := HC3.out
    clear HC3
    by_cases c4 : (l0.length : Int) > 1048576
    · rw [if_pos c4] at H
      have c4b0 : decide (1048576 < (l0.length : Int)) = true := decide_eq_true c4
      have c4b1 : decide (1048576 < l0.length) = true := decide_eq_true (by omega)
      clear c4
      (first | rw [c4b0] | (simp only [i64_w, i32_w]; rw [c4b0]) | skip)
      have H' := Aside0.mk H
      clear H
      go_wp2
      go_meet
      case rel => exact ⟨_, (true), (by first | rfl | (simp; done) | (simp [*]; done)), H', ⟨by first | omega | exact Nat.le_refl _⟩, ⟨by repeat (first | (with_reducible first | exact HB.out | apply below_alloc | apply pw_below_drewN | apply below_drew1) | exact HB.out)⟩⟩
    · rw [if_neg c4] at H
      have c4b0 : decide (1048576 < (l0.length : Int)) = false := decide_eq_false c4
      have c4b1 : decide (1048576 < l0.length) = false := decide_eq_false (by omega)
      clear c4
      (first | rw [c4b0] | (simp only [i64_w, i32_w]; rw [c4b0]) | skip)
      have H' := Aside0.mk H
      clear H
      go_wp2
      go_meet
      case rel => exact ⟨_, (decide ((l1.length : Int) > 1048576)), (by first | rfl | (simp; done) | (simp [*]; done)), H', ⟨by first | omega | exact Nat.le_refl _⟩, ⟨by repeat (first | (with_reducible first | exact HB.out | apply below_alloc | apply pw_below_drewN | apply below_drew1) | exact HB.out)⟩⟩
  case rest =>
    clear HC3
    try clear c1
    try clear p2
    try clear c4
    try clear c4b0
    try clear c4b1
    obtain ⟨kq, x18_2, rfl, HA, HJ2, HB⟩ := hcut
    cases kq with
    | zero => exact absurd HA.out (by simp [laws_FnBigCmpThree.j0])
    | succ kj2 =>
      have H := HA.out
      clear HA
      simp only [laws_FnBigCmpThree.j0] at H
      by_cases c5 : x18_2 = true
      · subst c5
        have H1 : (some true) = some r := by rw [if_pos rfl] at H; exact H
        clear H
        have H := H1
        clear H1
        obtain rfl := Option.some.inj H
        go_wp2
        go_ret
        exact ⟨by first | rfl | (simp [errW_none, errW_some] <;> rfl) | (simp [*, errW_none, errW_some] <;> rfl), by repeat (first | (with_reducible first | exact HB.out | apply below_alloc | apply pw_below_drewN | apply below_drew1) | exact HB.out)⟩
      · replace c5 := Bool.eq_false_iff.mpr c5
        subst c5
        have H1 : ((spec_DrawBigCmp.f kj2 l0).bind fun bt757 => ((spec_DrawBigCmp.f kj2 l1).bind fun bt767 => ((impl_BigCmp.f kj2 bt757.1 bt757.2.1 bt757.2.2.1 bt757.2.2.2).bind fun t777 => ((impl_BigCmp.f kj2 bt757.2.2.1 bt757.2.2.2 bt767.1 bt767.2.1).bind fun t778 => ((spec_BigCmp.f kj2 bt757.1 bt757.2.1 bt757.2.2.1 bt757.2.2.2).bind fun t779 => (if t777 = t779 then ((spec_BigCmp.f kj2 bt757.2.2.1 bt757.2.2.2 bt767.1 bt767.2.1).bind fun t780 => (if t778 = t780 then (if t777 = 2 then (laws_FnBigCmpThree.j1 kj2 t777 t778 true bt757.1 bt757.2.1 bt757.2.2.1 bt757.2.2.2 bt767.1 bt767.2.1) else (laws_FnBigCmpThree.j1 kj2 t777 t778 (t778 == 2) bt757.1 bt757.2.1 bt757.2.2.1 bt757.2.2.2 bt767.1 bt767.2.1)) else (laws_FnBigCmpThree.j1 kj2 t777 t778 true bt757.1 bt757.2.1 bt757.2.2.1 bt757.2.2.2 bt767.1 bt767.2.1))) else (laws_FnBigCmpThree.j1 kj2 t777 t778 true bt757.1 bt757.2.1 bt757.2.2.1 bt757.2.2.2 bt767.1 bt767.2.1))))))) = some r := by rw [if_neg (show ¬ (false = true) by decide)] at H; exact H
        clear H
        have H := H1
        clear H1
        replace H := Option.bind_eq_some_iff.mp H
        obtain ⟨⟨t757, t758, t761, t762⟩, A60, H⟩ := H
        replace H : ((spec_DrawBigCmp.f kj2 l1).bind fun bt767 => ((impl_BigCmp.f kj2 t757 t758 t761 t762).bind fun t777 => ((impl_BigCmp.f kj2 t761 t762 bt767.1 bt767.2.1).bind fun t778 => ((spec_BigCmp.f kj2 t757 t758 t761 t762).bind fun t779 => (if t777 = t779 then ((spec_BigCmp.f kj2 t761 t762 bt767.1 bt767.2.1).bind fun t780 => (if t778 = t780 then (if t777 = 2 then (laws_FnBigCmpThree.j1 kj2 t777 t778 true t757 t758 t761 t762 bt767.1 bt767.2.1) else (laws_FnBigCmpThree.j1 kj2 t777 t778 (t778 == 2) t757 t758 t761 t762 bt767.1 bt767.2.1)) else (laws_FnBigCmpThree.j1 kj2 t777 t778 true t757 t758 t761 t762 bt767.1 bt767.2.1))) else (laws_FnBigCmpThree.j1 kj2 t777 t778 true t757 t758 t761 t762 bt767.1 bt767.2.1)))))) = some r := H
        have A6 := Aside0.mk A60
        clear A60
        replace H := Option.bind_eq_some_iff.mp H
        obtain ⟨⟨t767, t768, t771, t772⟩, A70, H⟩ := H
        replace H : ((impl_BigCmp.f kj2 t757 t758 t761 t762).bind fun t777 => ((impl_BigCmp.f kj2 t761 t762 t767 t768).bind fun t778 => ((spec_BigCmp.f kj2 t757 t758 t761 t762).bind fun t779 => (if t777 = t779 then ((spec_BigCmp.f kj2 t761 t762 t767 t768).bind fun t780 => (if t778 = t780 then (if t777 = 2 then (laws_FnBigCmpThree.j1 kj2 t777 t778 true t757 t758 t761 t762 t767 t768) else (laws_FnBigCmpThree.j1 kj2 t777 t778 (t778 == 2) t757 t758 t761 t762 t767 t768)) else (laws_FnBigCmpThree.j1 kj2 t777 t778 true t757 t758 t761 t762 t767 t768))) else (laws_FnBigCmpThree.j1 kj2 t777 t778 true t757 t758 t761 t762 t767 t768))))) = some r := H
        have A7 := Aside0.mk A70
        clear A70
        replace H := Option.bind_eq_some_iff.mp H
        obtain ⟨t777, A80, H⟩ := H
        replace H : ((impl_BigCmp.f kj2 t761 t762 t767 t768).bind fun t778 => ((spec_BigCmp.f kj2 t757 t758 t761 t762).bind fun t779 => (if t777 = t779 then ((spec_BigCmp.f kj2 t761 t762 t767 t768).bind fun t780 => (if t778 = t780 then (if t777 = 2 then (laws_FnBigCmpThree.j1 kj2 t777 t778 true t757 t758 t761 t762 t767 t768) else (laws_FnBigCmpThree.j1 kj2 t777 t778 (t778 == 2) t757 t758 t761 t762 t767 t768)) else (laws_FnBigCmpThree.j1 kj2 t777 t778 true t757 t758 t761 t762 t767 t768))) else (laws_FnBigCmpThree.j1 kj2 t777 t778 true t757 t758 t761 t762 t767 t768)))) = some r := H
        have A8 := Aside0.mk A80
        clear A80
        replace H := Option.bind_eq_some_iff.mp H
        obtain ⟨t778, A90, H⟩ := H
        replace H : ((spec_BigCmp.f kj2 t757 t758 t761 t762).bind fun t779 => (if t777 = t779 then ((spec_BigCmp.f kj2 t761 t762 t767 t768).bind fun t780 => (if t778 = t780 then (if t777 = 2 then (laws_FnBigCmpThree.j1 kj2 t777 t778 true t757 t758 t761 t762 t767 t768) else (laws_FnBigCmpThree.j1 kj2 t777 t778 (t778 == 2) t757 t758 t761 t762 t767 t768)) else (laws_FnBigCmpThree.j1 kj2 t777 t778 true t757 t758 t761 t762 t767 t768))) else (laws_FnBigCmpThree.j1 kj2 t777 t778 true t757 t758 t761 t762 t767 t768))) = some r := H
        have A9 := Aside0.mk A90
        clear A90
        have HC10 := Aside0.mk H
        clear H
        go_upto_region 7 with (first | ((with_reducible refine gate_callee (f := 37) rfl ?_); refine goesL_ (some 21) rfl rfl Try.func37 (by kernel_rfl) rfl #[.slice A0 l0.length c0] rfl (by (try simp only [List.map_toArray, List.map_cons, List.map_nil]); first | done | rfl | (simp only [List.length_drop, List.length_take]; rfl)) ?_; (with_reducible refine (spec_DrawBigCmp.calls kj2 _ _ l0 t757 t758 t761 t762 _ ?side1 ?side2 A6.out).mono ?_); (case side1 => repeat (first | exact (Kd.C_below HR0.out HB.out) | (with_reducible refine Kd.C_alloc ?_ _) | (with_reducible refine Kd.C_drewN ?_ _) | (with_reducible refine Kd.C_drew ?_))); (case side2 => exact HC0.out); rintro e w11 ⟨v759, v763, rfl, ho0, ho1, hb⟩; refine ⟨_, rfl, ?_⟩; have n0_ := Aside0.mk (Kd.R_lower ho0 (below_size (by repeat (first | (with_reducible first | exact HB.out | apply below_alloc | apply pw_below_drewN | apply below_drew1) | exact HB.out)))); have n1_ := Aside0.mk (Kd.R_lower ho1 (below_size (by repeat (first | (with_reducible first | exact HB.out | apply below_alloc | apply pw_below_drewN | apply below_drew1) | exact HB.out)))); have n2_ := Aside0.mk (below_step (by repeat (first | (with_reducible first | exact HB.out | apply below_alloc | apply pw_below_drewN | apply below_drew1) | exact HB.out)) hb); clear HB; have HO760 := n0_; have HO764 := n1_; have HB := n2_; clear n0_ n1_ n2_; (try clear hb); (try clear hb2); (try clear hk); (try clear hi); (try clear ho0); (try clear ho1)) | ((with_reducible refine gate_dst (N := 5) rfl ?_); (try (refine gate_guard (by rfl) ?_; dsimp only)); refine box_event ?hg (N := 5) ?hd (cs := #[.bool false, .slice none 0 0]) (t := 27) ?hr ?_; (case hd => rfl); (case hg => rfl); (case hr => first | (go_simp; done) | (go_simp; rfl)); intro gb765 hg w12 hbox hb; have n0_ := Aside0.mk (Kd.R_below (by (with_reducible repeat (first | apply Kd.R_alloc | apply Kd.R_drewN | apply Kd.R_drew)); exact HO760.out) hb); have n1_ := Aside0.mk (Kd.R_below (by (with_reducible repeat (first | apply Kd.R_alloc | apply Kd.R_drewN | apply Kd.R_drew)); exact HO764.out) hb); have n2_ := Aside0.mk (below_step (by repeat (first | (with_reducible first | exact HB.out | apply below_alloc | apply pw_below_drewN | apply below_drew1) | exact HB.out)) hb); have n3_ := Aside0.mk (hbox); have n4_ := Aside0.mk ((by rw [hg]; exact (below_size (by repeat (first | (with_reducible first | exact HB.out | apply below_alloc | apply pw_below_drewN | apply below_drew1) | exact HB.out))) : w.heap.size ≤ gb765)); have n5_ := Aside0.mk ((by rw [hg]; exact (below_size (by repeat (first | (with_reducible first | exact HB.out | apply below_alloc | apply pw_below_drewN | apply below_drew1) | exact HB.out))) : w.heap.size ≤ gb765)); clear HO760; clear HO764; clear HB; have HO760 := n0_; have HO764 := n1_; have HB := n2_; have BK765 := n3_; have GW765 := n4_; have GE765 := n5_; clear n0_ n1_ n2_ n3_ n4_ n5_; clear hb hbox hg) | ((with_reducible refine gate_dst (N := 6) rfl ?_); (try (refine gate_guard (by rfl) ?_; dsimp only)); refine box_event ?hg (N := 6) ?hd (cs := #[.bool false, .slice none 0 0]) (t := 27) ?hr ?_; (case hd => rfl); (case hg => rfl); (case hr => first | (go_simp; done) | (go_simp; rfl)); intro gb766 hg w13 hbox hb; have n0_ := Aside0.mk (Kd.R_below (by (with_reducible repeat (first | apply Kd.R_alloc | apply Kd.R_drewN | apply Kd.R_drew)); exact HO760.out) hb); have n1_ := Aside0.mk (Kd.R_below (by (with_reducible repeat (first | apply Kd.R_alloc | apply Kd.R_drewN | apply Kd.R_drew)); exact HO764.out) hb); have n2_ := Aside0.mk (blk_below (g := gb765) (o := .cells #[.bool false, .slice none 0 0] 27 (0, 0)) (by (with_reducible repeat (first | refine blk_drewN ?_ _ | refine blk_drew ?_ | refine blk_alloc ?_ _)); exact BK765.out) hb); have n3_ := Aside0.mk (below_step (by repeat (first | (with_reducible first | exact HB.out | apply below_alloc | apply pw_below_drewN | apply below_drew1 | refine below_set ?_ GE765.out) | exact HB.out)) hb); have n4_ := Aside0.mk (hbox); have n5_ := Aside0.mk ((by rw [hg]; exact (below_size (by repeat (first | (with_reducible first | exact HB.out | apply below_alloc | apply pw_below_drewN | apply below_drew1 | refine below_set ?_ GE765.out) | exact HB.out))) : w.heap.size ≤ gb766)); have n6_ := Aside0.mk ((by rw [hg]; exact (below_size (by repeat (first | (with_reducible first | exact HB.out | apply below_alloc | apply pw_below_drewN | apply below_drew1 | refine below_set ?_ GE765.out) | exact HB.out))) : w.heap.size ≤ gb766)); have n7_ := Aside0.mk ((by rw [hg]; exact Nat.ne_of_lt (blk_lt (g := gb765) (o := .cells #[.bool false, .slice none 0 0] 27 (0, 0)) (by (with_reducible repeat (first | refine blk_drewN ?_ _ | refine blk_drew ?_ | refine blk_alloc ?_ _)); exact BK765.out)) : gb765 ≠ gb766)); have n8_ := Aside0.mk ((by rw [hg]; exact Nat.ne_of_gt (blk_lt (g := gb765) (o := .cells #[.bool false, .slice none 0 0] 27 (0, 0)) (by (with_reducible repeat (first | refine blk_drewN ?_ _ | refine blk_drew ?_ | refine blk_alloc ?_ _)); exact BK765.out)) : gb766 ≠ gb765)); clear HO760; clear HO764; clear BK765; clear HB; have HO760 := n0_; have HO764 := n1_; have BK765 := n2_; have HB := n3_; have BK766 := n4_; have GW766 := n5_; have GE766 := n6_; have NB765_766 := n7_; have NB766_765 := n8_; clear n0_ n1_ n2_ n3_ n4_ n5_ n6_ n7_ n8_; clear hb hbox hg; have hnb14 := NB765_766.out; have hnc14 := NB766_765.out; have hcz15_0 : w13.cell? ⟨gb765, 0, none⟩ = some (.bool false) := (blk_cell BK765.out 0).trans rfl; have hcz15_1 : w13.cell? ⟨gb765, 1, none⟩ = some (.slice none 0 0) := (blk_cell BK765.out 1).trans rfl; have hfz15_0 := blk_frozen BK765.out 0; have hfz15_1 := blk_frozen BK765.out 1; obtain ⟨Ao16, co16, eo16⟩ := Kd.R_slice HO760.out; subst eo16; have hcz17_0 : w13.cell? ⟨gb766, 0, none⟩ = some (.bool false) := (blk_cell BK766.out 0).trans rfl; have hcz17_1 : w13.cell? ⟨gb766, 1, none⟩ = some (.slice none 0 0) := (blk_cell BK766.out 1).trans rfl; have hfz17_0 := blk_frozen BK766.out 0; have hfz17_1 := blk_frozen BK766.out 1; obtain ⟨Ao18, co18, eo18⟩ := Kd.R_slice HO764.out; subst eo18) | ((with_reducible refine gate_callee (f := 37) rfl ?_); refine goesL_ (some 26) rfl rfl Try.func37 (by kernel_rfl) rfl #[.slice A1 l1.length c1] rfl (by (try simp only [List.map_toArray, List.map_cons, List.map_nil]); first | done | rfl | (simp only [List.length_drop, List.length_take]; rfl)) ?_; (with_reducible refine (spec_DrawBigCmp.calls kj2 _ _ l1 t767 t768 t771 t772 _ ?side1 ?side2 A7.out).mono ?_); (case side1 => exact Kd.C_below HR1.out (by repeat (first | (with_reducible first | exact HB.out | apply below_alloc | apply pw_below_drewN | apply below_drew1 | refine below_set ?_ GE765.out | refine below_set ?_ GE766.out) | exact HB.out))); (case side2 => exact HC1.out); rintro e w19 ⟨v769, v773, rfl, ho0, ho1, hb⟩; refine ⟨_, rfl, ?_⟩; have n0_ := Aside0.mk (Kd.R_mono (Kd.R_told (Kd.R_told (Kd.R_old (by (with_reducible repeat (first | apply Kd.R_alloc | apply Kd.R_drewN | apply Kd.R_drew)); exact (Kd.R_mono (Kd.R_mono (Kd.R_far (p := ⟨gb766, 1, none⟩) (Kd.R_far (p := ⟨gb766, 0, none⟩) (Kd.R_far (p := ⟨gb765, 1, none⟩) (Kd.R_far (p := ⟨gb765, 0, none⟩) (Kd.R_types (Kd.R_types HO760.out BK765.out (by decide)) BK766.out (by decide)) (fun _ hk => hk.1.2) (.bool t757)) (fun _ hk => hk.1.2) (.slice Ao16 t758.length co16)) (fun _ hk => hk.2) (.bool t761)) (fun _ hk => hk.2) (.slice Ao18 t762.length co18)) (fun _ h_ => h_.1)) (fun _ h_ => h_.1))) hb) (Kd.R_base ho0)) (Kd.R_base ho1)) (fun _ h_ => h_.1)); have n1_ := Aside0.mk (Kd.R_mono (Kd.R_told (Kd.R_told (Kd.R_old (by (with_reducible repeat (first | apply Kd.R_alloc | apply Kd.R_drewN | apply Kd.R_drew)); exact (Kd.R_mono (Kd.R_mono (Kd.R_far (p := ⟨gb766, 1, none⟩) (Kd.R_far (p := ⟨gb766, 0, none⟩) (Kd.R_far (p := ⟨gb765, 1, none⟩) (Kd.R_far (p := ⟨gb765, 0, none⟩) (Kd.R_types (Kd.R_types HO764.out BK765.out (by decide)) BK766.out (by decide)) (fun _ hk => hk.1.2) (.bool t757)) (fun _ hk => hk.1.2) (.slice Ao16 t758.length co16)) (fun _ hk => hk.2) (.bool t761)) (fun _ hk => hk.2) (.slice Ao18 t762.length co18)) (fun _ h_ => h_.1)) (fun _ h_ => h_.1))) hb) (Kd.R_base ho0)) (Kd.R_base ho1)) (fun _ h_ => h_.1)); have n2_ := Aside0.mk (Kd.R_lower (Kd.R_new' (Kd.R_new' ho0 (Kd.R_lt (by (with_reducible repeat (first | apply Kd.R_alloc | apply Kd.R_drewN | apply Kd.R_drew)); exact (Kd.R_mono (Kd.R_mono (Kd.R_far (p := ⟨gb766, 1, none⟩) (Kd.R_far (p := ⟨gb766, 0, none⟩) (Kd.R_far (p := ⟨gb765, 1, none⟩) (Kd.R_far (p := ⟨gb765, 0, none⟩) (Kd.R_types (Kd.R_types HO760.out BK765.out (by decide)) BK766.out (by decide)) (fun _ hk => hk.1.2) (.bool t757)) (fun _ hk => hk.1.2) (.slice Ao16 t758.length co16)) (fun _ hk => hk.2) (.bool t761)) (fun _ hk => hk.2) (.slice Ao18 t762.length co18)) (fun _ h_ => h_.1)) (fun _ h_ => h_.1))))) (Kd.R_lt (by (with_reducible repeat (first | apply Kd.R_alloc | apply Kd.R_drewN | apply Kd.R_drew)); exact (Kd.R_mono (Kd.R_mono (Kd.R_far (p := ⟨gb766, 1, none⟩) (Kd.R_far (p := ⟨gb766, 0, none⟩) (Kd.R_far (p := ⟨gb765, 1, none⟩) (Kd.R_far (p := ⟨gb765, 0, none⟩) (Kd.R_types (Kd.R_types HO764.out BK765.out (by decide)) BK766.out (by decide)) (fun _ hk => hk.1.2) (.bool t757)) (fun _ hk => hk.1.2) (.slice Ao16 t758.length co16)) (fun _ hk => hk.2) (.bool t761)) (fun _ hk => hk.2) (.slice Ao18 t762.length co18)) (fun _ h_ => h_.1)) (fun _ h_ => h_.1))))) (below_size (by repeat (first | (with_reducible first | exact HB.out | apply below_alloc | apply pw_below_drewN | apply below_drew1 | refine below_set ?_ GE765.out | refine below_set ?_ GE766.out) | exact HB.out)))); have n3_ := Aside0.mk (Kd.R_lower (Kd.R_new' (Kd.R_new' ho1 (Kd.R_lt (by (with_reducible repeat (first | apply Kd.R_alloc | apply Kd.R_drewN | apply Kd.R_drew)); exact (Kd.R_mono (Kd.R_mono (Kd.R_far (p := ⟨gb766, 1, none⟩) (Kd.R_far (p := ⟨gb766, 0, none⟩) (Kd.R_far (p := ⟨gb765, 1, none⟩) (Kd.R_far (p := ⟨gb765, 0, none⟩) (Kd.R_types (Kd.R_types HO760.out BK765.out (by decide)) BK766.out (by decide)) (fun _ hk => hk.1.2) (.bool t757)) (fun _ hk => hk.1.2) (.slice Ao16 t758.length co16)) (fun _ hk => hk.2) (.bool t761)) (fun _ hk => hk.2) (.slice Ao18 t762.length co18)) (fun _ h_ => h_.1)) (fun _ h_ => h_.1))))) (Kd.R_lt (by (with_reducible repeat (first | apply Kd.R_alloc | apply Kd.R_drewN | apply Kd.R_drew)); exact (Kd.R_mono (Kd.R_mono (Kd.R_far (p := ⟨gb766, 1, none⟩) (Kd.R_far (p := ⟨gb766, 0, none⟩) (Kd.R_far (p := ⟨gb765, 1, none⟩) (Kd.R_far (p := ⟨gb765, 0, none⟩) (Kd.R_types (Kd.R_types HO764.out BK765.out (by decide)) BK766.out (by decide)) (fun _ hk => hk.1.2) (.bool t757)) (fun _ hk => hk.1.2) (.slice Ao16 t758.length co16)) (fun _ hk => hk.2) (.bool t761)) (fun _ hk => hk.2) (.slice Ao18 t762.length co18)) (fun _ h_ => h_.1)) (fun _ h_ => h_.1))))) (below_size (by repeat (first | (with_reducible first | exact HB.out | apply below_alloc | apply pw_below_drewN | apply below_drew1 | refine below_set ?_ GE765.out | refine below_set ?_ GE766.out) | exact HB.out)))); have n4_ := Aside0.mk (blk_below (g := gb765) (o := .cells #[.bool t757, .slice Ao16 t758.length co16] 27 (0, 0)) (by (with_reducible repeat (first | refine blk_drewN ?_ _ | refine blk_drew ?_ | refine blk_alloc ?_ _)); refine blk_far ?_ NB765_766.out _; (with_reducible repeat (first | refine blk_drewN ?_ _ | refine blk_drew ?_ | refine blk_alloc ?_ _)); refine blk_far ?_ NB765_766.out _; (with_reducible repeat (first | refine blk_drewN ?_ _ | refine blk_drew ?_ | refine blk_alloc ?_ _)); refine blk_put (cs := #[.bool t757, .slice none 0 0]) ?_ 1 _ rfl; (with_reducible repeat (first | refine blk_drewN ?_ _ | refine blk_drew ?_ | refine blk_alloc ?_ _)); refine blk_put (cs := #[.bool false, .slice none 0 0]) ?_ 0 _ rfl; (with_reducible repeat (first | refine blk_drewN ?_ _ | refine blk_drew ?_ | refine blk_alloc ?_ _)); exact BK765.out) hb); have n5_ := Aside0.mk (blk_below (g := gb766) (o := .cells #[.bool t761, .slice Ao18 t762.length co18] 27 (0, 0)) (by (with_reducible repeat (first | refine blk_drewN ?_ _ | refine blk_drew ?_ | refine blk_alloc ?_ _)); refine blk_put (cs := #[.bool t761, .slice none 0 0]) ?_ 1 _ rfl; (with_reducible repeat (first | refine blk_drewN ?_ _ | refine blk_drew ?_ | refine blk_alloc ?_ _)); refine blk_put (cs := #[.bool false, .slice none 0 0]) ?_ 0 _ rfl; (with_reducible repeat (first | refine blk_drewN ?_ _ | refine blk_drew ?_ | refine blk_alloc ?_ _)); refine blk_far ?_ NB766_765.out _; (with_reducible repeat (first | refine blk_drewN ?_ _ | refine blk_drew ?_ | refine blk_alloc ?_ _)); refine blk_far ?_ NB766_765.out _; (with_reducible repeat (first | refine blk_drewN ?_ _ | refine blk_drew ?_ | refine blk_alloc ?_ _)); exact BK766.out) hb); have n6_ := Aside0.mk (below_step (by repeat (first | (with_reducible first | exact HB.out | apply below_alloc | apply pw_below_drewN | apply below_drew1 | refine below_set ?_ GE765.out | refine below_set ?_ GE766.out) | exact HB.out)) hb); clear HO760; clear HO764; clear BK765; clear BK766; clear HB; have HO760 := n0_; have HO764 := n1_; have HO770 := n2_; have HO774 := n3_; have BK765 := n4_; have BK766 := n5_; have HB := n6_; clear n0_ n1_ n2_ n3_ n4_ n5_ n6_; (try clear hb); (try clear hb2); (try clear hk); (try clear hi); (try clear ho0); (try clear ho1)) | ((with_reducible refine gate_dst (N := 7) rfl ?_); (try (refine gate_guard (by rfl) ?_; dsimp only)); refine box_event ?hg (N := 7) ?hd (cs := #[.bool false, .slice none 0 0]) (t := 27) ?hr ?_; (case hd => rfl); (case hg => rfl); (case hr => first | (go_simp; done) | (go_simp; rfl)); intro gb775 hg w20 hbox hb; have n0_ := Aside0.mk (Kd.R_below (by (with_reducible repeat (first | apply Kd.R_alloc | apply Kd.R_drewN | apply Kd.R_drew)); exact HO760.out) hb); have n1_ := Aside0.mk (Kd.R_below (by (with_reducible repeat (first | apply Kd.R_alloc | apply Kd.R_drewN | apply Kd.R_drew)); exact HO764.out) hb); have n2_ := Aside0.mk (Kd.R_below (by (with_reducible repeat (first | apply Kd.R_alloc | apply Kd.R_drewN | apply Kd.R_drew)); exact HO770.out) hb); have n3_ := Aside0.mk (Kd.R_below (by (with_reducible repeat (first | apply Kd.R_alloc | apply Kd.R_drewN | apply Kd.R_drew)); exact HO774.out) hb); have n4_ := Aside0.mk (blk_below (g := gb765) (o := .cells #[.bool t757, .slice Ao16 t758.length co16] 27 (0, 0)) (by (with_reducible repeat (first | refine blk_drewN ?_ _ | refine blk_drew ?_ | refine blk_alloc ?_ _)); exact BK765.out) hb); have n5_ := Aside0.mk (blk_below (g := gb766) (o := .cells #[.bool t761, .slice Ao18 t762.length co18] 27 (0, 0)) (by (with_reducible repeat (first | refine blk_drewN ?_ _ | refine blk_drew ?_ | refine blk_alloc ?_ _)); exact BK766.out) hb); have n6_ := Aside0.mk (below_step (by repeat (first | (with_reducible first | exact HB.out | apply below_alloc | apply pw_below_drewN | apply below_drew1 | refine below_set ?_ GE765.out | refine below_set ?_ GE766.out) | exact HB.out)) hb); have n7_ := Aside0.mk (hbox); have n8_ := Aside0.mk ((by rw [hg]; exact (below_size (by repeat (first | (with_reducible first | exact HB.out | apply below_alloc | apply pw_below_drewN | apply below_drew1 | refine below_set ?_ GE765.out | refine below_set ?_ GE766.out) | exact HB.out))) : w.heap.size ≤ gb775)); have n9_ := Aside0.mk ((by rw [hg]; exact (below_size (by repeat (first | (with_reducible first | exact HB.out | apply below_alloc | apply pw_below_drewN | apply below_drew1 | refine below_set ?_ GE765.out | refine below_set ?_ GE766.out) | exact HB.out))) : w.heap.size ≤ gb775)); have n10_ := Aside0.mk ((by rw [hg]; exact Nat.ne_of_lt (blk_lt (g := gb765) (o := .cells #[.bool t757, .slice Ao16 t758.length co16] 27 (0, 0)) (by (with_reducible repeat (first | refine blk_drewN ?_ _ | refine blk_drew ?_ | refine blk_alloc ?_ _)); exact BK765.out)) : gb765 ≠ gb775)); have n11_ := Aside0.mk ((by rw [hg]; exact Nat.ne_of_gt (blk_lt (g := gb765) (o := .cells #[.bool t757, .slice Ao16 t758.length co16] 27 (0, 0)) (by (with_reducible repeat (first | refine blk_drewN ?_ _ | refine blk_drew ?_ | refine blk_alloc ?_ _)); exact BK765.out)) : gb775 ≠ gb765)); have n12_ := Aside0.mk ((by rw [hg]; exact Nat.ne_of_lt (blk_lt (g := gb766) (o := .cells #[.bool t761, .slice Ao18 t762.length co18] 27 (0, 0)) (by (with_reducible repeat (first | refine blk_drewN ?_ _ | refine blk_drew ?_ | refine blk_alloc ?_ _)); exact BK766.out)) : gb766 ≠ gb775)); have n13_ := Aside0.mk ((by rw [hg]; exact Nat.ne_of_gt (blk_lt (g := gb766) (o := .cells #[.bool t761, .slice Ao18 t762.length co18] 27 (0, 0)) (by (with_reducible repeat (first | refine blk_drewN ?_ _ | refine blk_drew ?_ | refine blk_alloc ?_ _)); exact BK766.out)) : gb775 ≠ gb766)); clear HO760; clear HO764; clear HO770; clear HO774; clear BK765; clear BK766; clear HB; have HO760 := n0_; have HO764 := n1_; have HO770 := n2_; have HO774 := n3_; have BK765 := n4_; have BK766 := n5_; have HB := n6_; have BK775 := n7_; have GW775 := n8_; have GE775 := n9_; have NB765_775 := n10_; have NB775_765 := n11_; have NB766_775 := n12_; have NB775_766 := n13_; clear n0_ n1_ n2_ n3_ n4_ n5_ n6_ n7_ n8_ n9_ n10_ n11_ n12_ n13_; clear hb hbox hg) | ((with_reducible refine gate_dst (N := 8) rfl ?_); (try (refine gate_guard (by rfl) ?_; dsimp only)); refine box_event ?hg (N := 8) ?hd (cs := #[.bool false, .slice none 0 0]) (t := 27) ?hr ?_; (case hd => rfl); (case hg => rfl); (case hr => first | (go_simp; done) | (go_simp; rfl)); intro gb776 hg w21 hbox hb; have n0_ := Aside0.mk (Kd.R_below (by (with_reducible repeat (first | apply Kd.R_alloc | apply Kd.R_drewN | apply Kd.R_drew)); exact HO760.out) hb); have n1_ := Aside0.mk (Kd.R_below (by (with_reducible repeat (first | apply Kd.R_alloc | apply Kd.R_drewN | apply Kd.R_drew)); exact HO764.out) hb); have n2_ := Aside0.mk (Kd.R_below (by (with_reducible repeat (first | apply Kd.R_alloc | apply Kd.R_drewN | apply Kd.R_drew)); exact HO770.out) hb); have n3_ := Aside0.mk (Kd.R_below (by (with_reducible repeat (first | apply Kd.R_alloc | apply Kd.R_drewN | apply Kd.R_drew)); exact HO774.out) hb); have n4_ := Aside0.mk (blk_below (g := gb765) (o := .cells #[.bool t757, .slice Ao16 t758.length co16] 27 (0, 0)) (by (with_reducible repeat (first | refine blk_drewN ?_ _ | refine blk_drew ?_ | refine blk_alloc ?_ _)); exact BK765.out) hb); have n5_ := Aside0.mk (blk_below (g := gb766) (o := .cells #[.bool t761, .slice Ao18 t762.length co18] 27 (0, 0)) (by (with_reducible repeat (first | refine blk_drewN ?_ _ | refine blk_drew ?_ | refine blk_alloc ?_ _)); exact BK766.out) hb); have n6_ := Aside0.mk (blk_below (g := gb775) (o := .cells #[.bool false, .slice none 0 0] 27 (0, 0)) (by (with_reducible repeat (first | refine blk_drewN ?_ _ | refine blk_drew ?_ | refine blk_alloc ?_ _)); exact BK775.out) hb); have n7_ := Aside0.mk (below_step (by repeat (first | (with_reducible first | exact HB.out | apply below_alloc | apply pw_below_drewN | apply below_drew1 | refine below_set ?_ GE765.out | refine below_set ?_ GE766.out | refine below_set ?_ GE775.out) | exact HB.out)) hb); have n8_ := Aside0.mk (hbox); have n9_ := Aside0.mk ((by rw [hg]; exact (below_size (by repeat (first | (with_reducible first | exact HB.out | apply below_alloc | apply pw_below_drewN | apply below_drew1 | refine below_set ?_ GE765.out | refine below_set ?_ GE766.out | refine below_set ?_ GE775.out) | exact HB.out))) : w.heap.size ≤ gb776)); have n10_ := Aside0.mk ((by rw [hg]; exact (below_size (by repeat (first | (with_reducible first | exact HB.out | apply below_alloc | apply pw_below_drewN | apply below_drew1 | refine below_set ?_ GE765.out | refine below_set ?_ GE766.out | refine below_set ?_ GE775.out) | exact HB.out))) : w.heap.size ≤ gb776)); have n11_ := Aside0.mk ((by rw [hg]; exact Nat.ne_of_lt (blk_lt (g := gb765) (o := .cells #[.bool t757, .slice Ao16 t758.length co16] 27 (0, 0)) (by (with_reducible repeat (first | refine blk_drewN ?_ _ | refine blk_drew ?_ | refine blk_alloc ?_ _)); exact BK765.out)) : gb765 ≠ gb776)); have n12_ := Aside0.mk ((by rw [hg]; exact Nat.ne_of_gt (blk_lt (g := gb765) (o := .cells #[.bool t757, .slice Ao16 t758.length co16] 27 (0, 0)) (by (with_reducible repeat (first | refine blk_drewN ?_ _ | refine blk_drew ?_ | refine blk_alloc ?_ _)); exact BK765.out)) : gb776 ≠ gb765)); have n13_ := Aside0.mk ((by rw [hg]; exact Nat.ne_of_lt (blk_lt (g := gb766) (o := .cells #[.bool t761, .slice Ao18 t762.length co18] 27 (0, 0)) (by (with_reducible repeat (first | refine blk_drewN ?_ _ | refine blk_drew ?_ | refine blk_alloc ?_ _)); exact BK766.out)) : gb766 ≠ gb776)); have n14_ := Aside0.mk ((by rw [hg]; exact Nat.ne_of_gt (blk_lt (g := gb766) (o := .cells #[.bool t761, .slice Ao18 t762.length co18] 27 (0, 0)) (by (with_reducible repeat (first | refine blk_drewN ?_ _ | refine blk_drew ?_ | refine blk_alloc ?_ _)); exact BK766.out)) : gb776 ≠ gb766)); have n15_ := Aside0.mk ((by rw [hg]; exact Nat.ne_of_lt (blk_lt (g := gb775) (o := .cells #[.bool false, .slice none 0 0] 27 (0, 0)) (by (with_reducible repeat (first | refine blk_drewN ?_ _ | refine blk_drew ?_ | refine blk_alloc ?_ _)); exact BK775.out)) : gb775 ≠ gb776)); have n16_ := Aside0.mk ((by rw [hg]; exact Nat.ne_of_gt (blk_lt (g := gb775) (o := .cells #[.bool false, .slice none 0 0] 27 (0, 0)) (by (with_reducible repeat (first | refine blk_drewN ?_ _ | refine blk_drew ?_ | refine blk_alloc ?_ _)); exact BK775.out)) : gb776 ≠ gb775)); clear HO760; clear HO764; clear HO770; clear HO774; clear BK765; clear BK766; clear BK775; clear HB; have HO760 := n0_; have HO764 := n1_; have HO770 := n2_; have HO774 := n3_; have BK765 := n4_; have BK766 := n5_; have BK775 := n6_; have HB := n7_; have BK776 := n8_; have GW776 := n9_; have GE776 := n10_; have NB765_776 := n11_; have NB776_765 := n12_; have NB766_776 := n13_; have NB776_766 := n14_; have NB775_776 := n15_; have NB776_775 := n16_; clear n0_ n1_ n2_ n3_ n4_ n5_ n6_ n7_ n8_ n9_ n10_ n11_ n12_ n13_ n14_ n15_ n16_; clear hb hbox hg; have hnb22 := NB775_765.out; have hnc22 := NB765_775.out; have hnb23 := NB775_766.out; have hnc23 := NB766_775.out; have hnb24 := NB775_776.out; have hnc24 := NB776_775.out; have hcz25_0 : w21.cell? ⟨gb775, 0, none⟩ = some (.bool false) := (blk_cell BK775.out 0).trans rfl; have hcz25_1 : w21.cell? ⟨gb775, 1, none⟩ = some (.slice none 0 0) := (blk_cell BK775.out 1).trans rfl; have hfz25_0 := blk_frozen BK775.out 0; have hfz25_1 := blk_frozen BK775.out 1; obtain ⟨Ao26, co26, eo26⟩ := Kd.R_slice HO770.out; subst eo26; have hnb27 := NB776_765.out; have hnc27 := NB765_776.out; have hnb28 := NB776_766.out; have hnc28 := NB766_776.out; have hcz29_0 : w21.cell? ⟨gb776, 0, none⟩ = some (.bool false) := (blk_cell BK776.out 0).trans rfl; have hcz29_1 : w21.cell? ⟨gb776, 1, none⟩ = some (.slice none 0 0) := (blk_cell BK776.out 1).trans rfl; have hfz29_0 := blk_frozen BK776.out 0; have hfz29_1 := blk_frozen BK776.out 1; obtain ⟨Ao30, co30, eo30⟩ := Kd.R_slice HO774.out; subst eo30; have hcz31_0 : w21.cell? ⟨gb765, 0, none⟩ = some (.bool t757) := (blk_cell BK765.out 0).trans rfl; have hcz31_1 : w21.cell? ⟨gb765, 1, none⟩ = some (.slice Ao16 t758.length co16) := (blk_cell BK765.out 1).trans rfl; have hfz31_0 := blk_frozen BK765.out 0; have hfz31_1 := blk_frozen BK765.out 1; have hcz32_0 : w21.cell? ⟨gb766, 0, none⟩ = some (.bool t761) := (blk_cell BK766.out 0).trans rfl; have hcz32_1 : w21.cell? ⟨gb766, 1, none⟩ = some (.slice Ao18 t762.length co18) := (blk_cell BK766.out 1).trans rfl; have hfz32_0 := blk_frozen BK766.out 0; have hfz32_1 := blk_frozen BK766.out 1) | ((with_reducible refine gate_callee (f := 35) rfl ?_); refine goesL_ (some 31) rfl rfl Try.func35 (by kernel_rfl) rfl #[.agg #[.bool t757, .slice Ao16 t758.length co16], .agg #[.bool t761, .slice Ao18 t762.length co18]] rfl (by (try simp only [List.map_toArray, List.map_cons, List.map_nil]); first | done | rfl | (simp only [List.length_drop, List.length_take]; rfl)) ?_; (with_reducible refine (impl_BigCmp.calls kj2 t757 _ _ t758 t761 _ _ t762 t777 _ ?side1 ?side2 ?side3 ?side4 A8.out).mono ?_); (case side1 => refine (Kd.R_reads' (e := 3) (base := w.heap.size) (ok := fun k_ => ((some k_ ≠ (.slice Ao18 t762.length co18 : Value).ownBlock ∧ some k_ ≠ (.slice Ao26 t768.length co26 : Value).ownBlock) ∧ some k_ ≠ (.slice Ao30 t772.length co30 : Value).ownBlock)) (n := t758.length) (c := co16) ?_).2.2; exact (by (with_reducible repeat (first | apply Kd.R_alloc | apply Kd.R_drewN | apply Kd.R_drew)); exact (Kd.R_mono (Kd.R_mono (Kd.R_far (p := ⟨gb776, 1, none⟩) (Kd.R_far (p := ⟨gb776, 0, none⟩) (Kd.R_far (p := ⟨gb775, 1, none⟩) (Kd.R_far (p := ⟨gb775, 0, none⟩) (Kd.R_types (Kd.R_types HO760.out BK775.out (by decide)) BK776.out (by decide)) (fun _ hk => hk.1.2) (.bool t767)) (fun _ hk => hk.1.2) (.slice Ao26 t768.length co26)) (fun _ hk => hk.2) (.bool t771)) (fun _ hk => hk.2) (.slice Ao30 t772.length co30)) (fun _ h_ => h_.1)) (fun _ h_ => h_.1)))); (case side2 => exact (Kd.R_reads' HO760.out).2.1); (case side3 => refine (Kd.R_reads' (e := 3) (base := w.heap.size) (ok := fun k_ => ((some k_ ≠ (.slice Ao16 t758.length co16 : Value).ownBlock ∧ some k_ ≠ (.slice Ao26 t768.length co26 : Value).ownBlock) ∧ some k_ ≠ (.slice Ao30 t772.length co30 : Value).ownBlock)) (n := t762.length) (c := co18) ?_).2.2; exact (by (with_reducible repeat (first | apply Kd.R_alloc | apply Kd.R_drewN | apply Kd.R_drew)); exact (Kd.R_mono (Kd.R_mono (Kd.R_far (p := ⟨gb776, 1, none⟩) (Kd.R_far (p := ⟨gb776, 0, none⟩) (Kd.R_far (p := ⟨gb775, 1, none⟩) (Kd.R_far (p := ⟨gb775, 0, none⟩) (Kd.R_types (Kd.R_types HO764.out BK775.out (by decide)) BK776.out (by decide)) (fun _ hk => hk.1.2) (.bool t767)) (fun _ hk => hk.1.2) (.slice Ao26 t768.length co26)) (fun _ hk => hk.2) (.bool t771)) (fun _ hk => hk.2) (.slice Ao30 t772.length co30)) (fun _ h_ => h_.1)) (fun _ h_ => h_.1)))); (case side4 => exact (Kd.R_reads' HO764.out).2.1); rintro e w33 ⟨rfl, hb⟩; refine ⟨_, rfl, ?_⟩; have n0_ := Aside0.mk (Kd.R_below (by (with_reducible repeat (first | apply Kd.R_alloc | apply Kd.R_drewN | apply Kd.R_drew)); exact (Kd.R_mono (Kd.R_mono (Kd.R_far (p := ⟨gb776, 1, none⟩) (Kd.R_far (p := ⟨gb776, 0, none⟩) (Kd.R_far (p := ⟨gb775, 1, none⟩) (Kd.R_far (p := ⟨gb775, 0, none⟩) (Kd.R_types (Kd.R_types HO760.out BK775.out (by decide)) BK776.out (by decide)) (fun _ hk => hk.1.2) (.bool t767)) (fun _ hk => hk.1.2) (.slice Ao26 t768.length co26)) (fun _ hk => hk.2) (.bool t771)) (fun _ hk => hk.2) (.slice Ao30 t772.length co30)) (fun _ h_ => h_.1)) (fun _ h_ => h_.1))) hb); have n1_ := Aside0.mk (Kd.R_below (by (with_reducible repeat (first | apply Kd.R_alloc | apply Kd.R_drewN | apply Kd.R_drew)); exact (Kd.R_mono (Kd.R_mono (Kd.R_far (p := ⟨gb776, 1, none⟩) (Kd.R_far (p := ⟨gb776, 0, none⟩) (Kd.R_far (p := ⟨gb775, 1, none⟩) (Kd.R_far (p := ⟨gb775, 0, none⟩) (Kd.R_types (Kd.R_types HO764.out BK775.out (by decide)) BK776.out (by decide)) (fun _ hk => hk.1.2) (.bool t767)) (fun _ hk => hk.1.2) (.slice Ao26 t768.length co26)) (fun _ hk => hk.2) (.bool t771)) (fun _ hk => hk.2) (.slice Ao30 t772.length co30)) (fun _ h_ => h_.1)) (fun _ h_ => h_.1))) hb); have n2_ := Aside0.mk (Kd.R_below (by (with_reducible repeat (first | apply Kd.R_alloc | apply Kd.R_drewN | apply Kd.R_drew)); exact (Kd.R_mono (Kd.R_mono (Kd.R_far (p := ⟨gb776, 1, none⟩) (Kd.R_far (p := ⟨gb776, 0, none⟩) (Kd.R_far (p := ⟨gb775, 1, none⟩) (Kd.R_far (p := ⟨gb775, 0, none⟩) (Kd.R_types (Kd.R_types HO770.out BK775.out (by decide)) BK776.out (by decide)) (fun _ hk => hk.1.2) (.bool t767)) (fun _ hk => hk.1.2) (.slice Ao26 t768.length co26)) (fun _ hk => hk.2) (.bool t771)) (fun _ hk => hk.2) (.slice Ao30 t772.length co30)) (fun _ h_ => h_.1)) (fun _ h_ => h_.1))) hb); have n3_ := Aside0.mk (Kd.R_below (by (with_reducible repeat (first | apply Kd.R_alloc | apply Kd.R_drewN | apply Kd.R_drew)); exact (Kd.R_mono (Kd.R_mono (Kd.R_far (p := ⟨gb776, 1, none⟩) (Kd.R_far (p := ⟨gb776, 0, none⟩) (Kd.R_far (p := ⟨gb775, 1, none⟩) (Kd.R_far (p := ⟨gb775, 0, none⟩) (Kd.R_types (Kd.R_types HO774.out BK775.out (by decide)) BK776.out (by decide)) (fun _ hk => hk.1.2) (.bool t767)) (fun _ hk => hk.1.2) (.slice Ao26 t768.length co26)) (fun _ hk => hk.2) (.bool t771)) (fun _ hk => hk.2) (.slice Ao30 t772.length co30)) (fun _ h_ => h_.1)) (fun _ h_ => h_.1))) hb); have n4_ := Aside0.mk (blk_below (g := gb765) (o := .cells #[.bool t757, .slice Ao16 t758.length co16] 27 (0, 0)) (by (with_reducible repeat (first | refine blk_drewN ?_ _ | refine blk_drew ?_ | refine blk_alloc ?_ _)); refine blk_far ?_ NB765_776.out _; (with_reducible repeat (first | refine blk_drewN ?_ _ | refine blk_drew ?_ | refine blk_alloc ?_ _)); refine blk_far ?_ NB765_776.out _; (with_reducible repeat (first | refine blk_drewN ?_ _ | refine blk_drew ?_ | refine blk_alloc ?_ _)); refine blk_far ?_ NB765_775.out _; (with_reducible repeat (first | refine blk_drewN ?_ _ | refine blk_drew ?_ | refine blk_alloc ?_ _)); refine blk_far ?_ NB765_775.out _; (with_reducible repeat (first | refine blk_drewN ?_ _ | refine blk_drew ?_ | refine blk_alloc ?_ _)); exact BK765.out) hb); have n5_ := Aside0.mk (blk_below (g := gb766) (o := .cells #[.bool t761, .slice Ao18 t762.length co18] 27 (0, 0)) (by (with_reducible repeat (first | refine blk_drewN ?_ _ | refine blk_drew ?_ | refine blk_alloc ?_ _)); refine blk_far ?_ NB766_776.out _; (with_reducible repeat (first | refine blk_drewN ?_ _ | refine blk_drew ?_ | refine blk_alloc ?_ _)); refine blk_far ?_ NB766_776.out _; (with_reducible repeat (first | refine blk_drewN ?_ _ | refine blk_drew ?_ | refine blk_alloc ?_ _)); refine blk_far ?_ NB766_775.out _; (with_reducible repeat (first | refine blk_drewN ?_ _ | refine blk_drew ?_ | refine blk_alloc ?_ _)); refine blk_far ?_ NB766_775.out _; (with_reducible repeat (first | refine blk_drewN ?_ _ | refine blk_drew ?_ | refine blk_alloc ?_ _)); exact BK766.out) hb); have n6_ := Aside0.mk (blk_below (g := gb775) (o := .cells #[.bool t767, .slice Ao26 t768.length co26] 27 (0, 0)) (by (with_reducible repeat (first | refine blk_drewN ?_ _ | refine blk_drew ?_ | refine blk_alloc ?_ _)); refine blk_far ?_ NB775_776.out _; (with_reducible repeat (first | refine blk_drewN ?_ _ | refine blk_drew ?_ | refine blk_alloc ?_ _)); refine blk_far ?_ NB775_776.out _; (with_reducible repeat (first | refine blk_drewN ?_ _ | refine blk_drew ?_ | refine blk_alloc ?_ _)); refine blk_put (cs := #[.bool t767, .slice none 0 0]) ?_ 1 _ rfl; (with_reducible repeat (first | refine blk_drewN ?_ _ | refine blk_drew ?_ | refine blk_alloc ?_ _)); refine blk_put (cs := #[.bool false, .slice none 0 0]) ?_ 0 _ rfl; (with_reducible repeat (first | refine blk_drewN ?_ _ | refine blk_drew ?_ | refine blk_alloc ?_ _)); exact BK775.out) hb); have n7_ := Aside0.mk (blk_below (g := gb776) (o := .cells #[.bool t771, .slice Ao30 t772.length co30] 27 (0, 0)) (by (with_reducible repeat (first | refine blk_drewN ?_ _ | refine blk_drew ?_ | refine blk_alloc ?_ _)); refine blk_put (cs := #[.bool t771, .slice none 0 0]) ?_ 1 _ rfl; (with_reducible repeat (first | refine blk_drewN ?_ _ | refine blk_drew ?_ | refine blk_alloc ?_ _)); refine blk_put (cs := #[.bool false, .slice none 0 0]) ?_ 0 _ rfl; (with_reducible repeat (first | refine blk_drewN ?_ _ | refine blk_drew ?_ | refine blk_alloc ?_ _)); refine blk_far ?_ NB776_775.out _; (with_reducible repeat (first | refine blk_drewN ?_ _ | refine blk_drew ?_ | refine blk_alloc ?_ _)); refine blk_far ?_ NB776_775.out _; (with_reducible repeat (first | refine blk_drewN ?_ _ | refine blk_drew ?_ | refine blk_alloc ?_ _)); exact BK776.out) hb); have n8_ := Aside0.mk (below_step (by repeat (first | (with_reducible first | exact HB.out | apply below_alloc | apply pw_below_drewN | apply below_drew1 | refine below_set ?_ GE765.out | refine below_set ?_ GE766.out | refine below_set ?_ GE775.out | refine below_set ?_ GE776.out) | exact HB.out)) hb); clear HO760; clear HO764; clear HO770; clear HO774; clear BK765; clear BK766; clear BK775; clear BK776; clear HB; have HO760 := n0_; have HO764 := n1_; have HO770 := n2_; have HO774 := n3_; have BK765 := n4_; have BK766 := n5_; have BK775 := n6_; have BK776 := n7_; have HB := n8_; clear n0_ n1_ n2_ n3_ n4_ n5_ n6_ n7_ n8_; (try clear hb); (try clear hb2); (try clear hk); (try clear hi); have hcz34_0 : w33.cell? ⟨gb766, 0, none⟩ = some (.bool t761) := (blk_cell BK766.out 0).trans rfl; have hcz34_1 : w33.cell? ⟨gb766, 1, none⟩ = some (.slice Ao18 t762.length co18) := (blk_cell BK766.out 1).trans rfl; have hfz34_0 := blk_frozen BK766.out 0; have hfz34_1 := blk_frozen BK766.out 1; have hcz35_0 : w33.cell? ⟨gb775, 0, none⟩ = some (.bool t767) := (blk_cell BK775.out 0).trans rfl; have hcz35_1 : w33.cell? ⟨gb775, 1, none⟩ = some (.slice Ao26 t768.length co26) := (blk_cell BK775.out 1).trans rfl; have hfz35_0 := blk_frozen BK775.out 0; have hfz35_1 := blk_frozen BK775.out 1) | ((with_reducible refine gate_callee (f := 35) rfl ?_); refine goesL_ (some 34) rfl rfl Try.func35 (by kernel_rfl) rfl #[.agg #[.bool t761, .slice Ao18 t762.length co18], .agg #[.bool t767, .slice Ao26 t768.length co26]] rfl (by (try simp only [List.map_toArray, List.map_cons, List.map_nil]); first | done | rfl | (simp only [List.length_drop, List.length_take]; rfl)) ?_; (with_reducible refine (impl_BigCmp.calls kj2 t761 _ _ t762 t767 _ _ t768 t778 _ ?side1 ?side2 ?side3 ?side4 A9.out).mono ?_); (case side1 => repeat (first | exact (Kd.R_reads' HO764.out).2.2 | (with_reducible refine Kd.C_alloc ?_ _) | (with_reducible refine Kd.C_drewN ?_ _) | (with_reducible refine Kd.C_drew ?_))); (case side2 => exact (Kd.R_reads' HO764.out).2.1); (case side3 => repeat (first | exact (Kd.R_reads' HO770.out).2.2 | (with_reducible refine Kd.C_alloc ?_ _) | (with_reducible refine Kd.C_drewN ?_ _) | (with_reducible refine Kd.C_drew ?_))); (case side4 => exact (Kd.R_reads' HO770.out).2.1); rintro e w36 ⟨rfl, hb⟩; refine ⟨_, rfl, ?_⟩; have n0_ := Aside0.mk (Kd.R_below (by (with_reducible repeat (first | apply Kd.R_alloc | apply Kd.R_drewN | apply Kd.R_drew)); exact HO760.out) hb); have n1_ := Aside0.mk (Kd.R_below (by (with_reducible repeat (first | apply Kd.R_alloc | apply Kd.R_drewN | apply Kd.R_drew)); exact HO764.out) hb); have n2_ := Aside0.mk (Kd.R_below (by (with_reducible repeat (first | apply Kd.R_alloc | apply Kd.R_drewN | apply Kd.R_drew)); exact HO770.out) hb); have n3_ := Aside0.mk (Kd.R_below (by (with_reducible repeat (first | apply Kd.R_alloc | apply Kd.R_drewN | apply Kd.R_drew)); exact HO774.out) hb); have n4_ := Aside0.mk (blk_below (g := gb765) (o := .cells #[.bool t757, .slice Ao16 t758.length co16] 27 (0, 0)) (by (with_reducible repeat (first | refine blk_drewN ?_ _ | refine blk_drew ?_ | refine blk_alloc ?_ _)); exact BK765.out) hb); have n5_ := Aside0.mk (blk_below (g := gb766) (o := .cells #[.bool t761, .slice Ao18 t762.length co18] 27 (0, 0)) (by (with_reducible repeat (first | refine blk_drewN ?_ _ | refine blk_drew ?_ | refine blk_alloc ?_ _)); exact BK766.out) hb); have n6_ := Aside0.mk (blk_below (g := gb775) (o := .cells #[.bool t767, .slice Ao26 t768.length co26] 27 (0, 0)) (by (with_reducible repeat (first | refine blk_drewN ?_ _ | refine blk_drew ?_ | refine blk_alloc ?_ _)); exact BK775.out) hb); have n7_ := Aside0.mk (blk_below (g := gb776) (o := .cells #[.bool t771, .slice Ao30 t772.length co30] 27 (0, 0)) (by (with_reducible repeat (first | refine blk_drewN ?_ _ | refine blk_drew ?_ | refine blk_alloc ?_ _)); exact BK776.out) hb); have n8_ := Aside0.mk (below_step (by repeat (first | (with_reducible first | exact HB.out | apply below_alloc | apply pw_below_drewN | apply below_drew1 | refine below_set ?_ GE765.out | refine below_set ?_ GE766.out | refine below_set ?_ GE775.out | refine below_set ?_ GE776.out) | exact HB.out)) hb); clear HO760; clear HO764; clear HO770; clear HO774; clear BK765; clear BK766; clear BK775; clear BK776; clear HB; have HO760 := n0_; have HO764 := n1_; have HO770 := n2_; have HO774 := n3_; have BK765 := n4_; have BK766 := n5_; have BK775 := n6_; have BK776 := n7_; have HB := n8_; clear n0_ n1_ n2_ n3_ n4_ n5_ n6_ n7_ n8_; (try clear hb); (try clear hb2); (try clear hk); (try clear hi)))
        (try simp only [Act.put, List.setIfInBounds_toArray, List.set_cons_zero, List.set_cons_succ])
        go_cut [54] (fun v54 wc => ∃ (kq : Nat) (x54_9 : Bool), v54 = .bool x54_9 ∧ Aside0 (laws_FnBigCmpThree.j1 kq t777 t778 x54_9 t757 t758 t761 t762 t767 t768 = some r) ∧ Aside0 (kq ≤ kj2) ∧ Aside0 (Kd.R (Kd.int .i64) 3 wc w.heap.size (fun k_ => some k_ ≠ ((.slice Ao18 t762.length co18) : Value).ownBlock ∧ some k_ ≠ ((.slice Ao26 t768.length co26) : Value).ownBlock ∧ some k_ ≠ ((.slice Ao30 t772.length co30) : Value).ownBlock) (.slice Ao16 t758.length co16) t758) ∧ Aside0 (Kd.R (Kd.int .i64) 3 wc w.heap.size (fun k_ => some k_ ≠ ((.slice Ao16 t758.length co16) : Value).ownBlock ∧ some k_ ≠ ((.slice Ao26 t768.length co26) : Value).ownBlock ∧ some k_ ≠ ((.slice Ao30 t772.length co30) : Value).ownBlock) (.slice Ao18 t762.length co18) t762) ∧ Aside0 (Kd.R (Kd.int .i64) 3 wc w.heap.size (fun k_ => some k_ ≠ ((.slice Ao16 t758.length co16) : Value).ownBlock ∧ some k_ ≠ ((.slice Ao18 t762.length co18) : Value).ownBlock ∧ some k_ ≠ ((.slice Ao30 t772.length co30) : Value).ownBlock) (.slice Ao26 t768.length co26) t768) ∧ Aside0 (Kd.R (Kd.int .i64) 3 wc w.heap.size (fun k_ => some k_ ≠ ((.slice Ao16 t758.length co16) : Value).ownBlock ∧ some k_ ≠ ((.slice Ao18 t762.length co18) : Value).ownBlock ∧ some k_ ≠ ((.slice Ao26 t768.length co26) : Value).ownBlock) (.slice Ao30 t772.length co30) t772) ∧ Aside0 (wc.heap[gb765]? = some (.cells #[.bool t757, (.slice Ao16 t758.length co16)] 27 (0, 0))) ∧ Aside0 (wc.heap[gb766]? = some (.cells #[.bool t761, (.slice Ao18 t762.length co18)] 27 (0, 0))) ∧ Aside0 (wc.heap[gb775]? = some (.cells #[.bool t767, (.slice Ao26 t768.length co26)] 27 (0, 0))) ∧ Aside0 (wc.heap[gb776]? = some (.cells #[.bool t771, (.slice Ao30 t772.length co30)] 27 (0, 0))) ∧ Aside0 (Below w.heap.size w wc))
        case first =>
          have H := HC10.out
          clear HC10
          replace H := Option.bind_eq_some_iff.mp H
          obtain ⟨t779, A370, H⟩ := H
          replace H : (if t777 = t779 then ((spec_BigCmp.f kj2 t761 t762 t767 t768).bind fun t780 => (if t778 = t780 then (if t777 = 2 then (laws_FnBigCmpThree.j1 kj2 t777 t778 true t757 t758 t761 t762 t767 t768) else (laws_FnBigCmpThree.j1 kj2 t777 t778 (t778 == 2) t757 t758 t761 t762 t767 t768)) else (laws_FnBigCmpThree.j1 kj2 t777 t778 true t757 t758 t761 t762 t767 t768))) else (laws_FnBigCmpThree.j1 kj2 t777 t778 true t757 t758 t761 t762 t767 t768)) = some r := H
          have A37 := Aside0.mk A370
          clear A370
          by_cases c38 : t777 = t779
          · rw [if_pos c38] at H
            have c38b0 : (t777 == t779) = true := beq_iff_eq.mpr c38
            have c38b1 : (t777 != t779) = false := bne_eq_false_iff_eq.mpr c38
            clear c38
            (first | rw [c38b0] | (simp only [i64_w, i32_w]; rw [c38b0]) | skip)
            replace H := Option.bind_eq_some_iff.mp H
            obtain ⟨t780, A390, H⟩ := H
            replace H : (if t778 = t780 then (if t777 = 2 then (laws_FnBigCmpThree.j1 kj2 t777 t778 true t757 t758 t761 t762 t767 t768) else (laws_FnBigCmpThree.j1 kj2 t777 t778 (t778 == 2) t757 t758 t761 t762 t767 t768)) else (laws_FnBigCmpThree.j1 kj2 t777 t778 true t757 t758 t761 t762 t767 t768)) = some r := H
            have A39 := Aside0.mk A390
            clear A390
            by_cases c40 : t778 = t780
            · rw [if_pos c40] at H
              have c40b0 : (t778 == t780) = true := beq_iff_eq.mpr c40
              have c40b1 : (t778 != t780) = false := bne_eq_false_iff_eq.mpr c40
              clear c40
              by_cases c41 : t777 = 2
              · rw [if_pos c41] at H
                have c41b0 : (t777 == 2) = true := beq_iff_eq.mpr c41
                have c41b1 : (t777 != 2) = false := bne_eq_false_iff_eq.mpr c41
                clear c41
                have H' := Aside0.mk H
                clear H
                have hnb42 := NB765_766.out
                have hnc42 := NB766_765.out
                have hnb43 := NB765_775.out
                have hnc43 := NB775_765.out
                have hnb44 := NB765_776.out
                have hnc44 := NB776_765.out
                have hcz45_0 : w36.cell? ⟨gb765, 0, none⟩ = some (.bool t757) := (blk_cell BK765.out 0).trans rfl
                have hcz45_1 : w36.cell? ⟨gb765, 1, none⟩ = some (.slice Ao16 t758.length co16) := (blk_cell BK765.out 1).trans rfl
                have hfz45_0 := blk_frozen BK765.out 0
                have hfz45_1 := blk_frozen BK765.out 1
                have hnb46 := NB766_775.out
                have hnc46 := NB775_766.out
                have hnb47 := NB766_776.out
                have hnc47 := NB776_766.out
                have hcz48_0 : w36.cell? ⟨gb766, 0, none⟩ = some (.bool t761) := (blk_cell BK766.out 0).trans rfl
                have hcz48_1 : w36.cell? ⟨gb766, 1, none⟩ = some (.slice Ao18 t762.length co18) := (blk_cell BK766.out 1).trans rfl
                have hfz48_0 := blk_frozen BK766.out 0
                have hfz48_1 := blk_frozen BK766.out 1
                go_wp2_with (first | ((with_reducible refine gate_callee (f := 34) rfl ?_); refine goesL_ (some 38) rfl rfl Try.func34 (by kernel_rfl) rfl #[.agg #[.bool t757, .slice Ao16 t758.length co16], .agg #[.bool t761, .slice Ao18 t762.length co18]] rfl (by (try simp only [List.map_toArray, List.map_cons, List.map_nil]); first | done | rfl | (simp only [List.length_drop, List.length_take]; rfl)) ?_; (with_reducible refine (spec_BigCmp.calls kj2 t757 _ _ t758 t761 _ _ t762 t779 _ ?side1 ?side2 ?side3 ?side4 A37.out).mono ?_); (case side1 => repeat (first | exact (Kd.R_reads' HO760.out).2.2 | (with_reducible refine Kd.C_alloc ?_ _) | (with_reducible refine Kd.C_drewN ?_ _) | (with_reducible refine Kd.C_drew ?_))); (case side2 => exact (Kd.R_reads' HO760.out).2.1); (case side3 => repeat (first | exact (Kd.R_reads' HO764.out).2.2 | (with_reducible refine Kd.C_alloc ?_ _) | (with_reducible refine Kd.C_drewN ?_ _) | (with_reducible refine Kd.C_drew ?_))); (case side4 => exact (Kd.R_reads' HO764.out).2.1); rintro e w49 ⟨rfl, hb⟩; refine ⟨_, rfl, ?_⟩; have n0_ := Aside0.mk (Kd.R_below (by (with_reducible repeat (first | apply Kd.R_alloc | apply Kd.R_drewN | apply Kd.R_drew)); exact HO760.out) hb); have n1_ := Aside0.mk (Kd.R_below (by (with_reducible repeat (first | apply Kd.R_alloc | apply Kd.R_drewN | apply Kd.R_drew)); exact HO764.out) hb); have n2_ := Aside0.mk (Kd.R_below (by (with_reducible repeat (first | apply Kd.R_alloc | apply Kd.R_drewN | apply Kd.R_drew)); exact HO770.out) hb); have n3_ := Aside0.mk (Kd.R_below (by (with_reducible repeat (first | apply Kd.R_alloc | apply Kd.R_drewN | apply Kd.R_drew)); exact HO774.out) hb); have n4_ := Aside0.mk (blk_below (g := gb765) (o := .cells #[.bool t757, .slice Ao16 t758.length co16] 27 (0, 0)) (by (with_reducible repeat (first | refine blk_drewN ?_ _ | refine blk_drew ?_ | refine blk_alloc ?_ _)); exact BK765.out) hb); have n5_ := Aside0.mk (blk_below (g := gb766) (o := .cells #[.bool t761, .slice Ao18 t762.length co18] 27 (0, 0)) (by (with_reducible repeat (first | refine blk_drewN ?_ _ | refine blk_drew ?_ | refine blk_alloc ?_ _)); exact BK766.out) hb); have n6_ := Aside0.mk (blk_below (g := gb775) (o := .cells #[.bool t767, .slice Ao26 t768.length co26] 27 (0, 0)) (by (with_reducible repeat (first | refine blk_drewN ?_ _ | refine blk_drew ?_ | refine blk_alloc ?_ _)); exact BK775.out) hb); have n7_ := Aside0.mk (blk_below (g := gb776) (o := .cells #[.bool t771, .slice Ao30 t772.length co30] 27 (0, 0)) (by (with_reducible repeat (first | refine blk_drewN ?_ _ | refine blk_drew ?_ | refine blk_alloc ?_ _)); exact BK776.out) hb); have n8_ := Aside0.mk (below_step (by repeat (first | (with_reducible first | exact HB.out | apply below_alloc | apply pw_below_drewN | apply below_drew1 | refine below_set ?_ GE765.out | refine below_set ?_ GE766.out | refine below_set ?_ GE775.out | refine below_set ?_ GE776.out) | exact HB.out)) hb); clear HO760; clear HO764; clear HO770; clear HO774; clear BK765; clear BK766; clear BK775; clear BK776; clear HB; have HO760 := n0_; have HO764 := n1_; have HO770 := n2_; have HO774 := n3_; have BK765 := n4_; have BK766 := n5_; have BK775 := n6_; have BK776 := n7_; have HB := n8_; clear n0_ n1_ n2_ n3_ n4_ n5_ n6_ n7_ n8_; (try clear hb); (try clear hb2); (try clear hk); (try clear hi); have hcz50_0 : w49.cell? ⟨gb766, 0, none⟩ = some (.bool t761) := (blk_cell BK766.out 0).trans rfl; have hcz50_1 : w49.cell? ⟨gb766, 1, none⟩ = some (.slice Ao18 t762.length co18) := (blk_cell BK766.out 1).trans rfl; have hfz50_0 := blk_frozen BK766.out 0; have hfz50_1 := blk_frozen BK766.out 1; have hnb51 := NB775_776.out; have hnc51 := NB776_775.out; have hcz52_0 : w49.cell? ⟨gb775, 0, none⟩ = some (.bool t767) := (blk_cell BK775.out 0).trans rfl; have hcz52_1 : w49.cell? ⟨gb775, 1, none⟩ = some (.slice Ao26 t768.length co26) := (blk_cell BK775.out 1).trans rfl; have hfz52_0 := blk_frozen BK775.out 0; have hfz52_1 := blk_frozen BK775.out 1) | (go_at_call 34; (with_reducible refine (spec_BigCmp.calls kj2 t761 _ _ t762 t767 _ _ t768 t780 _ ?side1 ?side2 ?side3 ?side4 A39.out).mono ?_); (case side1 => repeat (first | exact (Kd.R_reads' HO764.out).2.2 | (with_reducible refine Kd.C_alloc ?_ _) | (with_reducible refine Kd.C_drewN ?_ _) | (with_reducible refine Kd.C_drew ?_))); (case side2 => exact (Kd.R_reads' HO764.out).2.1); (case side3 => repeat (first | exact (Kd.R_reads' HO770.out).2.2 | (with_reducible refine Kd.C_alloc ?_ _) | (with_reducible refine Kd.C_drewN ?_ _) | (with_reducible refine Kd.C_drew ?_))); (case side4 => exact (Kd.R_reads' HO770.out).2.1); rintro e w53 ⟨rfl, hb⟩; have n0_ := Aside0.mk (Kd.R_below (by (with_reducible repeat (first | apply Kd.R_alloc | apply Kd.R_drewN | apply Kd.R_drew)); exact HO760.out) hb); have n1_ := Aside0.mk (Kd.R_below (by (with_reducible repeat (first | apply Kd.R_alloc | apply Kd.R_drewN | apply Kd.R_drew)); exact HO764.out) hb); have n2_ := Aside0.mk (Kd.R_below (by (with_reducible repeat (first | apply Kd.R_alloc | apply Kd.R_drewN | apply Kd.R_drew)); exact HO770.out) hb); have n3_ := Aside0.mk (Kd.R_below (by (with_reducible repeat (first | apply Kd.R_alloc | apply Kd.R_drewN | apply Kd.R_drew)); exact HO774.out) hb); have n4_ := Aside0.mk (blk_below (g := gb765) (o := .cells #[.bool t757, .slice Ao16 t758.length co16] 27 (0, 0)) (by (with_reducible repeat (first | refine blk_drewN ?_ _ | refine blk_drew ?_ | refine blk_alloc ?_ _)); exact BK765.out) hb); have n5_ := Aside0.mk (blk_below (g := gb766) (o := .cells #[.bool t761, .slice Ao18 t762.length co18] 27 (0, 0)) (by (with_reducible repeat (first | refine blk_drewN ?_ _ | refine blk_drew ?_ | refine blk_alloc ?_ _)); exact BK766.out) hb); have n6_ := Aside0.mk (blk_below (g := gb775) (o := .cells #[.bool t767, .slice Ao26 t768.length co26] 27 (0, 0)) (by (with_reducible repeat (first | refine blk_drewN ?_ _ | refine blk_drew ?_ | refine blk_alloc ?_ _)); exact BK775.out) hb); have n7_ := Aside0.mk (blk_below (g := gb776) (o := .cells #[.bool t771, .slice Ao30 t772.length co30] 27 (0, 0)) (by (with_reducible repeat (first | refine blk_drewN ?_ _ | refine blk_drew ?_ | refine blk_alloc ?_ _)); exact BK776.out) hb); have n8_ := Aside0.mk (below_step (by repeat (first | (with_reducible first | exact HB.out | apply below_alloc | apply pw_below_drewN | apply below_drew1 | refine below_set ?_ GE765.out | refine below_set ?_ GE766.out | refine below_set ?_ GE775.out | refine below_set ?_ GE776.out) | exact HB.out)) hb); clear HO760; clear HO764; clear HO770; clear HO774; clear BK765; clear BK766; clear BK775; clear BK776; clear HB; have HO760 := n0_; have HO764 := n1_; have HO770 := n2_; have HO774 := n3_; have BK765 := n4_; have BK766 := n5_; have BK775 := n6_; have BK776 := n7_; have HB := n8_; clear n0_ n1_ n2_ n3_ n4_ n5_ n6_ n7_ n8_; (try clear hb); (try clear hb2); (try clear hk); (try clear hi)))
                go_meet
                case rel => exact ⟨_, (true), (by first | rfl | (simp; done) | (simp [*]; done)), H', ⟨by have := HJ2.out; first | omega | exact Nat.le_refl _⟩, ⟨by (with_reducible repeat (first | apply Kd.R_alloc | apply Kd.R_drewN | apply Kd.R_drew)); exact Kd.R_mono HO760.out (fun _ hk => ⟨hk.1.1, ⟨hk.1.2, hk.2⟩⟩)⟩, ⟨by (with_reducible repeat (first | apply Kd.R_alloc | apply Kd.R_drewN | apply Kd.R_drew)); exact Kd.R_mono HO764.out (fun _ hk => ⟨hk.1.1, ⟨hk.1.2, hk.2⟩⟩)⟩, ⟨by (with_reducible repeat (first | apply Kd.R_alloc | apply Kd.R_drewN | apply Kd.R_drew)); exact Kd.R_mono HO770.out (fun _ hk => ⟨hk.1.2, ⟨hk.2, hk.1.1⟩⟩)⟩, ⟨by (with_reducible repeat (first | apply Kd.R_alloc | apply Kd.R_drewN | apply Kd.R_drew)); exact Kd.R_mono HO774.out (fun _ hk => ⟨hk.1.2, ⟨hk.2, hk.1.1⟩⟩)⟩, ⟨by (with_reducible repeat (first | refine blk_drewN ?_ _ | refine blk_drew ?_ | refine blk_alloc ?_ _)); exact BK765.out⟩, ⟨by (with_reducible repeat (first | refine blk_drewN ?_ _ | refine blk_drew ?_ | refine blk_alloc ?_ _)); exact BK766.out⟩, ⟨by (with_reducible repeat (first | refine blk_drewN ?_ _ | refine blk_drew ?_ | refine blk_alloc ?_ _)); exact BK775.out⟩, ⟨by (with_reducible repeat (first | refine blk_drewN ?_ _ | refine blk_drew ?_ | refine blk_alloc ?_ _)); exact BK776.out⟩, ⟨by repeat (first | (with_reducible first | exact HB.out | apply below_alloc | apply pw_below_drewN | apply below_drew1 | refine below_set ?_ GE765.out | refine below_set ?_ GE766.out | refine below_set ?_ GE775.out | refine below_set ?_ GE776.out) | exact HB.out)⟩⟩
              · rw [if_neg c41] at H
                have c41b0 : (t777 == 2) = false := beq_eq_false_iff_ne.mpr c41
                have c41b1 : (t777 != 2) = true := bne_iff_ne.mpr c41
                have H' := Aside0.mk H
                clear H
                have hnb54 := NB765_766.out
                have hnc54 := NB766_765.out
                have hnb55 := NB765_775.out
                have hnc55 := NB775_765.out
                have hnb56 := NB765_776.out
                have hnc56 := NB776_765.out
                have hcz57_0 : w36.cell? ⟨gb765, 0, none⟩ = some (.bool t757) := (blk_cell BK765.out 0).trans rfl
                have hcz57_1 : w36.cell? ⟨gb765, 1, none⟩ = some (.slice Ao16 t758.length co16) := (blk_cell BK765.out 1).trans rfl
                have hfz57_0 := blk_frozen BK765.out 0
                have hfz57_1 := blk_frozen BK765.out 1
                have hnb58 := NB766_775.out
                have hnc58 := NB775_766.out
                have hnb59 := NB766_776.out
                have hnc59 := NB776_766.out
                have hcz60_0 : w36.cell? ⟨gb766, 0, none⟩ = some (.bool t761) := (blk_cell BK766.out 0).trans rfl
                have hcz60_1 : w36.cell? ⟨gb766, 1, none⟩ = some (.slice Ao18 t762.length co18) := (blk_cell BK766.out 1).trans rfl
                have hfz60_0 := blk_frozen BK766.out 0
                have hfz60_1 := blk_frozen BK766.out 1
                go_wp2_with (first | ((with_reducible refine gate_callee (f := 34) rfl ?_); refine goesL_ (some 38) rfl rfl Try.func34 (by kernel_rfl) rfl #[.agg #[.bool t757, .slice Ao16 t758.length co16], .agg #[.bool t761, .slice Ao18 t762.length co18]] rfl (by (try simp only [List.map_toArray, List.map_cons, List.map_nil]); first | done | rfl | (simp only [List.length_drop, List.length_take]; rfl)) ?_; (with_reducible refine (spec_BigCmp.calls kj2 t757 _ _ t758 t761 _ _ t762 t779 _ ?side1 ?side2 ?side3 ?side4 A37.out).mono ?_); (case side1 => repeat (first | exact (Kd.R_reads' HO760.out).2.2 | (with_reducible refine Kd.C_alloc ?_ _) | (with_reducible refine Kd.C_drewN ?_ _) | (with_reducible refine Kd.C_drew ?_))); (case side2 => exact (Kd.R_reads' HO760.out).2.1); (case side3 => repeat (first | exact (Kd.R_reads' HO764.out).2.2 | (with_reducible refine Kd.C_alloc ?_ _) | (with_reducible refine Kd.C_drewN ?_ _) | (with_reducible refine Kd.C_drew ?_))); (case side4 => exact (Kd.R_reads' HO764.out).2.1); rintro e w61 ⟨rfl, hb⟩; refine ⟨_, rfl, ?_⟩; have n0_ := Aside0.mk (Kd.R_below (by (with_reducible repeat (first | apply Kd.R_alloc | apply Kd.R_drewN | apply Kd.R_drew)); exact HO760.out) hb); have n1_ := Aside0.mk (Kd.R_below (by (with_reducible repeat (first | apply Kd.R_alloc | apply Kd.R_drewN | apply Kd.R_drew)); exact HO764.out) hb); have n2_ := Aside0.mk (Kd.R_below (by (with_reducible repeat (first | apply Kd.R_alloc | apply Kd.R_drewN | apply Kd.R_drew)); exact HO770.out) hb); have n3_ := Aside0.mk (Kd.R_below (by (with_reducible repeat (first | apply Kd.R_alloc | apply Kd.R_drewN | apply Kd.R_drew)); exact HO774.out) hb); have n4_ := Aside0.mk (blk_below (g := gb765) (o := .cells #[.bool t757, .slice Ao16 t758.length co16] 27 (0, 0)) (by (with_reducible repeat (first | refine blk_drewN ?_ _ | refine blk_drew ?_ | refine blk_alloc ?_ _)); exact BK765.out) hb); have n5_ := Aside0.mk (blk_below (g := gb766) (o := .cells #[.bool t761, .slice Ao18 t762.length co18] 27 (0, 0)) (by (with_reducible repeat (first | refine blk_drewN ?_ _ | refine blk_drew ?_ | refine blk_alloc ?_ _)); exact BK766.out) hb); have n6_ := Aside0.mk (blk_below (g := gb775) (o := .cells #[.bool t767, .slice Ao26 t768.length co26] 27 (0, 0)) (by (with_reducible repeat (first | refine blk_drewN ?_ _ | refine blk_drew ?_ | refine blk_alloc ?_ _)); exact BK775.out) hb); have n7_ := Aside0.mk (blk_below (g := gb776) (o := .cells #[.bool t771, .slice Ao30 t772.length co30] 27 (0, 0)) (by (with_reducible repeat (first | refine blk_drewN ?_ _ | refine blk_drew ?_ | refine blk_alloc ?_ _)); exact BK776.out) hb); have n8_ := Aside0.mk (below_step (by repeat (first | (with_reducible first | exact HB.out | apply below_alloc | apply pw_below_drewN | apply below_drew1 | refine below_set ?_ GE765.out | refine below_set ?_ GE766.out | refine below_set ?_ GE775.out | refine below_set ?_ GE776.out) | exact HB.out)) hb); clear HO760; clear HO764; clear HO770; clear HO774; clear BK765; clear BK766; clear BK775; clear BK776; clear HB; have HO760 := n0_; have HO764 := n1_; have HO770 := n2_; have HO774 := n3_; have BK765 := n4_; have BK766 := n5_; have BK775 := n6_; have BK776 := n7_; have HB := n8_; clear n0_ n1_ n2_ n3_ n4_ n5_ n6_ n7_ n8_; (try clear hb); (try clear hb2); (try clear hk); (try clear hi); have hcz62_0 : w61.cell? ⟨gb766, 0, none⟩ = some (.bool t761) := (blk_cell BK766.out 0).trans rfl; have hcz62_1 : w61.cell? ⟨gb766, 1, none⟩ = some (.slice Ao18 t762.length co18) := (blk_cell BK766.out 1).trans rfl; have hfz62_0 := blk_frozen BK766.out 0; have hfz62_1 := blk_frozen BK766.out 1; have hnb63 := NB775_776.out; have hnc63 := NB776_775.out; have hcz64_0 : w61.cell? ⟨gb775, 0, none⟩ = some (.bool t767) := (blk_cell BK775.out 0).trans rfl; have hcz64_1 : w61.cell? ⟨gb775, 1, none⟩ = some (.slice Ao26 t768.length co26) := (blk_cell BK775.out 1).trans rfl; have hfz64_0 := blk_frozen BK775.out 0; have hfz64_1 := blk_frozen BK775.out 1) | (go_at_call 34; (with_reducible refine (spec_BigCmp.calls kj2 t761 _ _ t762 t767 _ _ t768 t780 _ ?side1 ?side2 ?side3 ?side4 A39.out).mono ?_); (case side1 => repeat (first | exact (Kd.R_reads' HO764.out).2.2 | (with_reducible refine Kd.C_alloc ?_ _) | (with_reducible refine Kd.C_drewN ?_ _) | (with_reducible refine Kd.C_drew ?_))); (case side2 => exact (Kd.R_reads' HO764.out).2.1); (case side3 => repeat (first | exact (Kd.R_reads' HO770.out).2.2 | (with_reducible refine Kd.C_alloc ?_ _) | (with_reducible refine Kd.C_drewN ?_ _) | (with_reducible refine Kd.C_drew ?_))); (case side4 => exact (Kd.R_reads' HO770.out).2.1); rintro e w65 ⟨rfl, hb⟩; have n0_ := Aside0.mk (Kd.R_below (by (with_reducible repeat (first | apply Kd.R_alloc | apply Kd.R_drewN | apply Kd.R_drew)); exact HO760.out) hb); have n1_ := Aside0.mk (Kd.R_below (by (with_reducible repeat (first | apply Kd.R_alloc | apply Kd.R_drewN | apply Kd.R_drew)); exact HO764.out) hb); have n2_ := Aside0.mk (Kd.R_below (by (with_reducible repeat (first | apply Kd.R_alloc | apply Kd.R_drewN | apply Kd.R_drew)); exact HO770.out) hb); have n3_ := Aside0.mk (Kd.R_below (by (with_reducible repeat (first | apply Kd.R_alloc | apply Kd.R_drewN | apply Kd.R_drew)); exact HO774.out) hb); have n4_ := Aside0.mk (blk_below (g := gb765) (o := .cells #[.bool t757, .slice Ao16 t758.length co16] 27 (0, 0)) (by (with_reducible repeat (first | refine blk_drewN ?_ _ | refine blk_drew ?_ | refine blk_alloc ?_ _)); exact BK765.out) hb); have n5_ := Aside0.mk (blk_below (g := gb766) (o := .cells #[.bool t761, .slice Ao18 t762.length co18] 27 (0, 0)) (by (with_reducible repeat (first | refine blk_drewN ?_ _ | refine blk_drew ?_ | refine blk_alloc ?_ _)); exact BK766.out) hb); have n6_ := Aside0.mk (blk_below (g := gb775) (o := .cells #[.bool t767, .slice Ao26 t768.length co26] 27 (0, 0)) (by (with_reducible repeat (first | refine blk_drewN ?_ _ | refine blk_drew ?_ | refine blk_alloc ?_ _)); exact BK775.out) hb); have n7_ := Aside0.mk (blk_below (g := gb776) (o := .cells #[.bool t771, .slice Ao30 t772.length co30] 27 (0, 0)) (by (with_reducible repeat (first | refine blk_drewN ?_ _ | refine blk_drew ?_ | refine blk_alloc ?_ _)); exact BK776.out) hb); have n8_ := Aside0.mk (below_step (by repeat (first | (with_reducible first | exact HB.out | apply below_alloc | apply pw_below_drewN | apply below_drew1 | refine below_set ?_ GE765.out | refine below_set ?_ GE766.out | refine below_set ?_ GE775.out | refine below_set ?_ GE776.out) | exact HB.out)) hb); clear HO760; clear HO764; clear HO770; clear HO774; clear BK765; clear BK766; clear BK775; clear BK776; clear HB; have HO760 := n0_; have HO764 := n1_; have HO770 := n2_; have HO774 := n3_; have BK765 := n4_; have BK766 := n5_; have BK775 := n6_; have BK776 := n7_; have HB := n8_; clear n0_ n1_ n2_ n3_ n4_ n5_ n6_ n7_ n8_; (try clear hb); (try clear hb2); (try clear hk); (try clear hi)))
                go_meet
                case rel => exact ⟨_, ((t778 == 2)), (by first | rfl | (simp; done) | (simp [*]; done)), H', ⟨by have := HJ2.out; first | omega | exact Nat.le_refl _⟩, ⟨by (with_reducible repeat (first | apply Kd.R_alloc | apply Kd.R_drewN | apply Kd.R_drew)); exact Kd.R_mono HO760.out (fun _ hk => ⟨hk.1.1, ⟨hk.1.2, hk.2⟩⟩)⟩, ⟨by (with_reducible repeat (first | apply Kd.R_alloc | apply Kd.R_drewN | apply Kd.R_drew)); exact Kd.R_mono HO764.out (fun _ hk => ⟨hk.1.1, ⟨hk.1.2, hk.2⟩⟩)⟩, ⟨by (with_reducible repeat (first | apply Kd.R_alloc | apply Kd.R_drewN | apply Kd.R_drew)); exact Kd.R_mono HO770.out (fun _ hk => ⟨hk.1.2, ⟨hk.2, hk.1.1⟩⟩)⟩, ⟨by (with_reducible repeat (first | apply Kd.R_alloc | apply Kd.R_drewN | apply Kd.R_drew)); exact Kd.R_mono HO774.out (fun _ hk => ⟨hk.1.2, ⟨hk.2, hk.1.1⟩⟩)⟩, ⟨by (with_reducible repeat (first | refine blk_drewN ?_ _ | refine blk_drew ?_ | refine blk_alloc ?_ _)); exact BK765.out⟩, ⟨by (with_reducible repeat (first | refine blk_drewN ?_ _ | refine blk_drew ?_ | refine blk_alloc ?_ _)); exact BK766.out⟩, ⟨by (with_reducible repeat (first | refine blk_drewN ?_ _ | refine blk_drew ?_ | refine blk_alloc ?_ _)); exact BK775.out⟩, ⟨by (with_reducible repeat (first | refine blk_drewN ?_ _ | refine blk_drew ?_ | refine blk_alloc ?_ _)); exact BK776.out⟩, ⟨by repeat (first | (with_reducible first | exact HB.out | apply below_alloc | apply pw_below_drewN | apply below_drew1 | refine below_set ?_ GE765.out | refine below_set ?_ GE766.out | refine below_set ?_ GE775.out | refine below_set ?_ GE776.out) | exact HB.out)⟩⟩
            · rw [if_neg c40] at H
              have c40b0 : (t778 == t780) = false := beq_eq_false_iff_ne.mpr c40
              have c40b1 : (t778 != t780) = true := bne_iff_ne.mpr c40
              have H' := Aside0.mk H
              clear H
              have hnb66 := NB765_766.out
              have hnc66 := NB766_765.out
              have hnb67 := NB765_775.out
              have hnc67 := NB775_765.out
              have hnb68 := NB765_776.out
              have hnc68 := NB776_765.out
              have hcz69_0 : w36.cell? ⟨gb765, 0, none⟩ = some (.bool t757) := (blk_cell BK765.out 0).trans rfl
              have hcz69_1 : w36.cell? ⟨gb765, 1, none⟩ = some (.slice Ao16 t758.length co16) := (blk_cell BK765.out 1).trans rfl
              have hfz69_0 := blk_frozen BK765.out 0
              have hfz69_1 := blk_frozen BK765.out 1
              have hnb70 := NB766_775.out
              have hnc70 := NB775_766.out
              have hnb71 := NB766_776.out
              have hnc71 := NB776_766.out
              have hcz72_0 : w36.cell? ⟨gb766, 0, none⟩ = some (.bool t761) := (blk_cell BK766.out 0).trans rfl
              have hcz72_1 : w36.cell? ⟨gb766, 1, none⟩ = some (.slice Ao18 t762.length co18) := (blk_cell BK766.out 1).trans rfl
              have hfz72_0 := blk_frozen BK766.out 0
              have hfz72_1 := blk_frozen BK766.out 1
              go_wp2_with (first | ((with_reducible refine gate_callee (f := 34) rfl ?_); refine goesL_ (some 38) rfl rfl Try.func34 (by kernel_rfl) rfl #[.agg #[.bool t757, .slice Ao16 t758.length co16], .agg #[.bool t761, .slice Ao18 t762.length co18]] rfl (by (try simp only [List.map_toArray, List.map_cons, List.map_nil]); first | done | rfl | (simp only [List.length_drop, List.length_take]; rfl)) ?_; (with_reducible refine (spec_BigCmp.calls kj2 t757 _ _ t758 t761 _ _ t762 t779 _ ?side1 ?side2 ?side3 ?side4 A37.out).mono ?_); (case side1 => repeat (first | exact (Kd.R_reads' HO760.out).2.2 | (with_reducible refine Kd.C_alloc ?_ _) | (with_reducible refine Kd.C_drewN ?_ _) | (with_reducible refine Kd.C_drew ?_))); (case side2 => exact (Kd.R_reads' HO760.out).2.1); (case side3 => repeat (first | exact (Kd.R_reads' HO764.out).2.2 | (with_reducible refine Kd.C_alloc ?_ _) | (with_reducible refine Kd.C_drewN ?_ _) | (with_reducible refine Kd.C_drew ?_))); (case side4 => exact (Kd.R_reads' HO764.out).2.1); rintro e w73 ⟨rfl, hb⟩; refine ⟨_, rfl, ?_⟩; have n0_ := Aside0.mk (Kd.R_below (by (with_reducible repeat (first | apply Kd.R_alloc | apply Kd.R_drewN | apply Kd.R_drew)); exact HO760.out) hb); have n1_ := Aside0.mk (Kd.R_below (by (with_reducible repeat (first | apply Kd.R_alloc | apply Kd.R_drewN | apply Kd.R_drew)); exact HO764.out) hb); have n2_ := Aside0.mk (Kd.R_below (by (with_reducible repeat (first | apply Kd.R_alloc | apply Kd.R_drewN | apply Kd.R_drew)); exact HO770.out) hb); have n3_ := Aside0.mk (Kd.R_below (by (with_reducible repeat (first | apply Kd.R_alloc | apply Kd.R_drewN | apply Kd.R_drew)); exact HO774.out) hb); have n4_ := Aside0.mk (blk_below (g := gb765) (o := .cells #[.bool t757, .slice Ao16 t758.length co16] 27 (0, 0)) (by (with_reducible repeat (first | refine blk_drewN ?_ _ | refine blk_drew ?_ | refine blk_alloc ?_ _)); exact BK765.out) hb); have n5_ := Aside0.mk (blk_below (g := gb766) (o := .cells #[.bool t761, .slice Ao18 t762.length co18] 27 (0, 0)) (by (with_reducible repeat (first | refine blk_drewN ?_ _ | refine blk_drew ?_ | refine blk_alloc ?_ _)); exact BK766.out) hb); have n6_ := Aside0.mk (blk_below (g := gb775) (o := .cells #[.bool t767, .slice Ao26 t768.length co26] 27 (0, 0)) (by (with_reducible repeat (first | refine blk_drewN ?_ _ | refine blk_drew ?_ | refine blk_alloc ?_ _)); exact BK775.out) hb); have n7_ := Aside0.mk (blk_below (g := gb776) (o := .cells #[.bool t771, .slice Ao30 t772.length co30] 27 (0, 0)) (by (with_reducible repeat (first | refine blk_drewN ?_ _ | refine blk_drew ?_ | refine blk_alloc ?_ _)); exact BK776.out) hb); have n8_ := Aside0.mk (below_step (by repeat (first | (with_reducible first | exact HB.out | apply below_alloc | apply pw_below_drewN | apply below_drew1 | refine below_set ?_ GE765.out | refine below_set ?_ GE766.out | refine below_set ?_ GE775.out | refine below_set ?_ GE776.out) | exact HB.out)) hb); clear HO760; clear HO764; clear HO770; clear HO774; clear BK765; clear BK766; clear BK775; clear BK776; clear HB; have HO760 := n0_; have HO764 := n1_; have HO770 := n2_; have HO774 := n3_; have BK765 := n4_; have BK766 := n5_; have BK775 := n6_; have BK776 := n7_; have HB := n8_; clear n0_ n1_ n2_ n3_ n4_ n5_ n6_ n7_ n8_; (try clear hb); (try clear hb2); (try clear hk); (try clear hi); have hcz74_0 : w73.cell? ⟨gb766, 0, none⟩ = some (.bool t761) := (blk_cell BK766.out 0).trans rfl; have hcz74_1 : w73.cell? ⟨gb766, 1, none⟩ = some (.slice Ao18 t762.length co18) := (blk_cell BK766.out 1).trans rfl; have hfz74_0 := blk_frozen BK766.out 0; have hfz74_1 := blk_frozen BK766.out 1; have hnb75 := NB775_776.out; have hnc75 := NB776_775.out; have hcz76_0 : w73.cell? ⟨gb775, 0, none⟩ = some (.bool t767) := (blk_cell BK775.out 0).trans rfl; have hcz76_1 : w73.cell? ⟨gb775, 1, none⟩ = some (.slice Ao26 t768.length co26) := (blk_cell BK775.out 1).trans rfl; have hfz76_0 := blk_frozen BK775.out 0; have hfz76_1 := blk_frozen BK775.out 1) | (go_at_call 34; (with_reducible refine (spec_BigCmp.calls kj2 t761 _ _ t762 t767 _ _ t768 t780 _ ?side1 ?side2 ?side3 ?side4 A39.out).mono ?_); (case side1 => repeat (first | exact (Kd.R_reads' HO764.out).2.2 | (with_reducible refine Kd.C_alloc ?_ _) | (with_reducible refine Kd.C_drewN ?_ _) | (with_reducible refine Kd.C_drew ?_))); (case side2 => exact (Kd.R_reads' HO764.out).2.1); (case side3 => repeat (first | exact (Kd.R_reads' HO770.out).2.2 | (with_reducible refine Kd.C_alloc ?_ _) | (with_reducible refine Kd.C_drewN ?_ _) | (with_reducible refine Kd.C_drew ?_))); (case side4 => exact (Kd.R_reads' HO770.out).2.1); rintro e w77 ⟨rfl, hb⟩; have n0_ := Aside0.mk (Kd.R_below (by (with_reducible repeat (first | apply Kd.R_alloc | apply Kd.R_drewN | apply Kd.R_drew)); exact HO760.out) hb); have n1_ := Aside0.mk (Kd.R_below (by (with_reducible repeat (first | apply Kd.R_alloc | apply Kd.R_drewN | apply Kd.R_drew)); exact HO764.out) hb); have n2_ := Aside0.mk (Kd.R_below (by (with_reducible repeat (first | apply Kd.R_alloc | apply Kd.R_drewN | apply Kd.R_drew)); exact HO770.out) hb); have n3_ := Aside0.mk (Kd.R_below (by (with_reducible repeat (first | apply Kd.R_alloc | apply Kd.R_drewN | apply Kd.R_drew)); exact HO774.out) hb); have n4_ := Aside0.mk (blk_below (g := gb765) (o := .cells #[.bool t757, .slice Ao16 t758.length co16] 27 (0, 0)) (by (with_reducible repeat (first | refine blk_drewN ?_ _ | refine blk_drew ?_ | refine blk_alloc ?_ _)); exact BK765.out) hb); have n5_ := Aside0.mk (blk_below (g := gb766) (o := .cells #[.bool t761, .slice Ao18 t762.length co18] 27 (0, 0)) (by (with_reducible repeat (first | refine blk_drewN ?_ _ | refine blk_drew ?_ | refine blk_alloc ?_ _)); exact BK766.out) hb); have n6_ := Aside0.mk (blk_below (g := gb775) (o := .cells #[.bool t767, .slice Ao26 t768.length co26] 27 (0, 0)) (by (with_reducible repeat (first | refine blk_drewN ?_ _ | refine blk_drew ?_ | refine blk_alloc ?_ _)); exact BK775.out) hb); have n7_ := Aside0.mk (blk_below (g := gb776) (o := .cells #[.bool t771, .slice Ao30 t772.length co30] 27 (0, 0)) (by (with_reducible repeat (first | refine blk_drewN ?_ _ | refine blk_drew ?_ | refine blk_alloc ?_ _)); exact BK776.out) hb); have n8_ := Aside0.mk (below_step (by repeat (first | (with_reducible first | exact HB.out | apply below_alloc | apply pw_below_drewN | apply below_drew1 | refine below_set ?_ GE765.out | refine below_set ?_ GE766.out | refine below_set ?_ GE775.out | refine below_set ?_ GE776.out) | exact HB.out)) hb); clear HO760; clear HO764; clear HO770; clear HO774; clear BK765; clear BK766; clear BK775; clear BK776; clear HB; have HO760 := n0_; have HO764 := n1_; have HO770 := n2_; have HO774 := n3_; have BK765 := n4_; have BK766 := n5_; have BK775 := n6_; have BK776 := n7_; have HB := n8_; clear n0_ n1_ n2_ n3_ n4_ n5_ n6_ n7_ n8_; (try clear hb); (try clear hb2); (try clear hk); (try clear hi)))
              go_meet
              case rel => exact ⟨_, (true), (by first | rfl | (simp; done) | (simp [*]; done)), H', ⟨by have := HJ2.out; first | omega | exact Nat.le_refl _⟩, ⟨by (with_reducible repeat (first | apply Kd.R_alloc | apply Kd.R_drewN | apply Kd.R_drew)); exact Kd.R_mono HO760.out (fun _ hk => ⟨hk.1.1, ⟨hk.1.2, hk.2⟩⟩)⟩, ⟨by (with_reducible repeat (first | apply Kd.R_alloc | apply Kd.R_drewN | apply Kd.R_drew)); exact Kd.R_mono HO764.out (fun _ hk => ⟨hk.1.1, ⟨hk.1.2, hk.2⟩⟩)⟩, ⟨by (with_reducible repeat (first | apply Kd.R_alloc | apply Kd.R_drewN | apply Kd.R_drew)); exact Kd.R_mono HO770.out (fun _ hk => ⟨hk.1.2, ⟨hk.2, hk.1.1⟩⟩)⟩, ⟨by (with_reducible repeat (first | apply Kd.R_alloc | apply Kd.R_drewN | apply Kd.R_drew)); exact Kd.R_mono HO774.out (fun _ hk => ⟨hk.1.2, ⟨hk.2, hk.1.1⟩⟩)⟩, ⟨by (with_reducible repeat (first | refine blk_drewN ?_ _ | refine blk_drew ?_ | refine blk_alloc ?_ _)); exact BK765.out⟩, ⟨by (with_reducible repeat (first | refine blk_drewN ?_ _ | refine blk_drew ?_ | refine blk_alloc ?_ _)); exact BK766.out⟩, ⟨by (with_reducible repeat (first | refine blk_drewN ?_ _ | refine blk_drew ?_ | refine blk_alloc ?_ _)); exact BK775.out⟩, ⟨by (with_reducible repeat (first | refine blk_drewN ?_ _ | refine blk_drew ?_ | refine blk_alloc ?_ _)); exact BK776.out⟩, ⟨by repeat (first | (with_reducible first | exact HB.out | apply below_alloc | apply pw_below_drewN | apply below_drew1 | refine below_set ?_ GE765.out | refine below_set ?_ GE766.out | refine below_set ?_ GE775.out | refine below_set ?_ GE776.out) | exact HB.out)⟩⟩
          · rw [if_neg c38] at H
            have c38b0 : (t777 == t779) = false := beq_eq_false_iff_ne.mpr c38
            have c38b1 : (t777 != t779) = true := bne_iff_ne.mpr c38
            (first | rw [c38b0] | (simp only [i64_w, i32_w]; rw [c38b0]) | skip)
            have H' := Aside0.mk H
            clear H
            have hnb78 := NB765_766.out
            have hnc78 := NB766_765.out
            have hnb79 := NB765_775.out
            have hnc79 := NB775_765.out
            have hnb80 := NB765_776.out
            have hnc80 := NB776_765.out
            have hcz81_0 : w36.cell? ⟨gb765, 0, none⟩ = some (.bool t757) := (blk_cell BK765.out 0).trans rfl
            have hcz81_1 : w36.cell? ⟨gb765, 1, none⟩ = some (.slice Ao16 t758.length co16) := (blk_cell BK765.out 1).trans rfl
            have hfz81_0 := blk_frozen BK765.out 0
            have hfz81_1 := blk_frozen BK765.out 1
            have hnb82 := NB766_775.out
            have hnc82 := NB775_766.out
            have hnb83 := NB766_776.out
            have hnc83 := NB776_766.out
            have hcz84_0 : w36.cell? ⟨gb766, 0, none⟩ = some (.bool t761) := (blk_cell BK766.out 0).trans rfl
            have hcz84_1 : w36.cell? ⟨gb766, 1, none⟩ = some (.slice Ao18 t762.length co18) := (blk_cell BK766.out 1).trans rfl
            have hfz84_0 := blk_frozen BK766.out 0
            have hfz84_1 := blk_frozen BK766.out 1
            go_wp2_with (first | ((with_reducible refine gate_callee (f := 34) rfl ?_); refine goesL_ (some 38) rfl rfl Try.func34 (by kernel_rfl) rfl #[.agg #[.bool t757, .slice Ao16 t758.length co16], .agg #[.bool t761, .slice Ao18 t762.length co18]] rfl (by (try simp only [List.map_toArray, List.map_cons, List.map_nil]); first | done | rfl | (simp only [List.length_drop, List.length_take]; rfl)) ?_; (with_reducible refine (spec_BigCmp.calls kj2 t757 _ _ t758 t761 _ _ t762 t779 _ ?side1 ?side2 ?side3 ?side4 A37.out).mono ?_); (case side1 => repeat (first | exact (Kd.R_reads' HO760.out).2.2 | (with_reducible refine Kd.C_alloc ?_ _) | (with_reducible refine Kd.C_drewN ?_ _) | (with_reducible refine Kd.C_drew ?_))); (case side2 => exact (Kd.R_reads' HO760.out).2.1); (case side3 => repeat (first | exact (Kd.R_reads' HO764.out).2.2 | (with_reducible refine Kd.C_alloc ?_ _) | (with_reducible refine Kd.C_drewN ?_ _) | (with_reducible refine Kd.C_drew ?_))); (case side4 => exact (Kd.R_reads' HO764.out).2.1); rintro e w85 ⟨rfl, hb⟩; refine ⟨_, rfl, ?_⟩; have n0_ := Aside0.mk (Kd.R_below (by (with_reducible repeat (first | apply Kd.R_alloc | apply Kd.R_drewN | apply Kd.R_drew)); exact HO760.out) hb); have n1_ := Aside0.mk (Kd.R_below (by (with_reducible repeat (first | apply Kd.R_alloc | apply Kd.R_drewN | apply Kd.R_drew)); exact HO764.out) hb); have n2_ := Aside0.mk (Kd.R_below (by (with_reducible repeat (first | apply Kd.R_alloc | apply Kd.R_drewN | apply Kd.R_drew)); exact HO770.out) hb); have n3_ := Aside0.mk (Kd.R_below (by (with_reducible repeat (first | apply Kd.R_alloc | apply Kd.R_drewN | apply Kd.R_drew)); exact HO774.out) hb); have n4_ := Aside0.mk (blk_below (g := gb765) (o := .cells #[.bool t757, .slice Ao16 t758.length co16] 27 (0, 0)) (by (with_reducible repeat (first | refine blk_drewN ?_ _ | refine blk_drew ?_ | refine blk_alloc ?_ _)); exact BK765.out) hb); have n5_ := Aside0.mk (blk_below (g := gb766) (o := .cells #[.bool t761, .slice Ao18 t762.length co18] 27 (0, 0)) (by (with_reducible repeat (first | refine blk_drewN ?_ _ | refine blk_drew ?_ | refine blk_alloc ?_ _)); exact BK766.out) hb); have n6_ := Aside0.mk (blk_below (g := gb775) (o := .cells #[.bool t767, .slice Ao26 t768.length co26] 27 (0, 0)) (by (with_reducible repeat (first | refine blk_drewN ?_ _ | refine blk_drew ?_ | refine blk_alloc ?_ _)); exact BK775.out) hb); have n7_ := Aside0.mk (blk_below (g := gb776) (o := .cells #[.bool t771, .slice Ao30 t772.length co30] 27 (0, 0)) (by (with_reducible repeat (first | refine blk_drewN ?_ _ | refine blk_drew ?_ | refine blk_alloc ?_ _)); exact BK776.out) hb); have n8_ := Aside0.mk (below_step (by repeat (first | (with_reducible first | exact HB.out | apply below_alloc | apply pw_below_drewN | apply below_drew1 | refine below_set ?_ GE765.out | refine below_set ?_ GE766.out | refine below_set ?_ GE775.out | refine below_set ?_ GE776.out) | exact HB.out)) hb); clear HO760; clear HO764; clear HO770; clear HO774; clear BK765; clear BK766; clear BK775; clear BK776; clear HB; have HO760 := n0_; have HO764 := n1_; have HO770 := n2_; have HO774 := n3_; have BK765 := n4_; have BK766 := n5_; have BK775 := n6_; have BK776 := n7_; have HB := n8_; clear n0_ n1_ n2_ n3_ n4_ n5_ n6_ n7_ n8_; (try clear hb); (try clear hb2); (try clear hk); (try clear hi)))
            go_meet
            case rel => exact ⟨_, (true), (by first | rfl | (simp; done) | (simp [*]; done)), H', ⟨by have := HJ2.out; first | omega | exact Nat.le_refl _⟩, ⟨by (with_reducible repeat (first | apply Kd.R_alloc | apply Kd.R_drewN | apply Kd.R_drew)); exact Kd.R_mono HO760.out (fun _ hk => ⟨hk.1.1, ⟨hk.1.2, hk.2⟩⟩)⟩, ⟨by (with_reducible repeat (first | apply Kd.R_alloc | apply Kd.R_drewN | apply Kd.R_drew)); exact Kd.R_mono HO764.out (fun _ hk => ⟨hk.1.1, ⟨hk.1.2, hk.2⟩⟩)⟩, ⟨by (with_reducible repeat (first | apply Kd.R_alloc | apply Kd.R_drewN | apply Kd.R_drew)); exact Kd.R_mono HO770.out (fun _ hk => ⟨hk.1.2, ⟨hk.2, hk.1.1⟩⟩)⟩, ⟨by (with_reducible repeat (first | apply Kd.R_alloc | apply Kd.R_drewN | apply Kd.R_drew)); exact Kd.R_mono HO774.out (fun _ hk => ⟨hk.1.2, ⟨hk.2, hk.1.1⟩⟩)⟩, ⟨by (with_reducible repeat (first | refine blk_drewN ?_ _ | refine blk_drew ?_ | refine blk_alloc ?_ _)); exact BK765.out⟩, ⟨by (with_reducible repeat (first | refine blk_drewN ?_ _ | refine blk_drew ?_ | refine blk_alloc ?_ _)); exact BK766.out⟩, ⟨by (with_reducible repeat (first | refine blk_drewN ?_ _ | refine blk_drew ?_ | refine blk_alloc ?_ _)); exact BK775.out⟩, ⟨by (with_reducible repeat (first | refine blk_drewN ?_ _ | refine blk_drew ?_ | refine blk_alloc ?_ _)); exact BK776.out⟩, ⟨by repeat (first | (with_reducible first | exact HB.out | apply below_alloc | apply pw_below_drewN | apply below_drew1 | refine below_set ?_ GE765.out | refine below_set ?_ GE766.out | refine below_set ?_ GE775.out | refine below_set ?_ GE776.out) | exact HB.out)⟩⟩
        case rest =>
          clear HC10
          try clear c1
          try clear c2
          try clear p2
          try clear c3
          try clear c4
          try clear c4b0
          try clear c4b1
          try clear c5
          try clear c6
          try clear c7
          try clear c8
          try clear c9
          try clear c14
          try clear c22
          try clear c23
          try clear c24
          try clear c27
          try clear c28
          try clear c34
          try clear c35
          try clear c37
          try clear c38
          try clear c38b0
          try clear c38b1
          try clear c40
          try clear c40b0
          try clear c40b1
          try clear c41
          try clear c41b0
          try clear c41b1
          try clear c42
          try clear c43
          try clear c44
          try clear c46
          try clear c47
          try clear c51
          try clear c54
          try clear c55
          try clear c56
          try clear c58
          try clear c59
          try clear c63
          try clear c66
          try clear c67
          try clear c68
          try clear c70
          try clear c71
          try clear c75
          try clear c78
          try clear c79
          try clear c80
          try clear c82
          try clear c83
          try clear hcz15_0
          try clear hcz15_1
          try clear hcz17_0
          try clear hcz17_1
          try clear hcz25_0
          try clear hcz25_1
          try clear hcz29_0
          try clear hcz29_1
          try clear hcz31_0
          try clear hcz31_1
          try clear hcz32_0
          try clear hcz32_1
          try clear hcz34_0
          try clear hcz34_1
          try clear hcz35_0
          try clear hcz35_1
          try clear hcz45_0
          try clear hcz45_1
          try clear hcz48_0
          try clear hcz48_1
          try clear hcz50_0
          try clear hcz50_1
          try clear hcz52_0
          try clear hcz52_1
          try clear hcz57_0
          try clear hcz57_1
          try clear hcz60_0
          try clear hcz60_1
          try clear hcz62_0
          try clear hcz62_1
          try clear hcz64_0
          try clear hcz64_1
          try clear hcz69_0
          try clear hcz69_1
          try clear hcz72_0
          try clear hcz72_1
          try clear hcz74_0
          try clear hcz74_1
          try clear hcz76_0
          try clear hcz76_1
          try clear hcz81_0
          try clear hcz81_1
          try clear hcz84_0
          try clear hcz84_1
          try clear hfz15_0
          try clear hfz15_1
          try clear hfz17_0
          try clear hfz17_1
          try clear hfz25_0
          try clear hfz25_1
          try clear hfz29_0
          try clear hfz29_1
          try clear hfz31_0
          try clear hfz31_1
          try clear hfz32_0
          try clear hfz32_1
          try clear hfz34_0
          try clear hfz34_1
          try clear hfz35_0
          try clear hfz35_1
          try clear hfz45_0
          try clear hfz45_1
          try clear hfz48_0
          try clear hfz48_1
          try clear hfz50_0
          try clear hfz50_1
          try clear hfz52_0
          try clear hfz52_1
          try clear hfz57_0
          try clear hfz57_1
          try clear hfz60_0
          try clear hfz60_1
          try clear hfz62_0
          try clear hfz62_1
          try clear hfz64_0
          try clear hfz64_1
          try clear hfz69_0
          try clear hfz69_1
          try clear hfz72_0
          try clear hfz72_1
          try clear hfz74_0
          try clear hfz74_1
          try clear hfz76_0
          try clear hfz76_1
          try clear hfz81_0
          try clear hfz81_1
          try clear hfz84_0
          try clear hfz84_1
          try clear p2
          obtain ⟨kq, x54_9, rfl, HA, HJ9, HO_766001, HO_767001, HO_776001, HO_777001, BK765, BK766, BK775, BK776, HB⟩ := hcut
          cases kq with
          | zero => exact absurd HA.out (by simp [laws_FnBigCmpThree.j1])
          | succ kj9 =>
            have H := HA.out
            clear HA
            simp only [laws_FnBigCmpThree.j1] at H
            by_cases c86 : x54_9 = true
            · subst c86
              have H1 : ((spec_BigCmp.f kj9 t757 t758 t761 t762).bind fun t781 => (if t777 = t781 then ((spec_BigCmp.f kj9 t761 t762 t767 t768).bind fun t782 => (some (t778 == t782))) else (some false))) = some r := by rw [if_pos rfl] at H; exact H
              clear H
              have H := H1
              clear H1
              replace H := Option.bind_eq_some_iff.mp H
              obtain ⟨t781, A870, H⟩ := H
              replace H : (if t777 = t781 then ((spec_BigCmp.f kj9 t761 t762 t767 t768).bind fun t782 => (some (t778 == t782))) else (some false)) = some r := H
              have A87 := Aside0.mk A870
              clear A870
              by_cases c88 : t777 = t781
              · rw [if_pos c88] at H
                have c88b0 : (t777 == t781) = true := beq_iff_eq.mpr c88
                have c88b1 : (t777 != t781) = false := bne_eq_false_iff_eq.mpr c88
                clear c88
                replace H := Option.bind_eq_some_iff.mp H
                obtain ⟨t782, A890, H⟩ := H
                replace H : (some (t778 == t782)) = some r := H
                have A89 := Aside0.mk A890
                clear A890
                obtain rfl := Option.some.inj H
                have hnb90 := NB765_766.out
                have hnc90 := NB766_765.out
                have hnb91 := NB765_775.out
                have hnc91 := NB775_765.out
                have hnb92 := NB765_776.out
                have hnc92 := NB776_765.out
                have hcz93_0 : wc.cell? ⟨gb765, 0, none⟩ = some (.bool t757) := (blk_cell BK765.out 0).trans rfl
                have hcz93_1 : wc.cell? ⟨gb765, 1, none⟩ = some (.slice Ao16 t758.length co16) := (blk_cell BK765.out 1).trans rfl
                have hfz93_0 := blk_frozen BK765.out 0
                have hfz93_1 := blk_frozen BK765.out 1
                have hnb94 := NB766_775.out
                have hnc94 := NB775_766.out
                have hnb95 := NB766_776.out
                have hnc95 := NB776_766.out
                have hcz96_0 : wc.cell? ⟨gb766, 0, none⟩ = some (.bool t761) := (blk_cell BK766.out 0).trans rfl
                have hcz96_1 : wc.cell? ⟨gb766, 1, none⟩ = some (.slice Ao18 t762.length co18) := (blk_cell BK766.out 1).trans rfl
                have hfz96_0 := blk_frozen BK766.out 0
                have hfz96_1 := blk_frozen BK766.out 1
                go_wp2_with (first | ((with_reducible refine gate_callee (f := 34) rfl ?_); refine goesL_ (some 58) rfl rfl Try.func34 (by kernel_rfl) rfl #[.agg #[.bool t757, .slice Ao16 t758.length co16], .agg #[.bool t761, .slice Ao18 t762.length co18]] rfl (by (try simp only [List.map_toArray, List.map_cons, List.map_nil]); first | done | rfl | (simp only [List.length_drop, List.length_take]; rfl)) ?_; (with_reducible refine (spec_BigCmp.calls kj9 t757 _ _ t758 t761 _ _ t762 t781 _ ?side1 ?side2 ?side3 ?side4 A87.out).mono ?_); (case side1 => repeat (first | exact (Kd.R_reads' HO_766001.out).2.2 | (with_reducible refine Kd.C_alloc ?_ _) | (with_reducible refine Kd.C_drewN ?_ _) | (with_reducible refine Kd.C_drew ?_))); (case side2 => exact (Kd.R_reads' HO_766001.out).2.1); (case side3 => repeat (first | exact (Kd.R_reads' HO_767001.out).2.2 | (with_reducible refine Kd.C_alloc ?_ _) | (with_reducible refine Kd.C_drewN ?_ _) | (with_reducible refine Kd.C_drew ?_))); (case side4 => exact (Kd.R_reads' HO_767001.out).2.1); rintro e w97 ⟨rfl, hb⟩; refine ⟨_, rfl, ?_⟩; have n0_ := Aside0.mk (Kd.R_below (by (with_reducible repeat (first | apply Kd.R_alloc | apply Kd.R_drewN | apply Kd.R_drew)); exact HO_766001.out) hb); have n1_ := Aside0.mk (Kd.R_below (by (with_reducible repeat (first | apply Kd.R_alloc | apply Kd.R_drewN | apply Kd.R_drew)); exact HO_767001.out) hb); have n2_ := Aside0.mk (Kd.R_below (by (with_reducible repeat (first | apply Kd.R_alloc | apply Kd.R_drewN | apply Kd.R_drew)); exact HO_776001.out) hb); have n3_ := Aside0.mk (Kd.R_below (by (with_reducible repeat (first | apply Kd.R_alloc | apply Kd.R_drewN | apply Kd.R_drew)); exact HO_777001.out) hb); have n4_ := Aside0.mk (blk_below (g := gb765) (o := .cells #[.bool t757, .slice Ao16 t758.length co16] 27 (0, 0)) (by (with_reducible repeat (first | refine blk_drewN ?_ _ | refine blk_drew ?_ | refine blk_alloc ?_ _)); exact BK765.out) hb); have n5_ := Aside0.mk (blk_below (g := gb766) (o := .cells #[.bool t761, .slice Ao18 t762.length co18] 27 (0, 0)) (by (with_reducible repeat (first | refine blk_drewN ?_ _ | refine blk_drew ?_ | refine blk_alloc ?_ _)); exact BK766.out) hb); have n6_ := Aside0.mk (blk_below (g := gb775) (o := .cells #[.bool t767, .slice Ao26 t768.length co26] 27 (0, 0)) (by (with_reducible repeat (first | refine blk_drewN ?_ _ | refine blk_drew ?_ | refine blk_alloc ?_ _)); exact BK775.out) hb); have n7_ := Aside0.mk (blk_below (g := gb776) (o := .cells #[.bool t771, .slice Ao30 t772.length co30] 27 (0, 0)) (by (with_reducible repeat (first | refine blk_drewN ?_ _ | refine blk_drew ?_ | refine blk_alloc ?_ _)); exact BK776.out) hb); have n8_ := Aside0.mk (below_step (by repeat (first | (with_reducible first | exact HB.out | apply below_alloc | apply pw_below_drewN | apply below_drew1 | refine below_set ?_ GE765.out | refine below_set ?_ GE766.out | refine below_set ?_ GE775.out | refine below_set ?_ GE776.out) | exact HB.out)) hb); clear HO_766001; clear HO_767001; clear HO_776001; clear HO_777001; clear BK765; clear BK766; clear BK775; clear BK776; clear HB; have HO_766001 := n0_; have HO_767001 := n1_; have HO_776001 := n2_; have HO_777001 := n3_; have BK765 := n4_; have BK766 := n5_; have BK775 := n6_; have BK776 := n7_; have HB := n8_; clear n0_ n1_ n2_ n3_ n4_ n5_ n6_ n7_ n8_; (try clear hb); (try clear hb2); (try clear hk); (try clear hi); have hcz98_0 : w97.cell? ⟨gb766, 0, none⟩ = some (.bool t761) := (blk_cell BK766.out 0).trans rfl; have hcz98_1 : w97.cell? ⟨gb766, 1, none⟩ = some (.slice Ao18 t762.length co18) := (blk_cell BK766.out 1).trans rfl; have hfz98_0 := blk_frozen BK766.out 0; have hfz98_1 := blk_frozen BK766.out 1; have hnb99 := NB775_776.out; have hnc99 := NB776_775.out; have hcz100_0 : w97.cell? ⟨gb775, 0, none⟩ = some (.bool t767) := (blk_cell BK775.out 0).trans rfl; have hcz100_1 : w97.cell? ⟨gb775, 1, none⟩ = some (.slice Ao26 t768.length co26) := (blk_cell BK775.out 1).trans rfl; have hfz100_0 := blk_frozen BK775.out 0; have hfz100_1 := blk_frozen BK775.out 1) | (go_at_call 34; (with_reducible refine (spec_BigCmp.calls kj9 t761 _ _ t762 t767 _ _ t768 t782 _ ?side1 ?side2 ?side3 ?side4 A89.out).mono ?_); (case side1 => repeat (first | exact (Kd.R_reads' HO_767001.out).2.2 | (with_reducible refine Kd.C_alloc ?_ _) | (with_reducible refine Kd.C_drewN ?_ _) | (with_reducible refine Kd.C_drew ?_))); (case side2 => exact (Kd.R_reads' HO_767001.out).2.1); (case side3 => repeat (first | exact (Kd.R_reads' HO_776001.out).2.2 | (with_reducible refine Kd.C_alloc ?_ _) | (with_reducible refine Kd.C_drewN ?_ _) | (with_reducible refine Kd.C_drew ?_))); (case side4 => exact (Kd.R_reads' HO_776001.out).2.1); rintro e w101 ⟨rfl, hb⟩; have n0_ := Aside0.mk (Kd.R_below (by (with_reducible repeat (first | apply Kd.R_alloc | apply Kd.R_drewN | apply Kd.R_drew)); exact HO_766001.out) hb); have n1_ := Aside0.mk (Kd.R_below (by (with_reducible repeat (first | apply Kd.R_alloc | apply Kd.R_drewN | apply Kd.R_drew)); exact HO_767001.out) hb); have n2_ := Aside0.mk (Kd.R_below (by (with_reducible repeat (first | apply Kd.R_alloc | apply Kd.R_drewN | apply Kd.R_drew)); exact HO_776001.out) hb); have n3_ := Aside0.mk (Kd.R_below (by (with_reducible repeat (first | apply Kd.R_alloc | apply Kd.R_drewN | apply Kd.R_drew)); exact HO_777001.out) hb); have n4_ := Aside0.mk (blk_below (g := gb765) (o := .cells #[.bool t757, .slice Ao16 t758.length co16] 27 (0, 0)) (by (with_reducible repeat (first | refine blk_drewN ?_ _ | refine blk_drew ?_ | refine blk_alloc ?_ _)); exact BK765.out) hb); have n5_ := Aside0.mk (blk_below (g := gb766) (o := .cells #[.bool t761, .slice Ao18 t762.length co18] 27 (0, 0)) (by (with_reducible repeat (first | refine blk_drewN ?_ _ | refine blk_drew ?_ | refine blk_alloc ?_ _)); exact BK766.out) hb); have n6_ := Aside0.mk (blk_below (g := gb775) (o := .cells #[.bool t767, .slice Ao26 t768.length co26] 27 (0, 0)) (by (with_reducible repeat (first | refine blk_drewN ?_ _ | refine blk_drew ?_ | refine blk_alloc ?_ _)); exact BK775.out) hb); have n7_ := Aside0.mk (blk_below (g := gb776) (o := .cells #[.bool t771, .slice Ao30 t772.length co30] 27 (0, 0)) (by (with_reducible repeat (first | refine blk_drewN ?_ _ | refine blk_drew ?_ | refine blk_alloc ?_ _)); exact BK776.out) hb); have n8_ := Aside0.mk (below_step (by repeat (first | (with_reducible first | exact HB.out | apply below_alloc | apply pw_below_drewN | apply below_drew1 | refine below_set ?_ GE765.out | refine below_set ?_ GE766.out | refine below_set ?_ GE775.out | refine below_set ?_ GE776.out) | exact HB.out)) hb); clear HO_766001; clear HO_767001; clear HO_776001; clear HO_777001; clear BK765; clear BK766; clear BK775; clear BK776; clear HB; have HO_766001 := n0_; have HO_767001 := n1_; have HO_776001 := n2_; have HO_777001 := n3_; have BK765 := n4_; have BK766 := n5_; have BK775 := n6_; have BK776 := n7_; have HB := n8_; clear n0_ n1_ n2_ n3_ n4_ n5_ n6_ n7_ n8_; (try clear hb); (try clear hb2); (try clear hk); (try clear hi)))
                go_ret
                exact ⟨by first | rfl | (simp [errW_none, errW_some] <;> rfl) | (simp [*, errW_none, errW_some] <;> rfl), by repeat (first | (with_reducible first | exact HB.out | apply below_alloc | apply pw_below_drewN | apply below_drew1 | refine below_set ?_ GE765.out | refine below_set ?_ GE766.out | refine below_set ?_ GE775.out | refine below_set ?_ GE776.out) | exact HB.out)⟩
              · rw [if_neg c88] at H
                have c88b0 : (t777 == t781) = false := beq_eq_false_iff_ne.mpr c88
                have c88b1 : (t777 != t781) = true := bne_iff_ne.mpr c88
                obtain rfl := Option.some.inj H
                have hnb102 := NB765_766.out
                have hnc102 := NB766_765.out
                have hnb103 := NB765_775.out
                have hnc103 := NB775_765.out
                have hnb104 := NB765_776.out
                have hnc104 := NB776_765.out
                have hcz105_0 : wc.cell? ⟨gb765, 0, none⟩ = some (.bool t757) := (blk_cell BK765.out 0).trans rfl
                have hcz105_1 : wc.cell? ⟨gb765, 1, none⟩ = some (.slice Ao16 t758.length co16) := (blk_cell BK765.out 1).trans rfl
                have hfz105_0 := blk_frozen BK765.out 0
                have hfz105_1 := blk_frozen BK765.out 1
                have hnb106 := NB766_775.out
                have hnc106 := NB775_766.out
                have hnb107 := NB766_776.out
                have hnc107 := NB776_766.out
                have hcz108_0 : wc.cell? ⟨gb766, 0, none⟩ = some (.bool t761) := (blk_cell BK766.out 0).trans rfl
                have hcz108_1 : wc.cell? ⟨gb766, 1, none⟩ = some (.slice Ao18 t762.length co18) := (blk_cell BK766.out 1).trans rfl
                have hfz108_0 := blk_frozen BK766.out 0
                have hfz108_1 := blk_frozen BK766.out 1
                go_wp2_with (first | ((with_reducible refine gate_callee (f := 34) rfl ?_); refine goesL_ (some 58) rfl rfl Try.func34 (by kernel_rfl) rfl #[.agg #[.bool t757, .slice Ao16 t758.length co16], .agg #[.bool t761, .slice Ao18 t762.length co18]] rfl (by (try simp only [List.map_toArray, List.map_cons, List.map_nil]); first | done | rfl | (simp only [List.length_drop, List.length_take]; rfl)) ?_; (with_reducible refine (spec_BigCmp.calls kj9 t757 _ _ t758 t761 _ _ t762 t781 _ ?side1 ?side2 ?side3 ?side4 A87.out).mono ?_); (case side1 => repeat (first | exact (Kd.R_reads' HO_766001.out).2.2 | (with_reducible refine Kd.C_alloc ?_ _) | (with_reducible refine Kd.C_drewN ?_ _) | (with_reducible refine Kd.C_drew ?_))); (case side2 => exact (Kd.R_reads' HO_766001.out).2.1); (case side3 => repeat (first | exact (Kd.R_reads' HO_767001.out).2.2 | (with_reducible refine Kd.C_alloc ?_ _) | (with_reducible refine Kd.C_drewN ?_ _) | (with_reducible refine Kd.C_drew ?_))); (case side4 => exact (Kd.R_reads' HO_767001.out).2.1); rintro e w109 ⟨rfl, hb⟩; refine ⟨_, rfl, ?_⟩; have n0_ := Aside0.mk (Kd.R_below (by (with_reducible repeat (first | apply Kd.R_alloc | apply Kd.R_drewN | apply Kd.R_drew)); exact HO_766001.out) hb); have n1_ := Aside0.mk (Kd.R_below (by (with_reducible repeat (first | apply Kd.R_alloc | apply Kd.R_drewN | apply Kd.R_drew)); exact HO_767001.out) hb); have n2_ := Aside0.mk (Kd.R_below (by (with_reducible repeat (first | apply Kd.R_alloc | apply Kd.R_drewN | apply Kd.R_drew)); exact HO_776001.out) hb); have n3_ := Aside0.mk (Kd.R_below (by (with_reducible repeat (first | apply Kd.R_alloc | apply Kd.R_drewN | apply Kd.R_drew)); exact HO_777001.out) hb); have n4_ := Aside0.mk (blk_below (g := gb765) (o := .cells #[.bool t757, .slice Ao16 t758.length co16] 27 (0, 0)) (by (with_reducible repeat (first | refine blk_drewN ?_ _ | refine blk_drew ?_ | refine blk_alloc ?_ _)); exact BK765.out) hb); have n5_ := Aside0.mk (blk_below (g := gb766) (o := .cells #[.bool t761, .slice Ao18 t762.length co18] 27 (0, 0)) (by (with_reducible repeat (first | refine blk_drewN ?_ _ | refine blk_drew ?_ | refine blk_alloc ?_ _)); exact BK766.out) hb); have n6_ := Aside0.mk (blk_below (g := gb775) (o := .cells #[.bool t767, .slice Ao26 t768.length co26] 27 (0, 0)) (by (with_reducible repeat (first | refine blk_drewN ?_ _ | refine blk_drew ?_ | refine blk_alloc ?_ _)); exact BK775.out) hb); have n7_ := Aside0.mk (blk_below (g := gb776) (o := .cells #[.bool t771, .slice Ao30 t772.length co30] 27 (0, 0)) (by (with_reducible repeat (first | refine blk_drewN ?_ _ | refine blk_drew ?_ | refine blk_alloc ?_ _)); exact BK776.out) hb); have n8_ := Aside0.mk (below_step (by repeat (first | (with_reducible first | exact HB.out | apply below_alloc | apply pw_below_drewN | apply below_drew1 | refine below_set ?_ GE765.out | refine below_set ?_ GE766.out | refine below_set ?_ GE775.out | refine below_set ?_ GE776.out) | exact HB.out)) hb); clear HO_766001; clear HO_767001; clear HO_776001; clear HO_777001; clear BK765; clear BK766; clear BK775; clear BK776; clear HB; have HO_766001 := n0_; have HO_767001 := n1_; have HO_776001 := n2_; have HO_777001 := n3_; have BK765 := n4_; have BK766 := n5_; have BK775 := n6_; have BK776 := n7_; have HB := n8_; clear n0_ n1_ n2_ n3_ n4_ n5_ n6_ n7_ n8_; (try clear hb); (try clear hb2); (try clear hk); (try clear hi)))
                go_ret
                exact ⟨by first | rfl | (simp [errW_none, errW_some] <;> rfl) | (simp [*, errW_none, errW_some] <;> rfl), by repeat (first | (with_reducible first | exact HB.out | apply below_alloc | apply pw_below_drewN | apply below_drew1 | refine below_set ?_ GE765.out | refine below_set ?_ GE766.out | refine below_set ?_ GE775.out | refine below_set ?_ GE776.out) | exact HB.out)⟩
            · replace c86 := Bool.eq_false_iff.mpr c86
              subst c86
              have H1 : (if t777 ≤ 0 then (laws_FnBigCmpThree.j2 kj9 t777 t778 (decide (t778 ≤ 0)) t757 t758 t767 t768) else (laws_FnBigCmpThree.j2 kj9 t777 t778 false t757 t758 t767 t768)) = some r := by rw [if_neg (show ¬ (false = true) by decide)] at H; exact H
              clear H
              have H := H1
              clear H1
              have HC110 := Aside0.mk H
              clear H
              go_upto_region 9 with (fail)
              go_cut [72] (fun v72 wc => ∃ (kq : Nat) (x72_109 : Bool), v72 = .bool x72_109 ∧ Aside0 (laws_FnBigCmpThree.j2 kq t777 t778 x72_109 t757 t758 t767 t768 = some r) ∧ Aside0 (kq ≤ kj9) ∧ Aside0 (Kd.R (Kd.int .i64) 3 wc w.heap.size (fun k_ => some k_ ≠ ((.slice Ao18 t762.length co18) : Value).ownBlock ∧ some k_ ≠ ((.slice Ao26 t768.length co26) : Value).ownBlock ∧ some k_ ≠ ((.slice Ao30 t772.length co30) : Value).ownBlock) (.slice Ao16 t758.length co16) t758) ∧ Aside0 (Kd.R (Kd.int .i64) 3 wc w.heap.size (fun k_ => some k_ ≠ ((.slice Ao16 t758.length co16) : Value).ownBlock ∧ some k_ ≠ ((.slice Ao26 t768.length co26) : Value).ownBlock ∧ some k_ ≠ ((.slice Ao30 t772.length co30) : Value).ownBlock) (.slice Ao18 t762.length co18) t762) ∧ Aside0 (Kd.R (Kd.int .i64) 3 wc w.heap.size (fun k_ => some k_ ≠ ((.slice Ao16 t758.length co16) : Value).ownBlock ∧ some k_ ≠ ((.slice Ao18 t762.length co18) : Value).ownBlock ∧ some k_ ≠ ((.slice Ao30 t772.length co30) : Value).ownBlock) (.slice Ao26 t768.length co26) t768) ∧ Aside0 (Kd.R (Kd.int .i64) 3 wc w.heap.size (fun k_ => some k_ ≠ ((.slice Ao16 t758.length co16) : Value).ownBlock ∧ some k_ ≠ ((.slice Ao18 t762.length co18) : Value).ownBlock ∧ some k_ ≠ ((.slice Ao26 t768.length co26) : Value).ownBlock) (.slice Ao30 t772.length co30) t772) ∧ Aside0 (wc.heap[gb765]? = some (.cells #[.bool t757, (.slice Ao16 t758.length co16)] 27 (0, 0))) ∧ Aside0 (wc.heap[gb766]? = some (.cells #[.bool t761, (.slice Ao18 t762.length co18)] 27 (0, 0))) ∧ Aside0 (wc.heap[gb775]? = some (.cells #[.bool t767, (.slice Ao26 t768.length co26)] 27 (0, 0))) ∧ Aside0 (wc.heap[gb776]? = some (.cells #[.bool t771, (.slice Ao30 t772.length co30)] 27 (0, 0))) ∧ Aside0 (Below w.heap.size w wc))
              case first =>
                have H := HC110.out
                clear HC110
                by_cases c111 : t777 ≤ 0
                · rw [if_pos c111] at H
                  have c111b0 : decide (t777 ≤ 0) = true := decide_eq_true c111
                  clear c111
                  (first | rw [c111b0] | (simp only [i64_w, i32_w]; rw [c111b0]) | skip)
                  have H' := Aside0.mk H
                  clear H
                  go_wp2
                  go_meet
                  case rel => exact ⟨_, (decide (t778 ≤ 0)), (by first | rfl | (simp; done) | (simp [*]; done)), H', ⟨by have := HJ2.out; have := HJ9.out; first | omega | exact Nat.le_refl _⟩, ⟨by (with_reducible repeat (first | apply Kd.R_alloc | apply Kd.R_drewN | apply Kd.R_drew)); exact HO_766001.out⟩, ⟨by (with_reducible repeat (first | apply Kd.R_alloc | apply Kd.R_drewN | apply Kd.R_drew)); exact HO_767001.out⟩, ⟨by (with_reducible repeat (first | apply Kd.R_alloc | apply Kd.R_drewN | apply Kd.R_drew)); exact HO_776001.out⟩, ⟨by (with_reducible repeat (first | apply Kd.R_alloc | apply Kd.R_drewN | apply Kd.R_drew)); exact HO_777001.out⟩, ⟨by (with_reducible repeat (first | refine blk_drewN ?_ _ | refine blk_drew ?_ | refine blk_alloc ?_ _)); exact BK765.out⟩, ⟨by (with_reducible repeat (first | refine blk_drewN ?_ _ | refine blk_drew ?_ | refine blk_alloc ?_ _)); exact BK766.out⟩, ⟨by (with_reducible repeat (first | refine blk_drewN ?_ _ | refine blk_drew ?_ | refine blk_alloc ?_ _)); exact BK775.out⟩, ⟨by (with_reducible repeat (first | refine blk_drewN ?_ _ | refine blk_drew ?_ | refine blk_alloc ?_ _)); exact BK776.out⟩, ⟨by repeat (first | (with_reducible first | exact HB.out | apply below_alloc | apply pw_below_drewN | apply below_drew1 | refine below_set ?_ GE765.out | refine below_set ?_ GE766.out | refine below_set ?_ GE775.out | refine below_set ?_ GE776.out) | exact HB.out)⟩⟩
                · rw [if_neg c111] at H
                  have c111b0 : decide (t777 ≤ 0) = false := decide_eq_false c111
                  clear c111
                  (first | rw [c111b0] | (simp only [i64_w, i32_w]; rw [c111b0]) | skip)
                  have H' := Aside0.mk H
                  clear H
                  go_wp2
                  go_meet
                  case rel => exact ⟨_, (false), (by first | rfl | (simp; done) | (simp [*]; done)), H', ⟨by have := HJ2.out; have := HJ9.out; first | omega | exact Nat.le_refl _⟩, ⟨by (with_reducible repeat (first | apply Kd.R_alloc | apply Kd.R_drewN | apply Kd.R_drew)); exact HO_766001.out⟩, ⟨by (with_reducible repeat (first | apply Kd.R_alloc | apply Kd.R_drewN | apply Kd.R_drew)); exact HO_767001.out⟩, ⟨by (with_reducible repeat (first | apply Kd.R_alloc | apply Kd.R_drewN | apply Kd.R_drew)); exact HO_776001.out⟩, ⟨by (with_reducible repeat (first | apply Kd.R_alloc | apply Kd.R_drewN | apply Kd.R_drew)); exact HO_777001.out⟩, ⟨by (with_reducible repeat (first | refine blk_drewN ?_ _ | refine blk_drew ?_ | refine blk_alloc ?_ _)); exact BK765.out⟩, ⟨by (with_reducible repeat (first | refine blk_drewN ?_ _ | refine blk_drew ?_ | refine blk_alloc ?_ _)); exact BK766.out⟩, ⟨by (with_reducible repeat (first | refine blk_drewN ?_ _ | refine blk_drew ?_ | refine blk_alloc ?_ _)); exact BK775.out⟩, ⟨by (with_reducible repeat (first | refine blk_drewN ?_ _ | refine blk_drew ?_ | refine blk_alloc ?_ _)); exact BK776.out⟩, ⟨by repeat (first | (with_reducible first | exact HB.out | apply below_alloc | apply pw_below_drewN | apply below_drew1 | refine below_set ?_ GE765.out | refine below_set ?_ GE766.out | refine below_set ?_ GE775.out | refine below_set ?_ GE776.out) | exact HB.out)⟩⟩
              case rest =>
                clear HC110
                try clear c1
                try clear c2
                try clear p2
                try clear c3
                try clear c4
                try clear c4b0
                try clear c4b1
                try clear c5
                try clear c6
                try clear c7
                try clear c8
                try clear c9
                try clear c10
                try clear c11
                try clear c14
                try clear c22
                try clear c23
                try clear c24
                try clear c27
                try clear c28
                try clear c34
                try clear c35
                try clear c37
                try clear c38
                try clear c38b0
                try clear c38b1
                try clear c40
                try clear c40b0
                try clear c40b1
                try clear c41
                try clear c41b0
                try clear c41b1
                try clear c42
                try clear c43
                try clear c44
                try clear c46
                try clear c47
                try clear c51
                try clear c54
                try clear c55
                try clear c56
                try clear c58
                try clear c59
                try clear c63
                try clear c66
                try clear c67
                try clear c68
                try clear c70
                try clear c71
                try clear c75
                try clear c78
                try clear c79
                try clear c80
                try clear c82
                try clear c83
                try clear c86
                try clear c88
                try clear c88b0
                try clear c88b1
                try clear c90
                try clear c91
                try clear c92
                try clear c94
                try clear c95
                try clear c99
                try clear c102
                try clear c103
                try clear c104
                try clear c106
                try clear c107
                try clear c111
                try clear c111b0
                try clear hcz100_0
                try clear hcz100_1
                try clear hcz105_0
                try clear hcz105_1
                try clear hcz108_0
                try clear hcz108_1
                try clear hcz15_0
                try clear hcz15_1
                try clear hcz17_0
                try clear hcz17_1
                try clear hcz25_0
                try clear hcz25_1
                try clear hcz29_0
                try clear hcz29_1
                try clear hcz31_0
                try clear hcz31_1
                try clear hcz32_0
                try clear hcz32_1
                try clear hcz34_0
                try clear hcz34_1
                try clear hcz35_0
                try clear hcz35_1
                try clear hcz45_0
                try clear hcz45_1
                try clear hcz48_0
                try clear hcz48_1
                try clear hcz50_0
                try clear hcz50_1
                try clear hcz52_0
                try clear hcz52_1
                try clear hcz57_0
                try clear hcz57_1
                try clear hcz60_0
                try clear hcz60_1
                try clear hcz62_0
                try clear hcz62_1
                try clear hcz64_0
                try clear hcz64_1
                try clear hcz69_0
                try clear hcz69_1
                try clear hcz72_0
                try clear hcz72_1
                try clear hcz74_0
                try clear hcz74_1
                try clear hcz76_0
                try clear hcz76_1
                try clear hcz81_0
                try clear hcz81_1
                try clear hcz84_0
                try clear hcz84_1
                try clear hcz93_0
                try clear hcz93_1
                try clear hcz96_0
                try clear hcz96_1
                try clear hcz98_0
                try clear hcz98_1
                try clear hfz100_0
                try clear hfz100_1
                try clear hfz105_0
                try clear hfz105_1
                try clear hfz108_0
                try clear hfz108_1
                try clear hfz15_0
                try clear hfz15_1
                try clear hfz17_0
                try clear hfz17_1
                try clear hfz25_0
                try clear hfz25_1
                try clear hfz29_0
                try clear hfz29_1
                try clear hfz31_0
                try clear hfz31_1
                try clear hfz32_0
                try clear hfz32_1
                try clear hfz34_0
                try clear hfz34_1
                try clear hfz35_0
                try clear hfz35_1
                try clear hfz45_0
                try clear hfz45_1
                try clear hfz48_0
                try clear hfz48_1
                try clear hfz50_0
                try clear hfz50_1
                try clear hfz52_0
                try clear hfz52_1
                try clear hfz57_0
                try clear hfz57_1
                try clear hfz60_0
                try clear hfz60_1
                try clear hfz62_0
                try clear hfz62_1
                try clear hfz64_0
                try clear hfz64_1
                try clear hfz69_0
                try clear hfz69_1
                try clear hfz72_0
                try clear hfz72_1
                try clear hfz74_0
                try clear hfz74_1
                try clear hfz76_0
                try clear hfz76_1
                try clear hfz81_0
                try clear hfz81_1
                try clear hfz84_0
                try clear hfz84_1
                try clear hfz93_0
                try clear hfz93_1
                try clear hfz96_0
                try clear hfz96_1
                try clear hfz98_0
                try clear hfz98_1
                try clear p2
                obtain ⟨kq, x72_109, rfl, HA, HJ109, HO_766001, HO_767001, HO_776001, HO_777001, BK765, BK766, BK775, BK776, HB⟩ := hcut
                cases kq with
                | zero => exact absurd HA.out (by simp [laws_FnBigCmpThree.j2])
                | succ kj109 =>
                  have H := HA.out
                  clear HA
                  simp only [laws_FnBigCmpThree.j2] at H
                  by_cases c112 : x72_109 = true
                  · subst c112
                    have H1 : ((impl_BigCmp.f kj109 t757 t758 t767 t768).bind fun t783 => (if t783 ≤ 0 then ((impl_BigCmp.f kj109 t757 t758 t767 t768).bind fun t784 => (if t777 = 0 then (some ((t784 == 0) == (t778 == 0))) else (some ((t784 == 0) == false)))) else (some false))) = some r := by rw [if_pos rfl] at H; exact H
                    clear H
                    have H := H1
                    clear H1
                    replace H := Option.bind_eq_some_iff.mp H
                    obtain ⟨t783, A1130, H⟩ := H
                    replace H : (if t783 ≤ 0 then ((impl_BigCmp.f kj109 t757 t758 t767 t768).bind fun t784 => (if t777 = 0 then (some ((t784 == 0) == (t778 == 0))) else (some ((t784 == 0) == false)))) else (some false)) = some r := H
                    have A113 := Aside0.mk A1130
                    clear A1130
                    by_cases c114 : t783 ≤ 0
                    · rw [if_pos c114] at H
                      have c114b0 : decide (t783 ≤ 0) = true := decide_eq_true c114
                      clear c114
                      replace H := Option.bind_eq_some_iff.mp H
                      obtain ⟨t784, A1150, H⟩ := H
                      replace H : (if t777 = 0 then (some ((t784 == 0) == (t778 == 0))) else (some ((t784 == 0) == false))) = some r := H
                      have A115 := Aside0.mk A1150
                      clear A1150
                      by_cases c116 : t777 = 0
                      · rw [if_pos c116] at H
                        have c116b0 : (t777 == 0) = true := beq_iff_eq.mpr c116
                        have c116b1 : (t777 != 0) = false := bne_eq_false_iff_eq.mpr c116
                        clear c116
                        obtain rfl := Option.some.inj H
                        have hnb117 := NB765_766.out
                        have hnc117 := NB766_765.out
                        have hnb118 := NB765_775.out
                        have hnc118 := NB775_765.out
                        have hnb119 := NB765_776.out
                        have hnc119 := NB776_765.out
                        have hcz120_0 : wc.cell? ⟨gb765, 0, none⟩ = some (.bool t757) := (blk_cell BK765.out 0).trans rfl
                        have hcz120_1 : wc.cell? ⟨gb765, 1, none⟩ = some (.slice Ao16 t758.length co16) := (blk_cell BK765.out 1).trans rfl
                        have hfz120_0 := blk_frozen BK765.out 0
                        have hfz120_1 := blk_frozen BK765.out 1
                        have hnb121 := NB775_766.out
                        have hnc121 := NB766_775.out
                        have hnb122 := NB775_776.out
                        have hnc122 := NB776_775.out
                        have hcz123_0 : wc.cell? ⟨gb775, 0, none⟩ = some (.bool t767) := (blk_cell BK775.out 0).trans rfl
                        have hcz123_1 : wc.cell? ⟨gb775, 1, none⟩ = some (.slice Ao26 t768.length co26) := (blk_cell BK775.out 1).trans rfl
                        have hfz123_0 := blk_frozen BK775.out 0
                        have hfz123_1 := blk_frozen BK775.out 1
                        go_wp2_with (first | ((with_reducible refine gate_callee (f := 35) rfl ?_); refine goesL_ (some 75) rfl rfl Try.func35 (by kernel_rfl) rfl #[.agg #[.bool t757, .slice Ao16 t758.length co16], .agg #[.bool t767, .slice Ao26 t768.length co26]] rfl (by (try simp only [List.map_toArray, List.map_cons, List.map_nil]); first | done | rfl | (simp only [List.length_drop, List.length_take]; rfl)) ?_; (with_reducible refine (impl_BigCmp.calls kj109 t757 _ _ t758 t767 _ _ t768 t783 _ ?side1 ?side2 ?side3 ?side4 A113.out).mono ?_); (case side1 => repeat (first | exact (Kd.R_reads' HO_766001.out).2.2 | (with_reducible refine Kd.C_alloc ?_ _) | (with_reducible refine Kd.C_drewN ?_ _) | (with_reducible refine Kd.C_drew ?_))); (case side2 => exact (Kd.R_reads' HO_766001.out).2.1); (case side3 => repeat (first | exact (Kd.R_reads' HO_776001.out).2.2 | (with_reducible refine Kd.C_alloc ?_ _) | (with_reducible refine Kd.C_drewN ?_ _) | (with_reducible refine Kd.C_drew ?_))); (case side4 => exact (Kd.R_reads' HO_776001.out).2.1); rintro e w124 ⟨rfl, hb⟩; refine ⟨_, rfl, ?_⟩; have n0_ := Aside0.mk (Kd.R_below (by (with_reducible repeat (first | apply Kd.R_alloc | apply Kd.R_drewN | apply Kd.R_drew)); exact HO_766001.out) hb); have n1_ := Aside0.mk (Kd.R_below (by (with_reducible repeat (first | apply Kd.R_alloc | apply Kd.R_drewN | apply Kd.R_drew)); exact HO_767001.out) hb); have n2_ := Aside0.mk (Kd.R_below (by (with_reducible repeat (first | apply Kd.R_alloc | apply Kd.R_drewN | apply Kd.R_drew)); exact HO_776001.out) hb); have n3_ := Aside0.mk (Kd.R_below (by (with_reducible repeat (first | apply Kd.R_alloc | apply Kd.R_drewN | apply Kd.R_drew)); exact HO_777001.out) hb); have n4_ := Aside0.mk (blk_below (g := gb765) (o := .cells #[.bool t757, .slice Ao16 t758.length co16] 27 (0, 0)) (by (with_reducible repeat (first | refine blk_drewN ?_ _ | refine blk_drew ?_ | refine blk_alloc ?_ _)); exact BK765.out) hb); have n5_ := Aside0.mk (blk_below (g := gb766) (o := .cells #[.bool t761, .slice Ao18 t762.length co18] 27 (0, 0)) (by (with_reducible repeat (first | refine blk_drewN ?_ _ | refine blk_drew ?_ | refine blk_alloc ?_ _)); exact BK766.out) hb); have n6_ := Aside0.mk (blk_below (g := gb775) (o := .cells #[.bool t767, .slice Ao26 t768.length co26] 27 (0, 0)) (by (with_reducible repeat (first | refine blk_drewN ?_ _ | refine blk_drew ?_ | refine blk_alloc ?_ _)); exact BK775.out) hb); have n7_ := Aside0.mk (blk_below (g := gb776) (o := .cells #[.bool t771, .slice Ao30 t772.length co30] 27 (0, 0)) (by (with_reducible repeat (first | refine blk_drewN ?_ _ | refine blk_drew ?_ | refine blk_alloc ?_ _)); exact BK776.out) hb); have n8_ := Aside0.mk (below_step (by repeat (first | (with_reducible first | exact HB.out | apply below_alloc | apply pw_below_drewN | apply below_drew1 | refine below_set ?_ GE765.out | refine below_set ?_ GE766.out | refine below_set ?_ GE775.out | refine below_set ?_ GE776.out) | exact HB.out)) hb); clear HO_766001; clear HO_767001; clear HO_776001; clear HO_777001; clear BK765; clear BK766; clear BK775; clear BK776; clear HB; have HO_766001 := n0_; have HO_767001 := n1_; have HO_776001 := n2_; have HO_777001 := n3_; have BK765 := n4_; have BK766 := n5_; have BK775 := n6_; have BK776 := n7_; have HB := n8_; clear n0_ n1_ n2_ n3_ n4_ n5_ n6_ n7_ n8_; (try clear hb); (try clear hb2); (try clear hk); (try clear hi); have hcz125_0 : w124.cell? ⟨gb765, 0, none⟩ = some (.bool t757) := (blk_cell BK765.out 0).trans rfl; have hcz125_1 : w124.cell? ⟨gb765, 1, none⟩ = some (.slice Ao16 t758.length co16) := (blk_cell BK765.out 1).trans rfl; have hfz125_0 := blk_frozen BK765.out 0; have hfz125_1 := blk_frozen BK765.out 1; have hcz126_0 : w124.cell? ⟨gb775, 0, none⟩ = some (.bool t767) := (blk_cell BK775.out 0).trans rfl; have hcz126_1 : w124.cell? ⟨gb775, 1, none⟩ = some (.slice Ao26 t768.length co26) := (blk_cell BK775.out 1).trans rfl; have hfz126_0 := blk_frozen BK775.out 0; have hfz126_1 := blk_frozen BK775.out 1) | (go_at_call 35; (with_reducible refine (impl_BigCmp.calls kj109 t757 _ _ t758 t767 _ _ t768 t784 _ ?side1 ?side2 ?side3 ?side4 A115.out).mono ?_); (case side1 => repeat (first | exact (Kd.R_reads' HO_766001.out).2.2 | (with_reducible refine Kd.C_alloc ?_ _) | (with_reducible refine Kd.C_drewN ?_ _) | (with_reducible refine Kd.C_drew ?_))); (case side2 => exact (Kd.R_reads' HO_766001.out).2.1); (case side3 => repeat (first | exact (Kd.R_reads' HO_776001.out).2.2 | (with_reducible refine Kd.C_alloc ?_ _) | (with_reducible refine Kd.C_drewN ?_ _) | (with_reducible refine Kd.C_drew ?_))); (case side4 => exact (Kd.R_reads' HO_776001.out).2.1); rintro e w127 ⟨rfl, hb⟩; have n0_ := Aside0.mk (Kd.R_below (by (with_reducible repeat (first | apply Kd.R_alloc | apply Kd.R_drewN | apply Kd.R_drew)); exact HO_766001.out) hb); have n1_ := Aside0.mk (Kd.R_below (by (with_reducible repeat (first | apply Kd.R_alloc | apply Kd.R_drewN | apply Kd.R_drew)); exact HO_767001.out) hb); have n2_ := Aside0.mk (Kd.R_below (by (with_reducible repeat (first | apply Kd.R_alloc | apply Kd.R_drewN | apply Kd.R_drew)); exact HO_776001.out) hb); have n3_ := Aside0.mk (Kd.R_below (by (with_reducible repeat (first | apply Kd.R_alloc | apply Kd.R_drewN | apply Kd.R_drew)); exact HO_777001.out) hb); have n4_ := Aside0.mk (blk_below (g := gb765) (o := .cells #[.bool t757, .slice Ao16 t758.length co16] 27 (0, 0)) (by (with_reducible repeat (first | refine blk_drewN ?_ _ | refine blk_drew ?_ | refine blk_alloc ?_ _)); exact BK765.out) hb); have n5_ := Aside0.mk (blk_below (g := gb766) (o := .cells #[.bool t761, .slice Ao18 t762.length co18] 27 (0, 0)) (by (with_reducible repeat (first | refine blk_drewN ?_ _ | refine blk_drew ?_ | refine blk_alloc ?_ _)); exact BK766.out) hb); have n6_ := Aside0.mk (blk_below (g := gb775) (o := .cells #[.bool t767, .slice Ao26 t768.length co26] 27 (0, 0)) (by (with_reducible repeat (first | refine blk_drewN ?_ _ | refine blk_drew ?_ | refine blk_alloc ?_ _)); exact BK775.out) hb); have n7_ := Aside0.mk (blk_below (g := gb776) (o := .cells #[.bool t771, .slice Ao30 t772.length co30] 27 (0, 0)) (by (with_reducible repeat (first | refine blk_drewN ?_ _ | refine blk_drew ?_ | refine blk_alloc ?_ _)); exact BK776.out) hb); have n8_ := Aside0.mk (below_step (by repeat (first | (with_reducible first | exact HB.out | apply below_alloc | apply pw_below_drewN | apply below_drew1 | refine below_set ?_ GE765.out | refine below_set ?_ GE766.out | refine below_set ?_ GE775.out | refine below_set ?_ GE776.out) | exact HB.out)) hb); clear HO_766001; clear HO_767001; clear HO_776001; clear HO_777001; clear BK765; clear BK766; clear BK775; clear BK776; clear HB; have HO_766001 := n0_; have HO_767001 := n1_; have HO_776001 := n2_; have HO_777001 := n3_; have BK765 := n4_; have BK766 := n5_; have BK775 := n6_; have BK776 := n7_; have HB := n8_; clear n0_ n1_ n2_ n3_ n4_ n5_ n6_ n7_ n8_; (try clear hb); (try clear hb2); (try clear hk); (try clear hi)))
                        go_ret
                        exact ⟨by first | rfl | (simp [errW_none, errW_some] <;> rfl) | (simp [*, errW_none, errW_some] <;> rfl), by repeat (first | (with_reducible first | exact HB.out | apply below_alloc | apply pw_below_drewN | apply below_drew1 | refine below_set ?_ GE765.out | refine below_set ?_ GE766.out | refine below_set ?_ GE775.out | refine below_set ?_ GE776.out) | exact HB.out)⟩
                      · rw [if_neg c116] at H
                        have c116b0 : (t777 == 0) = false := beq_eq_false_iff_ne.mpr c116
                        have c116b1 : (t777 != 0) = true := bne_iff_ne.mpr c116
                        obtain rfl := Option.some.inj H
                        have hnb128 := NB765_766.out
                        have hnc128 := NB766_765.out
                        have hnb129 := NB765_775.out
                        have hnc129 := NB775_765.out
                        have hnb130 := NB765_776.out
                        have hnc130 := NB776_765.out
                        have hcz131_0 : wc.cell? ⟨gb765, 0, none⟩ = some (.bool t757) := (blk_cell BK765.out 0).trans rfl
                        have hcz131_1 : wc.cell? ⟨gb765, 1, none⟩ = some (.slice Ao16 t758.length co16) := (blk_cell BK765.out 1).trans rfl
                        have hfz131_0 := blk_frozen BK765.out 0
                        have hfz131_1 := blk_frozen BK765.out 1
                        have hnb132 := NB775_766.out
                        have hnc132 := NB766_775.out
                        have hnb133 := NB775_776.out
                        have hnc133 := NB776_775.out
                        have hcz134_0 : wc.cell? ⟨gb775, 0, none⟩ = some (.bool t767) := (blk_cell BK775.out 0).trans rfl
                        have hcz134_1 : wc.cell? ⟨gb775, 1, none⟩ = some (.slice Ao26 t768.length co26) := (blk_cell BK775.out 1).trans rfl
                        have hfz134_0 := blk_frozen BK775.out 0
                        have hfz134_1 := blk_frozen BK775.out 1
                        go_wp2_with (first | ((with_reducible refine gate_callee (f := 35) rfl ?_); refine goesL_ (some 75) rfl rfl Try.func35 (by kernel_rfl) rfl #[.agg #[.bool t757, .slice Ao16 t758.length co16], .agg #[.bool t767, .slice Ao26 t768.length co26]] rfl (by (try simp only [List.map_toArray, List.map_cons, List.map_nil]); first | done | rfl | (simp only [List.length_drop, List.length_take]; rfl)) ?_; (with_reducible refine (impl_BigCmp.calls kj109 t757 _ _ t758 t767 _ _ t768 t783 _ ?side1 ?side2 ?side3 ?side4 A113.out).mono ?_); (case side1 => repeat (first | exact (Kd.R_reads' HO_766001.out).2.2 | (with_reducible refine Kd.C_alloc ?_ _) | (with_reducible refine Kd.C_drewN ?_ _) | (with_reducible refine Kd.C_drew ?_))); (case side2 => exact (Kd.R_reads' HO_766001.out).2.1); (case side3 => repeat (first | exact (Kd.R_reads' HO_776001.out).2.2 | (with_reducible refine Kd.C_alloc ?_ _) | (with_reducible refine Kd.C_drewN ?_ _) | (with_reducible refine Kd.C_drew ?_))); (case side4 => exact (Kd.R_reads' HO_776001.out).2.1); rintro e w135 ⟨rfl, hb⟩; refine ⟨_, rfl, ?_⟩; have n0_ := Aside0.mk (Kd.R_below (by (with_reducible repeat (first | apply Kd.R_alloc | apply Kd.R_drewN | apply Kd.R_drew)); exact HO_766001.out) hb); have n1_ := Aside0.mk (Kd.R_below (by (with_reducible repeat (first | apply Kd.R_alloc | apply Kd.R_drewN | apply Kd.R_drew)); exact HO_767001.out) hb); have n2_ := Aside0.mk (Kd.R_below (by (with_reducible repeat (first | apply Kd.R_alloc | apply Kd.R_drewN | apply Kd.R_drew)); exact HO_776001.out) hb); have n3_ := Aside0.mk (Kd.R_below (by (with_reducible repeat (first | apply Kd.R_alloc | apply Kd.R_drewN | apply Kd.R_drew)); exact HO_777001.out) hb); have n4_ := Aside0.mk (blk_below (g := gb765) (o := .cells #[.bool t757, .slice Ao16 t758.length co16] 27 (0, 0)) (by (with_reducible repeat (first | refine blk_drewN ?_ _ | refine blk_drew ?_ | refine blk_alloc ?_ _)); exact BK765.out) hb); have n5_ := Aside0.mk (blk_below (g := gb766) (o := .cells #[.bool t761, .slice Ao18 t762.length co18] 27 (0, 0)) (by (with_reducible repeat (first | refine blk_drewN ?_ _ | refine blk_drew ?_ | refine blk_alloc ?_ _)); exact BK766.out) hb); have n6_ := Aside0.mk (blk_below (g := gb775) (o := .cells #[.bool t767, .slice Ao26 t768.length co26] 27 (0, 0)) (by (with_reducible repeat (first | refine blk_drewN ?_ _ | refine blk_drew ?_ | refine blk_alloc ?_ _)); exact BK775.out) hb); have n7_ := Aside0.mk (blk_below (g := gb776) (o := .cells #[.bool t771, .slice Ao30 t772.length co30] 27 (0, 0)) (by (with_reducible repeat (first | refine blk_drewN ?_ _ | refine blk_drew ?_ | refine blk_alloc ?_ _)); exact BK776.out) hb); have n8_ := Aside0.mk (below_step (by repeat (first | (with_reducible first | exact HB.out | apply below_alloc | apply pw_below_drewN | apply below_drew1 | refine below_set ?_ GE765.out | refine below_set ?_ GE766.out | refine below_set ?_ GE775.out | refine below_set ?_ GE776.out) | exact HB.out)) hb); clear HO_766001; clear HO_767001; clear HO_776001; clear HO_777001; clear BK765; clear BK766; clear BK775; clear BK776; clear HB; have HO_766001 := n0_; have HO_767001 := n1_; have HO_776001 := n2_; have HO_777001 := n3_; have BK765 := n4_; have BK766 := n5_; have BK775 := n6_; have BK776 := n7_; have HB := n8_; clear n0_ n1_ n2_ n3_ n4_ n5_ n6_ n7_ n8_; (try clear hb); (try clear hb2); (try clear hk); (try clear hi); have hcz136_0 : w135.cell? ⟨gb765, 0, none⟩ = some (.bool t757) := (blk_cell BK765.out 0).trans rfl; have hcz136_1 : w135.cell? ⟨gb765, 1, none⟩ = some (.slice Ao16 t758.length co16) := (blk_cell BK765.out 1).trans rfl; have hfz136_0 := blk_frozen BK765.out 0; have hfz136_1 := blk_frozen BK765.out 1; have hcz137_0 : w135.cell? ⟨gb775, 0, none⟩ = some (.bool t767) := (blk_cell BK775.out 0).trans rfl; have hcz137_1 : w135.cell? ⟨gb775, 1, none⟩ = some (.slice Ao26 t768.length co26) := (blk_cell BK775.out 1).trans rfl; have hfz137_0 := blk_frozen BK775.out 0; have hfz137_1 := blk_frozen BK775.out 1) | (go_at_call 35; (with_reducible refine (impl_BigCmp.calls kj109 t757 _ _ t758 t767 _ _ t768 t784 _ ?side1 ?side2 ?side3 ?side4 A115.out).mono ?_); (case side1 => repeat (first | exact (Kd.R_reads' HO_766001.out).2.2 | (with_reducible refine Kd.C_alloc ?_ _) | (with_reducible refine Kd.C_drewN ?_ _) | (with_reducible refine Kd.C_drew ?_))); (case side2 => exact (Kd.R_reads' HO_766001.out).2.1); (case side3 => repeat (first | exact (Kd.R_reads' HO_776001.out).2.2 | (with_reducible refine Kd.C_alloc ?_ _) | (with_reducible refine Kd.C_drewN ?_ _) | (with_reducible refine Kd.C_drew ?_))); (case side4 => exact (Kd.R_reads' HO_776001.out).2.1); rintro e w138 ⟨rfl, hb⟩; have n0_ := Aside0.mk (Kd.R_below (by (with_reducible repeat (first | apply Kd.R_alloc | apply Kd.R_drewN | apply Kd.R_drew)); exact HO_766001.out) hb); have n1_ := Aside0.mk (Kd.R_below (by (with_reducible repeat (first | apply Kd.R_alloc | apply Kd.R_drewN | apply Kd.R_drew)); exact HO_767001.out) hb); have n2_ := Aside0.mk (Kd.R_below (by (with_reducible repeat (first | apply Kd.R_alloc | apply Kd.R_drewN | apply Kd.R_drew)); exact HO_776001.out) hb); have n3_ := Aside0.mk (Kd.R_below (by (with_reducible repeat (first | apply Kd.R_alloc | apply Kd.R_drewN | apply Kd.R_drew)); exact HO_777001.out) hb); have n4_ := Aside0.mk (blk_below (g := gb765) (o := .cells #[.bool t757, .slice Ao16 t758.length co16] 27 (0, 0)) (by (with_reducible repeat (first | refine blk_drewN ?_ _ | refine blk_drew ?_ | refine blk_alloc ?_ _)); exact BK765.out) hb); have n5_ := Aside0.mk (blk_below (g := gb766) (o := .cells #[.bool t761, .slice Ao18 t762.length co18] 27 (0, 0)) (by (with_reducible repeat (first | refine blk_drewN ?_ _ | refine blk_drew ?_ | refine blk_alloc ?_ _)); exact BK766.out) hb); have n6_ := Aside0.mk (blk_below (g := gb775) (o := .cells #[.bool t767, .slice Ao26 t768.length co26] 27 (0, 0)) (by (with_reducible repeat (first | refine blk_drewN ?_ _ | refine blk_drew ?_ | refine blk_alloc ?_ _)); exact BK775.out) hb); have n7_ := Aside0.mk (blk_below (g := gb776) (o := .cells #[.bool t771, .slice Ao30 t772.length co30] 27 (0, 0)) (by (with_reducible repeat (first | refine blk_drewN ?_ _ | refine blk_drew ?_ | refine blk_alloc ?_ _)); exact BK776.out) hb); have n8_ := Aside0.mk (below_step (by repeat (first | (with_reducible first | exact HB.out | apply below_alloc | apply pw_below_drewN | apply below_drew1 | refine below_set ?_ GE765.out | refine below_set ?_ GE766.out | refine below_set ?_ GE775.out | refine below_set ?_ GE776.out) | exact HB.out)) hb); clear HO_766001; clear HO_767001; clear HO_776001; clear HO_777001; clear BK765; clear BK766; clear BK775; clear BK776; clear HB; have HO_766001 := n0_; have HO_767001 := n1_; have HO_776001 := n2_; have HO_777001 := n3_; have BK765 := n4_; have BK766 := n5_; have BK775 := n6_; have BK776 := n7_; have HB := n8_; clear n0_ n1_ n2_ n3_ n4_ n5_ n6_ n7_ n8_; (try clear hb); (try clear hb2); (try clear hk); (try clear hi)))
                        go_ret
                        exact ⟨by first | rfl | (simp [errW_none, errW_some] <;> rfl) | (simp [*, errW_none, errW_some] <;> rfl), by repeat (first | (with_reducible first | exact HB.out | apply below_alloc | apply pw_below_drewN | apply below_drew1 | refine below_set ?_ GE765.out | refine below_set ?_ GE766.out | refine below_set ?_ GE775.out | refine below_set ?_ GE776.out) | exact HB.out)⟩
                    · rw [if_neg c114] at H
                      have c114b0 : decide (t783 ≤ 0) = false := decide_eq_false c114
                      clear c114
                      obtain rfl := Option.some.inj H
                      have hnb139 := NB765_766.out
                      have hnc139 := NB766_765.out
                      have hnb140 := NB765_775.out
                      have hnc140 := NB775_765.out
                      have hnb141 := NB765_776.out
                      have hnc141 := NB776_765.out
                      have hcz142_0 : wc.cell? ⟨gb765, 0, none⟩ = some (.bool t757) := (blk_cell BK765.out 0).trans rfl
                      have hcz142_1 : wc.cell? ⟨gb765, 1, none⟩ = some (.slice Ao16 t758.length co16) := (blk_cell BK765.out 1).trans rfl
                      have hfz142_0 := blk_frozen BK765.out 0
                      have hfz142_1 := blk_frozen BK765.out 1
                      have hnb143 := NB775_766.out
                      have hnc143 := NB766_775.out
                      have hnb144 := NB775_776.out
                      have hnc144 := NB776_775.out
                      have hcz145_0 : wc.cell? ⟨gb775, 0, none⟩ = some (.bool t767) := (blk_cell BK775.out 0).trans rfl
                      have hcz145_1 : wc.cell? ⟨gb775, 1, none⟩ = some (.slice Ao26 t768.length co26) := (blk_cell BK775.out 1).trans rfl
                      have hfz145_0 := blk_frozen BK775.out 0
                      have hfz145_1 := blk_frozen BK775.out 1
                      go_wp2_with (first | ((with_reducible refine gate_callee (f := 35) rfl ?_); refine goesL_ (some 75) rfl rfl Try.func35 (by kernel_rfl) rfl #[.agg #[.bool t757, .slice Ao16 t758.length co16], .agg #[.bool t767, .slice Ao26 t768.length co26]] rfl (by (try simp only [List.map_toArray, List.map_cons, List.map_nil]); first | done | rfl | (simp only [List.length_drop, List.length_take]; rfl)) ?_; (with_reducible refine (impl_BigCmp.calls kj109 t757 _ _ t758 t767 _ _ t768 t783 _ ?side1 ?side2 ?side3 ?side4 A113.out).mono ?_); (case side1 => repeat (first | exact (Kd.R_reads' HO_766001.out).2.2 | (with_reducible refine Kd.C_alloc ?_ _) | (with_reducible refine Kd.C_drewN ?_ _) | (with_reducible refine Kd.C_drew ?_))); (case side2 => exact (Kd.R_reads' HO_766001.out).2.1); (case side3 => repeat (first | exact (Kd.R_reads' HO_776001.out).2.2 | (with_reducible refine Kd.C_alloc ?_ _) | (with_reducible refine Kd.C_drewN ?_ _) | (with_reducible refine Kd.C_drew ?_))); (case side4 => exact (Kd.R_reads' HO_776001.out).2.1); rintro e w146 ⟨rfl, hb⟩; refine ⟨_, rfl, ?_⟩; have n0_ := Aside0.mk (Kd.R_below (by (with_reducible repeat (first | apply Kd.R_alloc | apply Kd.R_drewN | apply Kd.R_drew)); exact HO_766001.out) hb); have n1_ := Aside0.mk (Kd.R_below (by (with_reducible repeat (first | apply Kd.R_alloc | apply Kd.R_drewN | apply Kd.R_drew)); exact HO_767001.out) hb); have n2_ := Aside0.mk (Kd.R_below (by (with_reducible repeat (first | apply Kd.R_alloc | apply Kd.R_drewN | apply Kd.R_drew)); exact HO_776001.out) hb); have n3_ := Aside0.mk (Kd.R_below (by (with_reducible repeat (first | apply Kd.R_alloc | apply Kd.R_drewN | apply Kd.R_drew)); exact HO_777001.out) hb); have n4_ := Aside0.mk (blk_below (g := gb765) (o := .cells #[.bool t757, .slice Ao16 t758.length co16] 27 (0, 0)) (by (with_reducible repeat (first | refine blk_drewN ?_ _ | refine blk_drew ?_ | refine blk_alloc ?_ _)); exact BK765.out) hb); have n5_ := Aside0.mk (blk_below (g := gb766) (o := .cells #[.bool t761, .slice Ao18 t762.length co18] 27 (0, 0)) (by (with_reducible repeat (first | refine blk_drewN ?_ _ | refine blk_drew ?_ | refine blk_alloc ?_ _)); exact BK766.out) hb); have n6_ := Aside0.mk (blk_below (g := gb775) (o := .cells #[.bool t767, .slice Ao26 t768.length co26] 27 (0, 0)) (by (with_reducible repeat (first | refine blk_drewN ?_ _ | refine blk_drew ?_ | refine blk_alloc ?_ _)); exact BK775.out) hb); have n7_ := Aside0.mk (blk_below (g := gb776) (o := .cells #[.bool t771, .slice Ao30 t772.length co30] 27 (0, 0)) (by (with_reducible repeat (first | refine blk_drewN ?_ _ | refine blk_drew ?_ | refine blk_alloc ?_ _)); exact BK776.out) hb); have n8_ := Aside0.mk (below_step (by repeat (first | (with_reducible first | exact HB.out | apply below_alloc | apply pw_below_drewN | apply below_drew1 | refine below_set ?_ GE765.out | refine below_set ?_ GE766.out | refine below_set ?_ GE775.out | refine below_set ?_ GE776.out) | exact HB.out)) hb); clear HO_766001; clear HO_767001; clear HO_776001; clear HO_777001; clear BK765; clear BK766; clear BK775; clear BK776; clear HB; have HO_766001 := n0_; have HO_767001 := n1_; have HO_776001 := n2_; have HO_777001 := n3_; have BK765 := n4_; have BK766 := n5_; have BK775 := n6_; have BK776 := n7_; have HB := n8_; clear n0_ n1_ n2_ n3_ n4_ n5_ n6_ n7_ n8_; (try clear hb); (try clear hb2); (try clear hk); (try clear hi)))
                      go_ret
                      exact ⟨by first | rfl | (simp [errW_none, errW_some] <;> rfl) | (simp [*, errW_none, errW_some] <;> rfl), by repeat (first | (with_reducible first | exact HB.out | apply below_alloc | apply pw_below_drewN | apply below_drew1 | refine below_set ?_ GE765.out | refine below_set ?_ GE766.out | refine below_set ?_ GE775.out | refine below_set ?_ GE776.out) | exact HB.out)⟩
                  · replace c112 := Bool.eq_false_iff.mpr c112
                    subst c112
                    have H1 : (if t777 ≤ 0 then (some true) else (if t778 ≤ 0 then (some true) else ((impl_BigCmp.f kj109 t757 t758 t767 t768).bind fun t785 => (some (t785 == 1))))) = some r := by rw [if_neg (show ¬ (false = true) by decide)] at H; exact H
                    clear H
                    have H := H1
                    clear H1
                    by_cases c147 : t777 ≤ 0
                    · rw [if_pos c147] at H
                      have c147b0 : decide (t777 ≤ 0) = true := decide_eq_true c147
                      clear c147
                      obtain rfl := Option.some.inj H
                      go_wp2
                      go_ret
                      exact ⟨by first | rfl | (simp [errW_none, errW_some] <;> rfl) | (simp [*, errW_none, errW_some] <;> rfl), by repeat (first | (with_reducible first | exact HB.out | apply below_alloc | apply pw_below_drewN | apply below_drew1 | refine below_set ?_ GE765.out | refine below_set ?_ GE766.out | refine below_set ?_ GE775.out | refine below_set ?_ GE776.out) | exact HB.out)⟩
                    · rw [if_neg c147] at H
                      have c147b0 : decide (t777 ≤ 0) = false := decide_eq_false c147
                      clear c147
                      by_cases c148 : t778 ≤ 0
                      · rw [if_pos c148] at H
                        have c148b0 : decide (t778 ≤ 0) = true := decide_eq_true c148
                        clear c148
                        obtain rfl := Option.some.inj H
                        go_wp2
                        go_ret
                        exact ⟨by first | rfl | (simp [errW_none, errW_some] <;> rfl) | (simp [*, errW_none, errW_some] <;> rfl), by repeat (first | (with_reducible first | exact HB.out | apply below_alloc | apply pw_below_drewN | apply below_drew1 | refine below_set ?_ GE765.out | refine below_set ?_ GE766.out | refine below_set ?_ GE775.out | refine below_set ?_ GE776.out) | exact HB.out)⟩
                      · rw [if_neg c148] at H
                        have c148b0 : decide (t778 ≤ 0) = false := decide_eq_false c148
                        clear c148
                        replace H := Option.bind_eq_some_iff.mp H
                        obtain ⟨t785, A1490, H⟩ := H
                        replace H : (some (t785 == 1)) = some r := H
                        have A149 := Aside0.mk A1490
                        clear A1490
                        obtain rfl := Option.some.inj H
                        have hnb150 := NB765_766.out
                        have hnc150 := NB766_765.out
                        have hnb151 := NB765_775.out
                        have hnc151 := NB775_765.out
                        have hnb152 := NB765_776.out
                        have hnc152 := NB776_765.out
                        have hcz153_0 : wc.cell? ⟨gb765, 0, none⟩ = some (.bool t757) := (blk_cell BK765.out 0).trans rfl
                        have hcz153_1 : wc.cell? ⟨gb765, 1, none⟩ = some (.slice Ao16 t758.length co16) := (blk_cell BK765.out 1).trans rfl
                        have hfz153_0 := blk_frozen BK765.out 0
                        have hfz153_1 := blk_frozen BK765.out 1
                        have hnb154 := NB775_766.out
                        have hnc154 := NB766_775.out
                        have hnb155 := NB775_776.out
                        have hnc155 := NB776_775.out
                        have hcz156_0 : wc.cell? ⟨gb775, 0, none⟩ = some (.bool t767) := (blk_cell BK775.out 0).trans rfl
                        have hcz156_1 : wc.cell? ⟨gb775, 1, none⟩ = some (.slice Ao26 t768.length co26) := (blk_cell BK775.out 1).trans rfl
                        have hfz156_0 := blk_frozen BK775.out 0
                        have hfz156_1 := blk_frozen BK775.out 1
                        go_wp2_with (first | (go_at_call 35; (with_reducible refine (impl_BigCmp.calls kj109 t757 _ _ t758 t767 _ _ t768 t785 _ ?side1 ?side2 ?side3 ?side4 A149.out).mono ?_); (case side1 => repeat (first | exact (Kd.R_reads' HO_766001.out).2.2 | (with_reducible refine Kd.C_alloc ?_ _) | (with_reducible refine Kd.C_drewN ?_ _) | (with_reducible refine Kd.C_drew ?_))); (case side2 => exact (Kd.R_reads' HO_766001.out).2.1); (case side3 => repeat (first | exact (Kd.R_reads' HO_776001.out).2.2 | (with_reducible refine Kd.C_alloc ?_ _) | (with_reducible refine Kd.C_drewN ?_ _) | (with_reducible refine Kd.C_drew ?_))); (case side4 => exact (Kd.R_reads' HO_776001.out).2.1); rintro e w157 ⟨rfl, hb⟩; have n0_ := Aside0.mk (Kd.R_below (by (with_reducible repeat (first | apply Kd.R_alloc | apply Kd.R_drewN | apply Kd.R_drew)); exact HO_766001.out) hb); have n1_ := Aside0.mk (Kd.R_below (by (with_reducible repeat (first | apply Kd.R_alloc | apply Kd.R_drewN | apply Kd.R_drew)); exact HO_767001.out) hb); have n2_ := Aside0.mk (Kd.R_below (by (with_reducible repeat (first | apply Kd.R_alloc | apply Kd.R_drewN | apply Kd.R_drew)); exact HO_776001.out) hb); have n3_ := Aside0.mk (Kd.R_below (by (with_reducible repeat (first | apply Kd.R_alloc | apply Kd.R_drewN | apply Kd.R_drew)); exact HO_777001.out) hb); have n4_ := Aside0.mk (blk_below (g := gb765) (o := .cells #[.bool t757, .slice Ao16 t758.length co16] 27 (0, 0)) (by (with_reducible repeat (first | refine blk_drewN ?_ _ | refine blk_drew ?_ | refine blk_alloc ?_ _)); exact BK765.out) hb); have n5_ := Aside0.mk (blk_below (g := gb766) (o := .cells #[.bool t761, .slice Ao18 t762.length co18] 27 (0, 0)) (by (with_reducible repeat (first | refine blk_drewN ?_ _ | refine blk_drew ?_ | refine blk_alloc ?_ _)); exact BK766.out) hb); have n6_ := Aside0.mk (blk_below (g := gb775) (o := .cells #[.bool t767, .slice Ao26 t768.length co26] 27 (0, 0)) (by (with_reducible repeat (first | refine blk_drewN ?_ _ | refine blk_drew ?_ | refine blk_alloc ?_ _)); exact BK775.out) hb); have n7_ := Aside0.mk (blk_below (g := gb776) (o := .cells #[.bool t771, .slice Ao30 t772.length co30] 27 (0, 0)) (by (with_reducible repeat (first | refine blk_drewN ?_ _ | refine blk_drew ?_ | refine blk_alloc ?_ _)); exact BK776.out) hb); have n8_ := Aside0.mk (below_step (by repeat (first | (with_reducible first | exact HB.out | apply below_alloc | apply pw_below_drewN | apply below_drew1 | refine below_set ?_ GE765.out | refine below_set ?_ GE766.out | refine below_set ?_ GE775.out | refine below_set ?_ GE776.out) | exact HB.out)) hb); clear HO_766001; clear HO_767001; clear HO_776001; clear HO_777001; clear BK765; clear BK766; clear BK775; clear BK776; clear HB; have HO_766001 := n0_; have HO_767001 := n1_; have HO_776001 := n2_; have HO_777001 := n3_; have BK765 := n4_; have BK766 := n5_; have BK775 := n6_; have BK776 := n7_; have HB := n8_; clear n0_ n1_ n2_ n3_ n4_ n5_ n6_ n7_ n8_; (try clear hb); (try clear hb2); (try clear hk); (try clear hi)))
                        go_ret
                        exact ⟨by first | rfl | (simp [errW_none, errW_some] <;> rfl) | (simp [*, errW_none, errW_some] <;> rfl), by repeat (first | (with_reducible first | exact HB.out | apply below_alloc | apply pw_below_drewN | apply below_drew1 | refine below_set ?_ GE765.out | refine below_set ?_ GE766.out | refine below_set ?_ GE775.out | refine below_set ?_ GE776.out) | exact HB.out)⟩
def laws_FnBigCmpThree.Pure : Prop := ∀ (l0 : List Int) (l1 : List Int), l0.length ≤ maxLen → l0.length * 1 ≤ 140737488351232 → (∀ x ∈ l0, (Lit.int .u8 x).wf = true) → l1.length ≤ maxLen → l1.length * 1 ≤ 140737488351232 → (∀ x ∈ l1, (Lit.int .u8 x).wf = true) → ∃ k, laws_FnBigCmpThree.f k l0 l1 = some true
theorem laws_FnBigCmpThree.walk (P : laws_FnBigCmpThree.Pure) (a0 : Option Addr) (len0 cap0 : Nat) (z0 : List Int) (a1 : Option Addr) (len1 cap1 : Nat) (z1 : List Int) (w : World) (w0 : (a0 = none ∧ len0 = 0 ∧ cap0 = 0 ∧ z0 = []) ∨ ∃ x, a0 = some x ∧ len0 ≤ cap0 ∧ cap0 ≤ maxLen ∧ z0.length = cap0 ∧ (∀ i, i < z0.length → w.cell? (x.add i) = some (.int .u8 (z0.getD i 0))) ∧ ∀ n ∈ z0, (Lit.int .u8 n).wf = true) (y0 : len0 * 1 ≤ 140737488351232) (w1 : (a1 = none ∧ len1 = 0 ∧ cap1 = 0 ∧ z1 = []) ∨ ∃ x, a1 = some x ∧ len1 ≤ cap1 ∧ cap1 ≤ maxLen ∧ z1.length = cap1 ∧ (∀ i, i < z1.length → w.cell? (x.add i) = some (.int .u8 (z1.getD i 0))) ∧ ∀ n ∈ z1, (Lit.int .u8 n).wf = true) (y1 : len1 * 1 ≤ 140737488351232) :
    Calls Try.prog 9 #[.slice a0 len0 cap0, .slice a1 len1 cap1] w fun e w' => e = .returned (.bool true) ∧ Below w.heap.size w w' := by
  obtain ⟨l0, rfl, hr0, hm0, hw0, hc0⟩ := ReadsInt.ofRowC w0
  obtain ⟨l1, rfl, hr1, hm1, hw1, hc1⟩ := ReadsInt.ofRowC w1
  obtain ⟨k, h⟩ := P l0 l1 hm0 y0 hw0 hm1 y1 hw1
  refine (laws_FnBigCmpThree.calls k _ _ l0 _ _ l1 true w (Kd.C_of_reads (d := (0 : Int)) (h1 := fun _ => rfl) hr0) hc0 (Kd.C_of_reads (d := (0 : Int)) (h1 := fun _ => rfl) hr1) hc1 h).mono ?_
  rintro e w' ⟨rfl, hd⟩
  exact ⟨rfl, hd⟩
end Go.Proofs.Ytdemeoncjcbojaa.Pr
end
section
namespace Go.Proofs.Ytdemeoncjcbojaa.Jt
def pw (n : Nat) : Int := 10000 ^ n
theorem pw_zero : pw 0 = 1 := rfl
theorem pw_succ (n : Nat) : pw (n + 1) = 10000 * pw n := by unfold pw; rw [Int.pow_succ]; omega
theorem pw_pos (n : Nat) : 1 ≤ pw n := by
  induction n with
  | zero => decide
  | succ n ih => rw [pw_succ]; omega
theorem pw_mono {m n : Nat} (h : m ≤ n) : pw m ≤ pw n := by
  obtain ⟨d, rfl⟩ := Nat.exists_eq_add_of_le h
  induction d with
  | zero => exact Int.le_refl _
  | succ d ih =>
    have h1 := ih (by omega)
    have h2 := pw_pos (m + d)
    rw [show m + (d + 1) = (m + d) + 1 from rfl, pw_succ]
    omega
def val : List Int → Int
  | [] => 0
  | x :: xs => x + 10000 * val xs
def Dig (l : List Int) : Prop := ∀ x ∈ l, 0 ≤ x ∧ x ≤ 9999
def Nz (l : List Int) : Prop := l.length = 0 ∨ l.getD (l.length - 1) 0 ≠ 0
theorem getD_lt {l : List Int} {i : Nat} (h : i < l.length) : l.getD i 0 = l[i] := by rw [List.getD_eq_getElem?_getD, List.getElem?_eq_getElem h]; rfl
theorem getD_ge {l : List Int} {i : Nat} (h : l.length ≤ i) : l.getD i 0 = 0 := by rw [List.getD_eq_getElem?_getD, List.getElem?_eq_none h]; rfl
theorem val_nil : val [] = 0 := rfl
theorem val_append (a b : List Int) : val (a ++ b) = val a + pw a.length * val b := by
  induction a with
  | nil => simp [val, pw_zero]
  | cons x xs ih => simp only [List.cons_append, val, ih, List.length_cons, pw_succ]; rw [Int.mul_add, Int.mul_assoc]; omega
theorem Dig.nil : Dig [] := fun x h => by cases h
theorem Dig.cons {x : Int} {xs : List Int} (h0 : 0 ≤ x) (h1 : x ≤ 9999) (h : Dig xs) : Dig (x :: xs) := by
  intro y hy
  rcases List.mem_cons.1 hy with rfl | hy
  · exact ⟨h0, h1⟩
  · exact h y hy
theorem Dig.head {x : Int} {xs : List Int} (h : Dig (x :: xs)) : 0 ≤ x ∧ x ≤ 9999 := h x (by simp)
theorem Dig.tail {x : Int} {xs : List Int} (h : Dig (x :: xs)) : Dig xs := fun y hy => h y (by simp [hy])
theorem Dig.take {l : List Int} (h : Dig l) (n : Nat) : Dig (l.take n) := fun x hx => h x (List.mem_of_mem_take hx)
theorem Dig.getD {l : List Int} (h : Dig l) (i : Nat) : 0 ≤ l.getD i 0 ∧ l.getD i 0 ≤ 9999 := by
  by_cases hi : i < l.length
  · rw [getD_lt hi]; exact h _ (List.getElem_mem hi)
  · rw [getD_ge (by omega)]; omega
theorem dig_of_getD {l : List Int} (h : ∀ i, i < l.length → 0 ≤ l.getD i 0 ∧ l.getD i 0 ≤ 9999) : Dig l := by
  intro x hx
  obtain ⟨i, hi, rfl⟩ := List.getElem_of_mem hx
  have := h i hi
  rwa [getD_lt hi] at this
theorem val_nonneg {l : List Int} (h : Dig l) : 0 ≤ val l := by
  induction l with
  | nil => exact Int.le_refl _
  | cons x xs ih =>
    have h1 := ih h.tail
    have h2 := h.head
    simp only [val]; omega
theorem val_lt {l : List Int} (h : Dig l) : val l < pw l.length := by
  induction l with
  | nil => decide
  | cons x xs ih =>
    have h1 := ih h.tail
    have h2 := h.head
    simp only [val, List.length_cons, pw_succ]; omega
theorem val_set (l : List Int) : ∀ (i : Nat) (v : Int), i < l.length → val (l.set i v) = val l + pw i * (v - l.getD i 0) := by
  induction l with
  | nil => intro i v h; simp at h
  | cons x xs ih =>
    intro i v h
    cases i with
    | zero => simp only [List.set_cons_zero, val, List.getD_cons_zero, pw_zero]; omega
    | succ i =>
      simp only [List.set_cons_succ, val, List.getD_cons_succ, pw_succ]
      rw [ih i v (by simpa using h), Int.mul_add, Int.mul_assoc]
      omega
theorem getD_set (l : List Int) (i j : Nat) (v : Int) (h : i < l.length) : (l.set i v).getD j 0 = if j = i then v else l.getD j 0 := by
  by_cases hj : j = i
  · subst hj
    rw [if_pos rfl, List.getD_eq_getElem?_getD, List.getElem?_set_self h]; rfl
  · rw [if_neg hj, List.getD_eq_getElem?_getD, List.getElem?_set_ne (Ne.symm hj), List.getD_eq_getElem?_getD]
theorem val_split (l : List Int) {n : Nat} (h : n ≤ l.length) : val l = val (l.take n) + pw n * val (l.drop n) := by
  have := val_append (l.take n) (l.drop n)
  rw [List.take_append_drop, List.length_take, Nat.min_eq_left h] at this
  exact this
theorem drop_cons {l : List Int} {n : Nat} (h : n < l.length) : l.drop n = l.getD n 0 :: l.drop (n + 1) := by
  rw [List.drop_eq_getElem_cons h, getD_lt h]
theorem val_zeros {l : List Int} (h : ∀ i, i < l.length → l.getD i 0 = 0) : val l = 0 := by
  induction l with
  | nil => rfl
  | cons x xs ih =>
    have h0 := h 0 (by simp)
    have h1 := ih (fun i hi => by have := h (i + 1) (by simpa using hi); simpa using this)
    simp at h0
    simp only [val, h0, h1]; decide
theorem val_replicate (n : Nat) : val (List.replicate n 0) = 0 := val_zeros fun i hi => by
  rw [List.length_replicate] at hi
  rw [getD_lt (by simpa using hi), List.getElem_replicate]
theorem val_ge {l : List Int} (h : Dig l) (hz : Nz l) (hne : 0 < l.length) : pw (l.length - 1) ≤ val l := by
  have hs := val_split l (n := l.length - 1) (by omega)
  rw [drop_cons (by omega), show l.length - 1 + 1 = l.length from by omega, List.drop_length] at hs
  have h1 := val_nonneg (h.take (l.length - 1))
  have h2 := h.getD (l.length - 1)
  have h3 : l.getD (l.length - 1) 0 ≠ 0 := hz.resolve_left (by omega)
  have hp := pw_pos (l.length - 1)
  simp only [val] at hs
  have h4 : pw (l.length - 1) * 1 ≤ pw (l.length - 1) * (l.getD (l.length - 1) 0 + 10000 * 0) := Int.mul_le_mul_of_nonneg_left (by omega) (by omega)
  omega
theorem uniq {a : List Int} : ∀ {b : List Int}, Dig a → Dig b → Nz a → Nz b → val a = val b → a = b := by
  induction a with
  | nil =>
    intro b _ hb _ zb e
    cases b with
    | nil => rfl
    | cons y ys =>
      have := val_ge hb zb (by simp)
      have := pw_pos ((y :: ys).length - 1)
      rw [val_nil] at e
      omega
  | cons x xs ih =>
    intro b ha hb za zb e
    cases b with
    | nil =>
      have := val_ge ha za (by simp)
      have := pw_pos ((x :: xs).length - 1)
      rw [val_nil] at e
      omega
    | cons y ys =>
      have hx := ha.head
      have hy := hb.head
      simp only [val] at e
      have e1 : x = y := by omega
      have e2 : val xs = val ys := by omega
      have zt : ∀ {z : Int} {zs : List Int}, Nz (z :: zs) → Nz zs := by
        intro z zs h
        cases zs with
        | nil => left; rfl
        | cons u us =>
          right
          have h' := h.resolve_left (by simp)
          simpa using h'
      rw [e1, ih ha.tail hb.tail (zt za) (zt zb) e2]
def repN (n : Nat) : List Int := if h : n = 0 then [] else ((n % 10000 : Nat) : Int) :: repN (n / 10000)
termination_by n
decreasing_by omega
def rep (v : Int) : List Int := repN v.toNat
theorem repN_zero : repN 0 = [] := by rw [repN]; simp
theorem repN_pos {n : Nat} (h : n ≠ 0) : repN n = ((n % 10000 : Nat) : Int) :: repN (n / 10000) := by rw [repN]; simp [h]
theorem repN_ok (n : Nat) : Dig (repN n) ∧ val (repN n) = n ∧ Nz (repN n) := by
  induction n using Nat.strongRecOn with
  | ind n ih =>
    by_cases h : n = 0
    · subst h; rw [repN_zero]; exact ⟨Dig.nil, rfl, .inl rfl⟩
    · obtain ⟨h1, h2, h3⟩ := ih (n / 10000) (by omega)
      rw [repN_pos h]
      refine ⟨Dig.cons (by omega) (by omega) h1, by simp only [val, h2]; omega, .inr ?_⟩
      by_cases hq : n / 10000 = 0
      · rw [hq, repN_zero]; simp; omega
      · have hne : (repN (n / 10000)).length ≠ 0 := by rw [repN_pos hq]; simp
        have := h3.resolve_left hne
        rw [List.length_cons, show (repN (n / 10000)).length + 1 - 1 = ((repN (n / 10000)).length - 1) + 1 from by omega, List.getD_cons_succ]
        exact this
theorem rep_dig (v : Int) : Dig (rep v) := (repN_ok _).1
theorem rep_nz (v : Int) : Nz (rep v) := (repN_ok _).2.2
theorem rep_val {v : Int} (h : 0 ≤ v) : val (rep v) = v := by unfold rep; rw [(repN_ok _).2.1]; omega
theorem rep_of {l : List Int} (hd : Dig l) (hz : Nz l) : rep (val l) = l := uniq (rep_dig _) hd (rep_nz _) hz (rep_val (val_nonneg hd))
theorem is_rep {l : List Int} {v : Int} (hd : Dig l) (hz : Nz l) (hv : val l = v) : l = rep v := by rw [← hv, rep_of hd hz]
theorem rep_zero : rep 0 = [] := repN_zero
theorem rep_nil {v : Int} (h : 0 ≤ v) : rep v = [] ↔ v = 0 := by
  constructor
  · intro e
    have := rep_val h
    rw [e] at this
    exact this.symm
  · rintro rfl; exact rep_zero
theorem rep_len {v : Int} (h : 0 ≤ v) (n : Nat) : (rep v).length ≤ n ↔ v < pw n := by
  have hv := rep_val h
  have hl := val_lt (rep_dig v)
  constructor
  · intro hle
    have := pw_mono hle
    omega
  · intro hlt
    apply Nat.le_of_not_lt
    intro hgt
    have hg := val_ge (rep_dig v) (rep_nz v) (by omega)
    have := pw_mono (show n ≤ (rep v).length - 1 by omega)
    omega
def TrimOf (l r : List Int) : Prop := ∃ n, n ≤ l.length ∧ r = l.take n ∧ (∀ j, n ≤ j → j < l.length → l.getD j 0 = 0) ∧ (0 < n → l.getD (n - 1) 0 ≠ 0)
theorem TrimOf.dig {l r : List Int} (h : TrimOf l r) (hd : Dig l) : Dig r := by obtain ⟨n, _, rfl, _, _⟩ := h; exact hd.take n
theorem TrimOf.val {l r : List Int} (h : TrimOf l r) : Jt.val r = Jt.val l := by
  obtain ⟨n, hn, rfl, hz, _⟩ := h
  have hs := val_split l hn
  have : Jt.val (l.drop n) = 0 := val_zeros fun i hi => by
    rw [List.length_drop] at hi
    have := hz (n + i) (by omega) (by omega)
    rw [List.getD_eq_getElem?_getD] at this ⊢
    rw [List.getElem?_drop]; exact this
  rw [this] at hs
  omega
theorem getD_take (l : List Int) {i n : Nat} (h : i < n) : (l.take n).getD i 0 = l.getD i 0 := by
  rw [List.getD_eq_getElem?_getD, List.getD_eq_getElem?_getD, List.getElem?_take_of_lt h]
theorem TrimOf.nz {l r : List Int} (h : TrimOf l r) : Nz r := by
  obtain ⟨n, hn, rfl, _, hlast⟩ := h
  by_cases h0 : n = 0
  · left; simp [h0]
  · right
    rw [List.length_take, Nat.min_eq_left hn, getD_take l (by omega)]
    exact hlast (by omega)
theorem TrimOf.rep {l r : List Int} (h : TrimOf l r) (hd : Dig l) {v : Int} (hv : Jt.val l = v) : r = Jt.rep v := is_rep (h.dig hd) h.nz (h.val.trans hv)
theorem TrimOf.len {l r : List Int} (h : TrimOf l r) : r.length ≤ l.length := by obtain ⟨n, hn, rfl, _, _⟩ := h; rw [List.length_take]; omega
theorem val_lt_of_len {a b : List Int} (ha : Dig a) (hb : Dig b) (zb : Nz b) (h : a.length < b.length) : val a < val b := by
  have h1 := val_lt ha
  have h2 := val_ge hb zb (by omega)
  have := pw_mono (show a.length ≤ b.length - 1 by omega)
  omega
theorem val_lt_at {a b : List Int} (ha : Dig a) (hb : Dig b) {i : Nat} (h1 : i < a.length) (h2 : i < b.length) (hd : a.drop (i + 1) = b.drop (i + 1)) (hlt : a.getD i 0 < b.getD i 0) : val a < val b := by
  have ea := val_split a (n := i) (by omega)
  have eb := val_split b (n := i) (by omega)
  rw [drop_cons h1] at ea
  rw [drop_cons h2, ← hd] at eb
  simp only [val] at ea eb
  have la := val_lt (ha.take i)
  have nb := val_nonneg (hb.take i)
  rw [List.length_take, Nat.min_eq_left (by omega)] at la
  have hp := pw_pos i
  have hm : pw i * (a.getD i 0 + 1) ≤ pw i * b.getD i 0 := Int.mul_le_mul_of_nonneg_left (by omega) (by omega)
  rw [Int.mul_add] at ea eb hm
  omega
def bigv (neg : Bool) (l : List Int) : Int := if neg = true then -val l else val l
def BOk (neg : Bool) (l : List Int) : Prop := l.length ≤ 16 ∧ Dig l ∧ Nz l ∧ (neg = true → l.length ≠ 0)
theorem nz_pos {l : List Int} (hd : Dig l) (hz : Nz l) (h : l.length ≠ 0) : 0 < val l := by
  have := val_ge hd hz (by omega)
  have := pw_pos (l.length - 1)
  omega
end Go.Proofs.Ytdemeoncjcbojaa.Jt
end
section
namespace Go.Proofs.Ytdemeoncjcbojaa.Val
open Go.RowKit Go.Proofs.Ytdemeoncjcbojaa.Pr Go.Proofs.Ytdemeoncjcbojaa.Ext Go.Proofs.Ytdemeoncjcbojaa.Jt Go.Proofs.YtdemeoncjcbojaaW.PrintWords Go.Proofs.YtdemeoncjcbojaaW.PrintLast Go.Proofs.YtdemeoncjcbojaaW.PrintMore
set_option linter.unusedVariables false
set_option linter.unusedSimpArgs false
theorem w64 {x : Int} (h : -9223372036854775808 ≤ x) (h' : x ≤ 9223372036854775807) : wrap64 x = x := by unfold wrap64; omega
theorem rdn (l : List Int) (i : Int) : rd l i = l.getD i.toNat 0 := rfl
def okD (x : Int) : Bool := decide (0 ≤ x) && decide (x ≤ 9999)
def okB (neg : Bool) (l : List Int) : Bool := decide (l.length ≤ 16) && l.all okD && (decide (l.length = 0) || decide (l.getD (l.length - 1) 0 ≠ 0)) && (!neg || decide (l.length ≠ 0))
theorem okB_iff (neg : Bool) (l : List Int) : okB neg l = true ↔ BOk neg l := by
  unfold okB BOk Dig Nz
  simp only [Bool.and_eq_true, decide_eq_true_eq, List.all_eq_true, okD, Bool.or_eq_true, Bool.not_eq_true']
  constructor
  · rintro ⟨⟨⟨a, b⟩, c⟩, d⟩
    exact ⟨a, b, c, fun h => d.resolve_left (by simp [h])⟩
  · rintro ⟨a, b, c, d⟩
    refine ⟨⟨⟨a, b⟩, c⟩, ?_⟩
    cases neg
    · exact .inl rfl
    · exact .inr (d rfl)
theorem in_ge (x : Int) : spec_l1In.f x 0 9999 = some (okD x) := by
  unfold spec_l1In.f okD
  by_cases h : x ≥ 0
  · rw [if_pos h, decide_eq_true h, Bool.true_and]
  · rw [if_neg h, decide_eq_false h, Bool.false_and]
theorem bne_d (x : Int) : (x != 0) = decide (x ≠ 0) := by by_cases h : x = 0 <;> simp [h]
theorem l1Ok_l0 (neg : Bool) (l : List Int) (hl : l.length ≤ 16) : ∀ (m k i : Nat), i + m = l.length → m + 1 ≤ k →
    spec_l1Ok.l0 k (i : Int) neg l = some ((l.drop i).all okD && (decide (l.length = 0) || decide (l.getD (l.length - 1) 0 ≠ 0))) := by
  intro m
  induction m with
  | zero =>
    intro k i hi hk
    obtain ⟨k, rfl⟩ : ∃ j, k = j + 1 := ⟨k - 1, by omega⟩
    rw [spec_l1Ok.l0, if_neg (by omega), List.drop_eq_nil_of_le (by omega)]
    by_cases h0 : l.length = 0
    · rw [if_pos (by omega)]; simp [h0]
    · rw [if_neg (by omega), w64 (by omega) (by omega), if_pos (by omega), if_pos (by omega), rdn, show ((l.length : Int) - 1).toNat = l.length - 1 from by omega, bne_d, decide_eq_false h0]
      rfl
  | succ m ih =>
    intro k i hi hk
    obtain ⟨k, rfl⟩ : ∃ j, k = j + 1 := ⟨k - 1, by omega⟩
    have hlt : i < l.length := by omega
    rw [spec_l1Ok.l0, if_pos (by omega), if_pos (by omega), in_ge]
    simp only [Option.bind_some]
    rw [rdn, Int.toNat_natCast, drop_cons hlt, List.all_cons]
    by_cases hb : okD (l.getD i 0) = true
    · rw [if_pos hb, w64 (by omega) (by omega), show ((i : Int) + 1) = ((i + 1 : Nat) : Int) from by omega, ih k (i + 1) (by omega) (by omega), hb, Bool.true_and]
    · rw [if_neg hb, Bool.eq_false_iff.mpr hb]; simp
theorem l1Ok_ge (neg : Bool) (l : List Int) (k : Nat) (hk : 30 ≤ k) : spec_l1Ok.f k neg l = some (okB neg l) := by
  obtain ⟨k, rfl⟩ : ∃ j, k = j + 1 := ⟨k - 1, by omega⟩
  unfold spec_l1Ok.f okB
  by_cases h16 : (l.length : Int) > 16
  · rw [if_pos h16, spec_l1Ok.j0, if_pos rfl, decide_eq_false (show ¬ l.length ≤ 16 by omega)]; simp
  · have e := l1Ok_l0 neg l (by omega) l.length k 0 (by omega) (by omega)
    rw [List.drop_zero] at e
    rw [if_neg h16, decide_eq_true (show l.length ≤ 16 by omega), Bool.true_and]
    cases neg
    · rw [if_neg (by decide), spec_l1Ok.j0, if_neg (by decide)]
      refine e.trans ?_
      simp
    · rw [if_pos rfl, spec_l1Ok.j0]
      by_cases h0 : l.length = 0
      · rw [if_pos (by simp [h0])]; simp [h0]
      · rw [if_neg (by simp; intro hn; simp [hn] at h0)]
        refine e.trans ?_
        rw [decide_eq_true (show l.length ≠ 0 from h0)]
        simp
theorem any_bad (l : List Int) : l.any bad = !(l.all okD) := by
  induction l with
  | nil => rfl
  | cons x xs ih => rw [List.any_cons, List.all_cons, ih, Bool.not_and]; rfl
theorem bigOk_f (neg : Bool) (l : List Int) : impl_BigOk.f neg l = some (okB neg l) := by
  unfold impl_BigOk.f okB containsBad.f
  simp only [any_bad, Option.bind_some, Bool.not_not]
  by_cases h16 : (l.length : Int) ≤ 16
  · rw [if_pos h16, decide_eq_true (show l.length ≤ 16 by omega), Bool.true_and]
    by_cases h0 : (l.length : Int) = 0
    · rw [if_pos h0]
      have h0' : l.length = 0 := by omega
      cases neg
      · rw [if_neg (by decide)]; simp [h0']
      · rw [if_pos rfl, if_neg (by omega)]; simp [h0']
    · have h0' : l.length ≠ 0 := by omega
      rw [if_neg h0, if_pos (by omega), w64 (by omega) (by omega), if_pos (by omega), if_pos (by omega), rdn, show ((l.length : Int) - 1).toNat = l.length - 1 from by omega, decide_eq_false h0', decide_eq_true (show l.length ≠ 0 from h0'), Bool.false_or, Bool.or_true, Bool.and_true]
      by_cases hz : l.getD (l.length - 1) 0 = 0
      · rw [if_pos hz, decide_eq_false (by simpa using hz)]; simp
      · rw [if_neg hz, decide_eq_true hz]; simp
  · rw [if_neg h16, decide_eq_false (show ¬ l.length ≤ 16 by omega)]; simp
def trimN (l : List Int) : Nat → Nat
  | 0 => 0
  | n + 1 => if l.getD n 0 = 0 then trimN l n else n + 1
def trimL (l : List Int) : List Int := l.take (trimN l l.length)
theorem trimN_le (l : List Int) (n : Nat) : trimN l n ≤ n := by
  induction n with
  | zero => exact Nat.le_refl _
  | succ n ih => unfold trimN; split <;> omega
theorem trimN_hi (l : List Int) (n : Nat) : ∀ j, trimN l n ≤ j → j < n → l.getD j 0 = 0 := by
  induction n with
  | zero => intro j _ h; omega
  | succ n ih =>
    intro j h1 h2
    unfold trimN at h1
    split at h1
    · rename_i h
      by_cases hj : j = n
      · rw [hj]; exact h
      · exact ih j h1 (by omega)
    · omega
theorem trimN_nz (l : List Int) (n : Nat) : 0 < trimN l n → l.getD (trimN l n - 1) 0 ≠ 0 := by
  induction n with
  | zero => intro h; simp [trimN] at h
  | succ n ih =>
    unfold trimN
    split
    · exact ih
    · rename_i h; intro _; rw [Nat.add_sub_cancel]; exact h
theorem trimL_of (l : List Int) : TrimOf l (trimL l) := ⟨trimN l l.length, trimN_le _ _, rfl, trimN_hi _ _, trimN_nz _ _⟩
theorem trimL_len (l : List Int) : (trimL l).length ≤ l.length := (trimL_of l).len
theorem trimL_rep {l : List Int} (hd : Dig l) : trimL l = rep (val l) := (trimL_of l).rep hd rfl
theorem sTrim_l0 (l : List Int) (hl : l.length < 1000000) : ∀ (n k : Nat), n ≤ l.length → n + 1 ≤ k → spec_l1Trim.l0 k l (n : Int) = some (l.take (trimN l n)) := by
  intro n
  induction n with
  | zero =>
    intro k hn hk
    obtain ⟨k, rfl⟩ : ∃ j, k = j + 1 := ⟨k - 1, by omega⟩
    rw [spec_l1Trim.l0, if_neg (by omega)]
    simp only [Option.bind_some]
    rw [if_pos (by omega), if_pos (by omega), if_pos (by simp)]
    simp [trimN]
  | succ n ih =>
    intro k hn hk
    obtain ⟨k, rfl⟩ : ∃ j, k = j + 1 := ⟨k - 1, by omega⟩
    rw [spec_l1Trim.l0, if_pos (by omega), w64 (by omega) (by omega), show (((n + 1 : Nat) : Int) - 1) = (n : Int) from by omega, if_pos (by omega), if_pos (by omega), rdn, Int.toNat_natCast]
    unfold trimN
    by_cases h : l.getD n 0 = 0
    · rw [if_pos h, if_pos h]; exact ih k (by omega) (by omega)
    · rw [if_neg h, if_neg h]
      simp only [Option.bind_some]
      rw [if_pos (by omega), if_pos (by omega), Int.toNat_natCast, if_pos (by rw [List.length_take]; simp; omega)]
      simp
theorem sTrim_ge (l : List Int) (hl : l.length < 1000000) (k : Nat) (hk : l.length + 1 ≤ k) : spec_l1Trim.f k l = some (trimL l) := sTrim_l0 l hl l.length k (Nat.le_refl _) hk
theorem iTrim_l0 (l : List Int) (hl : l.length < 1000000) : ∀ (n k : Nat), n ≤ l.length → n + 1 ≤ k → impl_limbs_trim.l0 k (l.take n) = some (l.take (trimN l n)) := by
  intro n
  induction n with
  | zero =>
    intro k hn hk
    obtain ⟨k, rfl⟩ : ∃ j, k = j + 1 := ⟨k - 1, by omega⟩
    rw [impl_limbs_trim.l0, if_neg (by simp)]
    rfl
  | succ n ih =>
    intro k hn hk
    obtain ⟨k, rfl⟩ : ∃ j, k = j + 1 := ⟨k - 1, by omega⟩
    have hlen : (l.take (n + 1)).length = n + 1 := by rw [List.length_take]; omega
    rw [impl_limbs_trim.l0, hlen, if_pos (by omega), w64 (by omega) (by omega), show (((n + 1 : Nat) : Int) - 1) = (n : Int) from by omega, if_pos (by omega), if_pos (by omega), rdn, Int.toNat_natCast, getD_take l (by omega)]
    unfold trimN
    by_cases h : l.getD n 0 = 0
    · rw [if_pos h, if_pos h, if_pos (by omega), List.take_take, Nat.min_eq_left (by omega)]; exact ih k (by omega) (by omega)
    · rw [if_neg h, if_neg h]
theorem iTrim_ge (l : List Int) (hl : l.length < 1000000) (k : Nat) (hk : l.length + 1 ≤ k) : impl_limbs_trim.f k l = some (trimL l) := by
  have e := iTrim_l0 l hl l.length k (Nat.le_refl _) hk
  rw [List.take_length] at e
  exact e
def sgn (x : Int) : Int := if x < 0 then -1 else if x = 0 then 0 else 1
theorem sgn_neg {x : Int} (h : x < 0) : sgn x = -1 := if_pos h
theorem sgn_zero : sgn 0 = 0 := rfl
theorem sgn_pos {x : Int} (h : 0 < x) : sgn x = 1 := by unfold sgn; rw [if_neg (by omega), if_neg (by omega)]
theorem drop_eq_of {a b : List Int} {i : Nat} (ha : i < a.length) (hb : i < b.length) (hd : a.drop (i + 1) = b.drop (i + 1)) (he : a.getD i 0 = b.getD i 0) : a.drop i = b.drop i := by
  rw [drop_cons ha, drop_cons hb, hd, he]
theorem sCmp_l0 {a b : List Int} (ha : Dig a) (hb : Dig b) (hl : a.length = b.length) (hb' : a.length < 1000000) : ∀ (i k : Nat), i ≤ a.length → a.drop i = b.drop i → i + 1 ≤ k →
    spec_l1CmpAbs.l0 k a b ((i : Int) - 1) = some (sgn (val a - val b)) := by
  intro i
  induction i with
  | zero =>
    intro k hi hd hk
    obtain ⟨k, rfl⟩ : ∃ j, k = j + 1 := ⟨k - 1, by omega⟩
    rw [List.drop_zero, List.drop_zero] at hd
    rw [spec_l1CmpAbs.l0, if_neg (by omega), hd, Int.sub_self, sgn_zero]
  | succ i ih =>
    intro k hi hd hk
    obtain ⟨k, rfl⟩ : ∃ j, k = j + 1 := ⟨k - 1, by omega⟩
    rw [spec_l1CmpAbs.l0, show (((i + 1 : Nat) : Int) - 1) = (i : Int) from by omega, if_pos (by omega), if_pos (by omega), if_pos (by omega), if_pos (by omega), rdn, rdn, Int.toNat_natCast]
    by_cases h1 : a.getD i 0 < b.getD i 0
    · have := val_lt_at ha hb (by omega) (by omega) hd h1
      rw [if_pos h1, sgn_neg (by omega)]
    · rw [if_neg h1]
      by_cases h2 : a.getD i 0 > b.getD i 0
      · have := val_lt_at hb ha (by omega) (by omega) hd.symm h2
        rw [if_pos h2, sgn_pos (by omega)]
      · rw [if_neg h2, w64 (by omega) (by omega)]
        exact ih k (by omega) (drop_eq_of (by omega) (by omega) hd (by omega)) (by omega)
theorem iCmp_l0 {a b : List Int} (ha : Dig a) (hb : Dig b) (hl : a.length = b.length) (hb' : a.length < 1000000) : ∀ (i k : Nat), i ≤ a.length → a.drop i = b.drop i → i + 1 ≤ k →
    impl_limbs_cmp.l0 k a b ((i : Int) - 1) = some (sgn (val a - val b)) := by
  intro i
  induction i with
  | zero =>
    intro k hi hd hk
    obtain ⟨k, rfl⟩ : ∃ j, k = j + 1 := ⟨k - 1, by omega⟩
    rw [List.drop_zero, List.drop_zero] at hd
    rw [impl_limbs_cmp.l0, if_neg (by omega), hd, Int.sub_self, sgn_zero]
  | succ i ih =>
    intro k hi hd hk
    obtain ⟨k, rfl⟩ : ∃ j, k = j + 1 := ⟨k - 1, by omega⟩
    rw [impl_limbs_cmp.l0, show (((i + 1 : Nat) : Int) - 1) = (i : Int) from by omega, if_pos (by omega), if_pos (by omega), if_pos (by omega), if_pos (by omega), rdn, rdn, Int.toNat_natCast]
    have b1 := ha.getD i
    have b2 := hb.getD i
    by_cases h1 : a.getD i 0 = b.getD i 0
    · rw [if_pos h1, w64 (by omega) (by omega)]
      exact ih k (by omega) (drop_eq_of (by omega) (by omega) hd h1) (by omega)
    · rw [if_neg h1, w64 (by omega) (by omega)]
      unfold mx mn
      by_cases h2 : a.getD i 0 < b.getD i 0
      · have := val_lt_at ha hb (by omega) (by omega) hd h2
        rw [sgn_neg (by omega), if_pos (show a.getD i 0 - b.getD i 0 < 1 by omega), if_neg (by omega)]
      · have := val_lt_at hb ha (by omega) (by omega) hd.symm (show b.getD i 0 < a.getD i 0 by omega)
        rw [sgn_pos (by omega), if_neg (show ¬ a.getD i 0 - b.getD i 0 < 1 by omega), if_pos (by omega)]
theorem sCmpAbs_ge {a b : List Int} (ha : Dig a) (hb : Dig b) (za : Nz a) (zb : Nz b) (la : a.length ≤ 1000) (lb : b.length ≤ 1000) (k : Nat) (hk : 1010 ≤ k) : spec_l1CmpAbs.f k a b = some (sgn (val a - val b)) := by
  unfold spec_l1CmpAbs.f
  by_cases h : (a.length : Int) = (b.length : Int)
  · rw [if_pos h, w64 (by omega) (by omega)]
    exact sCmp_l0 ha hb (by omega) (by omega) a.length k (Nat.le_refl _) (by rw [List.drop_length, List.drop_eq_nil_of_le (by omega)]) (by omega)
  · rw [if_neg h]
    by_cases h2 : (a.length : Int) < (b.length : Int)
    · have := val_lt_of_len ha hb zb (by omega)
      rw [if_pos h2, sgn_neg (by omega)]
    · have := val_lt_of_len hb ha za (by omega)
      rw [if_neg h2, sgn_pos (by omega)]
theorem iCmp_ge {a b : List Int} (ha : Dig a) (hb : Dig b) (za : Nz a) (zb : Nz b) (la : a.length ≤ 1000) (lb : b.length ≤ 1000) (k : Nat) (hk : 1010 ≤ k) : impl_limbs_cmp.f k a b = some (sgn (val a - val b)) := by
  unfold impl_limbs_cmp.f
  by_cases h : (a.length : Int) = (b.length : Int)
  · rw [if_pos h, w64 (by omega) (by omega)]
    exact iCmp_l0 ha hb (by omega) (by omega) a.length k (Nat.le_refl _) (by rw [List.drop_length, List.drop_eq_nil_of_le (by omega)]) (by omega)
  · rw [if_neg h, w64 (by omega) (by omega)]
    unfold mx mn
    by_cases h2 : (a.length : Int) < (b.length : Int)
    · have := val_lt_of_len ha hb zb (by omega)
      rw [sgn_neg (by omega), if_pos (show (a.length : Int) - (b.length : Int) < 1 by omega), if_neg (by omega)]
    · have := val_lt_of_len hb ha za (by omega)
      rw [sgn_pos (by omega), if_neg (show ¬ (a.length : Int) - (b.length : Int) < 1 by omega), if_pos (by omega)]
end Go.Proofs.Ytdemeoncjcbojaa.Val
end
section
namespace Go.Proofs.Ytdemeoncjcbojaa.Val
open Go.RowKit Go.Proofs.Ytdemeoncjcbojaa.Pr Go.Proofs.Ytdemeoncjcbojaa.Ext Go.Proofs.Ytdemeoncjcbojaa.Jt Go.Proofs.YtdemeoncjcbojaaW.PrintWords Go.Proofs.YtdemeoncjcbojaaW.PrintLast Go.Proofs.YtdemeoncjcbojaaW.PrintMore
set_option linter.unusedVariables false
set_option linter.unusedSimpArgs false
theorem rdN (l : List Int) (i : Nat) : rd l (i : Int) = l.getD i 0 := by unfold rd; rw [Int.toNat_natCast]
theorem getD_set_ne {l : List Int} {i j : Nat} (v : Int) (h : i < l.length) (hne : j ≠ i) : (l.set i v).getD j 0 = l.getD j 0 := by rw [getD_set l i j v h, if_neg hne]
theorem getD_set_eq {l : List Int} {i : Nat} (v : Int) (h : i < l.length) : (l.set i v).getD i 0 = v := by rw [getD_set l i i v h, if_pos rfl]
theorem val_drop (l : List Int) (i : Nat) : val (l.drop i) = l.getD i 0 + 10000 * val (l.drop (i + 1)) := by
  by_cases h : i < l.length
  · rw [drop_cons h]; rfl
  · rw [List.drop_eq_nil_of_le (by omega), List.drop_eq_nil_of_le (by omega), getD_ge (by omega)]; rfl
theorem iAdd_l1 {x : List Int} : ∀ (m k i : Nat) (x : List Int), i + m + 1 = x.length → x.length ≤ 1000 → m + 1100 ≤ k →
    (∀ j, j < i → 0 ≤ x.getD j 0 ∧ x.getD j 0 ≤ 9999) → (∀ j, i < j → 0 ≤ x.getD j 0 ∧ x.getD j 0 ≤ 19998) → (0 ≤ x.getD i 0 ∧ x.getD i 0 ≤ 19999) →
    (x.getD (x.length - 1) 0 ≤ if i = x.length - 1 then 1 else 0) →
    impl_limbs_add.l1 k x ((x.length : Int) - 1) (i : Int) = some (rep (val x)) := by
  intro m
  induction m with
  | zero =>
    intro k i x hi hl hk h1 h2 h3 h4
    obtain ⟨k, rfl⟩ : ∃ j, k = j + 1 := ⟨k - 1, by omega⟩
    have hd : Dig x := dig_of_getD fun j hj => by
      by_cases hji : j < i
      · exact h1 j hji
      · have : j = x.length - 1 := by omega
        have e : i = x.length - 1 := by omega
        rw [if_pos e] at h4
        rw [e] at h3
        subst this
        omega
    rw [impl_limbs_add.l1, if_neg (by omega), iTrim_ge x (by omega) k (by omega), trimL_rep hd]
    rfl
  | succ m ih =>
    intro k i x hi hl hk h1 h2 h3 h4
    obtain ⟨k, rfl⟩ : ∃ j, k = j + 1 := ⟨k - 1, by omega⟩
    have hlt : i < x.length := by omega
    have hlt1 : i + 1 < x.length := by omega
    have n1 := h2 (i + 1) (by omega)
    rw [if_neg (by omega)] at h4
    rw [impl_limbs_add.l1, if_pos (by omega), w64 (x := (i : Int) + 1) (by omega) (by omega), if_pos (by omega), if_pos (by omega), if_pos (by omega), if_pos (by omega)]
    simp only [Option.bind_some]
    simp only [rdn]
    rw [show ((i : Int) + 1).toNat = i + 1 from by omega, Int.toNat_natCast, Int.tdiv_eq_ediv_of_nonneg h3.1, w64 (x := x.getD i 0 / 10000) (by omega) (by omega), w64 (by omega) (by omega),
      getD_set_ne _ hlt1 (by omega), Int.tmod_eq_emod_of_nonneg h3.1]
    have hlen : ((x.set (i + 1) (x.getD (i + 1) 0 + x.getD i 0 / 10000)).set i (x.getD i 0 % 10000)).length = x.length := by simp
    have hv : val ((x.set (i + 1) (x.getD (i + 1) 0 + x.getD i 0 / 10000)).set i (x.getD i 0 % 10000)) = val x := by
      rw [val_set _ _ _ (by rw [List.length_set]; omega), val_set _ _ _ hlt1, getD_set_ne _ hlt1 (by omega), pw_succ]
      have e : x.getD i 0 = 10000 * (x.getD i 0 / 10000) + x.getD i 0 % 10000 := by omega
      generalize x.getD i 0 / 10000 = q at e
      generalize x.getD i 0 % 10000 = r at e
      rw [e]
      grind
    have e := ih k (i + 1) ((x.set (i + 1) (x.getD (i + 1) 0 + x.getD i 0 / 10000)).set i (x.getD i 0 % 10000)) (by rw [hlen]; omega) (by rw [hlen]; omega) (by omega) ?_ ?_ ?_ ?_
    · rw [hlen, hv] at e
      rw [show ((i : Int) + 1) = ((i + 1 : Nat) : Int) from by omega]
      exact e
    · intro j hj
      by_cases hji : j = i
      · rw [hji, getD_set_eq _ (by rw [List.length_set]; omega)]; omega
      · rw [getD_set_ne _ (by rw [List.length_set]; omega) hji, getD_set_ne _ hlt1 (by omega)]; exact h1 j (by omega)
    · intro j hj
      rw [getD_set_ne _ (by rw [List.length_set]; omega) (by omega), getD_set_ne _ hlt1 (by omega)]; exact h2 j (by omega)
    · rw [getD_set_ne _ (by rw [List.length_set]; omega) (by omega), getD_set_eq _ hlt1]; omega
    · rw [hlen]
      rw [getD_set_ne _ (by rw [List.length_set]; omega) (by omega)]
      by_cases he : i + 1 = x.length - 1
      · rw [if_pos he, ← he, getD_set_eq _ hlt1]
        rw [← he] at h4
        omega
      · rw [if_neg he, getD_set_ne _ hlt1 (by omega)]; exact h4
theorem iAdd_l0 {b : List Int} (hb : Dig b) : ∀ (m k i : Nat) (x : List Int), i + m = b.length → b.length + 1 ≤ x.length → x.length ≤ 1000 → m + 2200 ≤ k →
    (∀ j, j < i → 0 ≤ x.getD j 0 ∧ x.getD j 0 ≤ 19998) → (∀ j, i ≤ j → 0 ≤ x.getD j 0 ∧ x.getD j 0 ≤ 9999) → x.getD (x.length - 1) 0 = 0 →
    impl_limbs_add.l0 k x b (b.length : Int) (i : Int) = some (rep (val x + pw i * val (b.drop i))) := by
  intro m
  induction m with
  | zero =>
    intro k i x hi hx hl hk h1 h2 h3
    obtain ⟨k, rfl⟩ : ∃ j, k = j + 1 := ⟨k - 1, by omega⟩
    rw [impl_limbs_add.l0, if_neg (by omega), w64 (by omega) (by omega), List.drop_eq_nil_of_le (by omega), val_nil, Int.mul_zero, Int.add_zero]
    have hall : ∀ j, 0 ≤ x.getD j 0 ∧ x.getD j 0 ≤ 19998 := fun j => by
      by_cases hj : j < i
      · exact h1 j hj
      · have := h2 j (by omega); omega
    have e := iAdd_l1 (x := x) (x.length - 1) k 0 x (by omega) hl (by omega) (fun j hj => by omega) (fun j _ => hall j) (by have := hall 0; omega) (by rw [h3]; split <;> omega)
    exact e
  | succ m ih =>
    intro k i x hi hx hl hk h1 h2 h3
    obtain ⟨k, rfl⟩ : ∃ j, k = j + 1 := ⟨k - 1, by omega⟩
    have hlt : i < b.length := by omega
    have hltx : i < x.length := by omega
    have b1 := hb.getD i
    have b2 := h2 i (by omega)
    rw [impl_limbs_add.l0, if_pos (by omega), if_pos (by omega), if_pos (by omega), if_pos (by omega), w64 (x := (i : Int) + 1) (by omega) (by omega)]
    simp only [rdn]
    rw [Int.toNat_natCast, w64 (by omega) (by omega), show ((i : Int) + 1) = ((i + 1 : Nat) : Int) from by omega]
    have e := ih k (i + 1) (x.set i (x.getD i 0 + b.getD i 0)) (by omega) (by simp; omega) (by simp; omega) (by omega) ?_ ?_ ?_
    · rw [e, val_set _ _ _ hltx, val_drop b i, pw_succ]
      congr 2
      grind
    · intro j hj
      by_cases hji : j = i
      · rw [hji, getD_set_eq _ hltx]; omega
      · rw [getD_set_ne _ hltx hji]; exact h1 j (by omega)
    · intro j hj
      rw [getD_set_ne _ hltx (by omega)]; exact h2 j (by omega)
    · rw [List.length_set, getD_set_ne _ hltx (by omega)]; exact h3
theorem iAdd_ge {a b : List Int} (ha : Dig a) (hb : Dig b) (la : a.length ≤ 500) (lb : b.length ≤ 500) (k : Nat) (hk : 3000 ≤ k) : impl_limbs_add.f k a b = some (rep (val a + val b)) := by
  unfold impl_limbs_add.f
  have hm : mx (a.length : Int) (b.length : Int) = ((max a.length b.length : Nat) : Int) := by unfold mx; split <;> omega
  rw [hm, w64 (by omega) (by omega), if_pos (by omega), show (((max a.length b.length : Nat) : Int) + 1).toNat = max a.length b.length + 1 from by omega, if_pos (by omega)]
  have hc : cpy a (List.replicate (max a.length b.length + 1) 0) = a ++ List.replicate (max a.length b.length + 1 - a.length) 0 := by
    unfold cpy
    rw [List.length_replicate, Nat.min_eq_left (by omega), List.take_length, List.drop_replicate]
  rw [hc]
  have hr : ∀ j, (List.replicate (max a.length b.length + 1 - a.length) (0 : Int)).getD j 0 = 0 := fun j => by
    rw [List.getD_eq_getElem?_getD, List.getElem?_replicate]; split <;> rfl
  have hg : ∀ j, (a ++ List.replicate (max a.length b.length + 1 - a.length) 0).getD j 0 = a.getD j 0 := fun j => by
    by_cases hj : j < a.length
    · rw [List.getD_eq_getElem?_getD, List.getElem?_append_left hj, ← List.getD_eq_getElem?_getD]
    · rw [List.getD_eq_getElem?_getD, List.getElem?_append_right (by omega), ← List.getD_eq_getElem?_getD, hr, getD_ge (by omega)]
  have e := iAdd_l0 hb b.length k 0 (a ++ List.replicate (max a.length b.length + 1 - a.length) 0) (by omega) (by simp; omega) (by simp; omega) (by omega) (fun j hj => by omega) (fun j _ => by rw [hg]; exact ha.getD j)
    (by rw [hg]; apply getD_ge; simp; omega)
  rw [val_append, val_replicate, List.drop_zero, pw_zero] at e
  refine e.trans ?_
  congr 2
  omega
theorem iSub_l1 (v : Int) (hv : 0 ≤ v) : ∀ (m k i : Nat) (x : List Int), i + m = x.length → x.length ≤ 1000 → m + 1100 ≤ k → val x = v →
    (∀ j, j < i → 0 ≤ x.getD j 0 ∧ x.getD j 0 ≤ 9999) → (∀ j, i < j → -9999 ≤ x.getD j 0 ∧ x.getD j 0 ≤ 9999) → (-10000 ≤ x.getD i 0 ∧ x.getD i 0 ≤ 9999) →
    impl_limbs_sub.l1 k x (x.length : Int) (i : Int) = some (rep v) := by
  intro m
  induction m with
  | zero =>
    intro k i x hi hl hk hx h1 h2 h3
    obtain ⟨k, rfl⟩ : ∃ j, k = j + 1 := ⟨k - 1, by omega⟩
    have hd : Dig x := dig_of_getD fun j hj => h1 j (by omega)
    rw [impl_limbs_sub.l1, if_neg (by omega), iTrim_ge x (by omega) k (by omega), trimL_rep hd, hx]
    rfl
  | succ m ih =>
    intro k i x hi hl hk hx h1 h2 h3
    obtain ⟨k, rfl⟩ : ∃ j, k = j + 1 := ⟨k - 1, by omega⟩
    have hlt : i < x.length := by omega
    have hdt : Dig (x.take i) := dig_of_getD fun j hj => by
      rw [List.length_take] at hj
      rw [getD_take x (by omega)]; exact h1 j (by omega)
    rw [impl_limbs_sub.l1, if_pos (by omega), if_pos (by omega), if_pos (by omega)]
    simp only [rdN]
    rw [Int.toNat_natCast, w64 (x := (i : Int) + 1) (by omega) (by omega)]
    by_cases hneg : x.getD i 0 < 0
    · have hlt1 : i + 1 < x.length := by
        apply Nat.lt_of_not_le
        intro hc
        have es := val_split x (n := i) (by omega)
        rw [val_drop x i, List.drop_eq_nil_of_le (show x.length ≤ i + 1 by omega), val_nil] at es
        have hlt2 := val_lt hdt
        rw [List.length_take, Nat.min_eq_left (by omega)] at hlt2
        have hp := pw_pos i
        have : pw i * (x.getD i 0 + 10000 * 0) ≤ pw i * (-1) := Int.mul_le_mul_of_nonneg_left (by omega) (by omega)
        omega
      have n1 := h2 (i + 1) (by omega)
      rw [if_pos hneg]
      simp only [Option.bind_some]
      rw [if_pos (by omega), if_pos (by omega), rdn, show ((i : Int) + 1).toNat = i + 1 from by omega, w64 (x := x.getD i 0 + 10000) (by omega) (by omega), getD_set_ne _ hlt (by omega), w64 (by omega) (by omega), show ((i : Int) + 1) = ((i + 1 : Nat) : Int) from by omega]
      have hlen : ((x.set i (x.getD i 0 + 10000)).set (i + 1) (x.getD (i + 1) 0 - 1)).length = x.length := by simp
      have e := ih k (i + 1) ((x.set i (x.getD i 0 + 10000)).set (i + 1) (x.getD (i + 1) 0 - 1)) (by rw [hlen]; omega) (by rw [hlen]; omega) (by omega) ?_ ?_ ?_ ?_
      · rw [hlen] at e; exact e
      · rw [val_set _ _ _ (by rw [List.length_set]; omega), val_set _ _ _ hlt, getD_set_ne _ hlt (by omega), pw_succ, hx]
        grind
      · intro j hj
        rw [getD_set_ne _ (by rw [List.length_set]; omega) (by omega)]
        by_cases hji : j = i
        · rw [hji, getD_set_eq _ hlt]; omega
        · rw [getD_set_ne _ hlt hji]; exact h1 j (by omega)
      · intro j hj
        rw [getD_set_ne _ (by rw [List.length_set]; omega) (by omega), getD_set_ne _ hlt (by omega)]; exact h2 j (by omega)
      · rw [getD_set_eq _ (by rw [List.length_set]; omega)]; omega
    · rw [if_neg hneg, show ((i : Int) + 1) = ((i + 1 : Nat) : Int) from by omega]
      exact ih k (i + 1) x (by omega) hl (by omega) hx (fun j hj => by
        by_cases hji : j = i
        · rw [hji]; omega
        · exact h1 j (by omega)) (fun j hj => h2 j (by omega)) (by have := h2 (i + 1) (by omega); omega)
theorem iSub_l0 {b : List Int} (hb : Dig b) : ∀ (m k i : Nat) (x : List Int), i + m = b.length → b.length ≤ x.length → x.length ≤ 1000 → m + 2200 ≤ k → 0 ≤ val x - pw i * val (b.drop i) →
    (∀ j, j < i → -9999 ≤ x.getD j 0 ∧ x.getD j 0 ≤ 9999) → (∀ j, i ≤ j → 0 ≤ x.getD j 0 ∧ x.getD j 0 ≤ 9999) →
    impl_limbs_sub.l0 k x b (b.length : Int) (i : Int) = some (rep (val x - pw i * val (b.drop i))) := by
  intro m
  induction m with
  | zero =>
    intro k i x hi hx hl hk hv h1 h2
    obtain ⟨k, rfl⟩ : ∃ j, k = j + 1 := ⟨k - 1, by omega⟩
    rw [List.drop_eq_nil_of_le (by omega), val_nil, Int.mul_zero, Int.sub_zero] at hv
    rw [impl_limbs_sub.l0, if_neg (by omega), List.drop_eq_nil_of_le (by omega), val_nil, Int.mul_zero, Int.sub_zero]
    have hall : ∀ j, -9999 ≤ x.getD j 0 ∧ x.getD j 0 ≤ 9999 := fun j => by
      by_cases hj : j < i
      · exact h1 j hj
      · have := h2 j (by omega); omega
    exact iSub_l1 (val x) hv x.length k 0 x (by omega) hl (by omega) rfl (fun j hj => by omega) (fun j _ => hall j) (by have := hall 0; omega)
  | succ m ih =>
    intro k i x hi hx hl hk hv h1 h2
    obtain ⟨k, rfl⟩ : ∃ j, k = j + 1 := ⟨k - 1, by omega⟩
    have hlt : i < b.length := by omega
    have hltx : i < x.length := by omega
    have b1 := hb.getD i
    have b2 := h2 i (by omega)
    rw [impl_limbs_sub.l0, if_pos (by omega), if_pos (by omega), if_pos (by omega), if_pos (by omega), w64 (x := (i : Int) + 1) (by omega) (by omega)]
    simp only [rdn]
    rw [Int.toNat_natCast, w64 (by omega) (by omega), show ((i : Int) + 1) = ((i + 1 : Nat) : Int) from by omega]
    have hval : val (x.set i (x.getD i 0 - b.getD i 0)) - pw (i + 1) * val (b.drop (i + 1)) = val x - pw i * val (b.drop i) := by
      rw [val_set _ _ _ hltx, val_drop b i, pw_succ]
      grind
    have e := ih k (i + 1) (x.set i (x.getD i 0 - b.getD i 0)) (by omega) (by simp; omega) (by simp; omega) (by omega) (by rw [hval]; exact hv) ?_ ?_
    · rw [e, hval]
    · intro j hj
      by_cases hji : j = i
      · rw [hji, getD_set_eq _ hltx]; omega
      · rw [getD_set_ne _ hltx hji]; exact h1 j (by omega)
    · intro j hj
      rw [getD_set_ne _ hltx (by omega)]; exact h2 j (by omega)
theorem len_le_of_val {a b : List Int} (ha : Dig a) (hb : Dig b) (zb : Nz b) (h : val b ≤ val a) : b.length ≤ a.length := by
  apply Nat.le_of_not_lt
  intro hc
  have := val_lt_of_len ha hb zb hc
  omega
theorem iSub_ge {a b : List Int} (ha : Dig a) (hb : Dig b) (zb : Nz b) (la : a.length ≤ 1000) (h : val b ≤ val a) (k : Nat) (hk : 4000 ≤ k) : impl_limbs_sub.f k a b = some (rep (val a - val b)) := by
  unfold impl_limbs_sub.f clone100.f
  have hlen := len_le_of_val ha hb zb h
  rw [if_pos (by omega)]
  simp only [Option.bind_some]
  have e := iSub_l0 hb b.length k 0 a (by omega) hlen la (by omega) (by rw [List.drop_zero, pw_zero]; omega) (fun j hj => by omega) (fun j _ => ha.getD j)
  rw [List.drop_zero, pw_zero, Int.one_mul] at e
  exact e
end Go.Proofs.Ytdemeoncjcbojaa.Val
end
section
namespace Go.Proofs.Ytdemeoncjcbojaa.Pr
open Go.RowKit Go.Proofs.YtdemeoncjcbojaaW.PrintWords Go.Proofs.YtdemeoncjcbojaaW.PrintLast Go.Proofs.Ytdemeoncjcbojaa.Ext Go.Proofs.YtdemeoncjcbojaaW.PrintMore
attribute [local go_sem] max2_int min2_int max_two min_two max_three min_three max_four min_four
set_option linter.unusedVariables false
set_option linter.unusedSimpArgs false
def impl_BigSub.f (k : Nat) (a0_0 : Bool) (l0_1 : List Int) (a1_0 : Bool) (l1_1 : List Int) : Option (Bool × List Int × Bool) := (impl_bigs.f a0_0 l0_1 a1_0 l1_1).bind fun t988 => (if t988 = true then ((impl_Big_signed.f a0_0 l0_1).bind fun bt989 => ((impl_Big_signed.f a1_0 l1_1).bind fun bt993 => ((impl_signed_minus.f bt993.1 bt993.2).bind fun bt997 => ((impl_signed_add.f k bt989.1 bt989.2 bt997.1 bt997.2).bind fun bt1001 => ((impl_big.f k bt1001.1 bt1001.2).bind fun bt1006 => (some (bt1006.1, bt1006.2.1, bt1006.2.2))))))) else (some (false, ([] : List Int), false)))
end Go.Proofs.Ytdemeoncjcbojaa.Pr
end
section
namespace Go.Proofs.Ytdemeoncjcbojaa.Pr
open Go.RowKit Go.Proofs.YtdemeoncjcbojaaW.PrintWords Go.Proofs.YtdemeoncjcbojaaW.PrintLast Go.Proofs.Ytdemeoncjcbojaa.Ext Go.Proofs.YtdemeoncjcbojaaW.PrintMore
attribute [local go_sem] max2_int min2_int max_two min_two max_three min_three max_four min_four
set_option linter.unusedVariables false
set_option linter.unusedSimpArgs false
def laws_szIntS.f (l0 : List Int) (a1 : Int) : Option (Int) := if (wrap64 (a1 - (l0.length : Int))) < 0 then (some (-1)) else (some (wrap64 (a1 - (l0.length : Int))))
def laws_szBig.f (a0_0 : Bool) (l0_1 : List Int) (a1 : Int) : Option (Int) := (laws_szIntS.f l0_1 a1).bind fun t102 => (if t102 < 0 then (some (-1)) else (some t102))
def laws_toIntS.l0 : Nat → List Int → List Int → Int → Option (List Int)
  | 0, _, _, _ => none
  | k + 1, x0, x3, x4 => if x4 < (x0.length : Int) then (if 0 ≤ x4 then (if x4 < (x3.length : Int) then (laws_toIntS.l0 k x0 (x3.set (x4 : Int).toNat (rd x0 x4)) (wrap64 (x4 + 1))) else (none)) else (none)) else (some x3)
def laws_toIntS.f (k : Nat) (l0 : List Int) : Option (List Int) := if 0 ≤ (l0.length : Int) then (if ((l0.length : Int) : Int).toNat ≤ 35184372088832 then (laws_toIntS.l0 k l0 (List.replicate ((l0.length : Int) : Int).toNat 0) 0) else (none)) else (none)
def laws_toBig.f (k : Nat) (a0_0 : Bool) (l0_1 : List Int) : Option (Bool × List Int) := (laws_toIntS.f k l0_1).bind fun t117 => (some (a0_0, t117))
def laws_eqIntS.l0 : Nat → List Int → List Int → Int → Option (Bool)
  | 0, _, _, _ => none
  | k + 1, x0, x1, x5 => if x5 < (x0.length : Int) then (if 0 ≤ x5 then (if x5 < (x1.length : Int) then (if (rd x0 x5) = (rd x1 x5) then (laws_eqIntS.l0 k x0 x1 (wrap64 (x5 + 1))) else (some false)) else (none)) else (none)) else (some true)
def laws_eqIntS.f (k : Nat) (l0 : List Int) (l1 : List Int) : Option (Bool) := if (l0.length : Int) = (l1.length : Int) then (laws_eqIntS.l0 k l0 l1 0) else (some false)
def laws_eqBig.f (k : Nat) (a0_0 : Bool) (l0_1 : List Int) (a1_0 : Bool) (l1_1 : List Int) : Option (Bool) := if (a0_0 != a1_0) = true then (some false) else ((laws_eqIntS.f k l0_1 l1_1).bind fun t130 => (if t130 = true then (some true) else (some false)))
def laws_jtInts.l0 : Nat → List Int → List Int → Int → Option (Bool)
  | 0, _, _, _ => none
  | k + 1, x0, x1, x5 => if x5 < (x0.length : Int) then (if 0 ≤ x5 then (if x5 < (x1.length : Int) then (if (rd x0 x5) = (rd x1 x5) then (laws_jtInts.l0 k x0 x1 (wrap64 (x5 + 1))) else (some false)) else (none)) else (none)) else (some true)
def laws_jtInts.f (k : Nat) (l0 : List Int) (l1 : List Int) : Option (Bool) := if (l0.length : Int) = (l1.length : Int) then (laws_jtInts.l0 k l0 l1 0) else (some false)
def laws_jtBig.f (k : Nat) (a0_0 : Bool) (l0_1 : List Int) (a1_0 : Bool) (l1_1 : List Int) : Option (Bool) := if (a0_0 == a1_0) = true then ((laws_jtInts.f k l0_1 l1_1).bind fun t328 => (some t328)) else (some false)
def laws_jtZero.f (a0_0 : Bool) (l0_1 : List Int) : Option (Bool) := if a0_0 = true then (some false) else (some ((l0_1.length : Int) == 0))
end Go.Proofs.Ytdemeoncjcbojaa.Pr
end
section
namespace Go.Proofs.Ytdemeoncjcbojaa.Val
open Go.RowKit Go.Proofs.Ytdemeoncjcbojaa.Pr Go.Proofs.Ytdemeoncjcbojaa.Ext Go.Proofs.Ytdemeoncjcbojaa.Jt Go.Proofs.YtdemeoncjcbojaaW.PrintWords Go.Proofs.YtdemeoncjcbojaaW.PrintLast Go.Proofs.YtdemeoncjcbojaaW.PrintMore
set_option linter.unusedVariables false
set_option linter.unusedSimpArgs false
def sv (q : Bool) (v : Int) : Int := if q = true then -v else v
theorem bigv_sv (q : Bool) (l : List Int) : bigv q l = sv q (val l) := rfl
theorem sv_not (q : Bool) (v : Int) : sv (!q) v = -sv q v := by cases q <;> simp [sv]
theorem rep_len_le {v : Int} (h0 : 0 ≤ v) {n : Nat} (h : v < pw n) : (rep v).length ≤ n := (rep_len h0 n).2 h
theorem sgn_ge (x : Int) : sgn x ≥ 0 ↔ 0 ≤ x := by unfold sgn; split <;> (try split) <;> omega
theorem two_pw {n : Nat} {x y : Int} (hx : x < pw n) (hy : y < pw n) : x + y < pw (n + 1) := by rw [pw_succ]; have := pw_pos n; omega
theorem signed_add_ge {s s' : Bool} {a b : List Int} (ha : Dig a) (hb : Dig b) (za : Nz a) (zb : Nz b) (la : a.length ≤ 100) (lb : b.length ≤ 100) :
    ∃ q v, (∀ k, 5000 ≤ k → impl_signed_add.f k s a s' b = some (q, rep v)) ∧ 0 ≤ v ∧ (rep v).length ≤ 101 ∧ sv q v = bigv s a + bigv s' b := by
  have na := val_nonneg ha
  have nb := val_nonneg hb
  have ha2 := Int.lt_of_lt_of_le (val_lt ha) (pw_mono la)
  have hb2 := Int.lt_of_lt_of_le (val_lt hb) (pw_mono lb)
  have h2 : val a + val b < pw 101 := two_pw ha2 hb2
  rw [bigv_sv, bigv_sv]
  by_cases hs : s = s'
  · subst hs
    refine ⟨s, val a + val b, fun k hk => ?_, by omega, rep_len_le (by omega) h2, by cases s <;> simp [sv] <;> omega⟩
    unfold impl_signed_add.f
    rw [if_pos (by simp), iAdd_ge ha hb (by omega) (by omega) k (by omega)]; rfl
  · have hs' : (s == s') = false := by simp [hs]
    by_cases hc : val b ≤ val a
    · refine ⟨s, val a - val b, fun k hk => ?_, by omega, rep_len_le (by omega) (by omega), by cases s <;> cases s' <;> simp_all [sv] <;> omega⟩
      unfold impl_signed_add.f
      rw [if_neg (by rw [hs']; decide), iCmp_ge ha hb za zb (by omega) (by omega) k (by omega)]
      simp only [Option.bind_some]
      rw [if_pos ((sgn_ge _).2 (by omega)), iSub_ge ha hb zb (by omega) hc k (by omega)]; rfl
    · refine ⟨s', val b - val a, fun k hk => ?_, by omega, rep_len_le (by omega) (by omega), by cases s <;> cases s' <;> simp_all [sv] <;> omega⟩
      unfold impl_signed_add.f
      rw [if_neg (by rw [hs']; decide), iCmp_ge ha hb za zb (by omega) (by omega) k (by omega)]
      simp only [Option.bind_some]
      rw [if_neg (fun h => by have := (sgn_ge _).1 h; omega), iSub_ge hb ha za (by omega) (by omega) k (by omega)]; rfl
abbrev No : Bool × List Int × Bool := (false, [], false)
def cmpR (n : Bool) (l : List Int) (n' : Bool) (l' : List Int) : Int := if okB n l = true ∧ okB n' l' = true then sgn (bigv n l - bigv n' l') else 2
theorem bigs_f (n : Bool) (l : List Int) (n' : Bool) (l' : List Int) : impl_bigs.f n l n' l' = some (okB n l && okB n' l') := by
  unfold impl_bigs.f
  rw [bigOk_f, bigOk_f]
  simp only [Option.bind_some]
  cases okB n l <;> simp
theorem sgn_sv {q : Bool} {v : Int} (h : 0 ≤ v) : (if ((rep v).length : Int) = 0 then (0 : Int) else if q = true then -1 else 1) = sgn (sv q v) := by
  have hz := rep_nil h
  by_cases h0 : v = 0
  · subst h0
    rw [rep_zero, if_pos (by rfl)]
    cases q <;> rfl
  · have hn : ¬ ((rep v).length : Int) = 0 := fun hc => h0 (hz.1 (List.length_eq_zero_iff.1 (by omega)))
    rw [if_neg hn]
    cases q
    · rw [if_neg (by decide)]
      unfold sv
      rw [if_neg (by decide), sgn_pos (by omega)]
    · rw [if_pos rfl]
      unfold sv
      rw [if_pos rfl, sgn_neg (by omega)]
theorem sign_f (q : Bool) (l : List Int) : impl_signed_sign.f q l = some (if (l.length : Int) = 0 then (0 : Int) else if q = true then -1 else 1) := by
  unfold impl_signed_sign.f
  (repeat' split) <;> rfl
theorem iBigCmp_ge (n : Bool) (l : List Int) (n' : Bool) (l' : List Int) (k : Nat) (hk : 6000 ≤ k) : impl_BigCmp.f k n l n' l' = some (cmpR n l n' l') := by
  unfold impl_BigCmp.f cmpR
  rw [bigs_f]
  simp only [Option.bind_some]
  by_cases h : okB n l = true ∧ okB n' l' = true
  · rw [if_pos h, if_pos (by rw [h.1, h.2]; rfl)]
    obtain ⟨l1, d1, z1, _⟩ := (okB_iff n l).1 h.1
    obtain ⟨l2, d2, z2, _⟩ := (okB_iff n' l').1 h.2
    obtain ⟨q, v, hq, hv, hl, he⟩ := signed_add_ge (s := n) (s' := !n') d1 d2 z1 z2 (by omega) (by omega)
    simp only [impl_Big_signed.f, impl_signed_minus.f, Option.bind_some]
    rw [hq k (by omega)]
    simp only [Option.bind_some, sign_f]
    rw [sgn_sv hv, he, bigv_sv (!n'), sv_not, ← bigv_sv, ← Int.sub_eq_add_neg]
  · rw [if_neg h, if_neg (by simpa using h)]
theorem l1Cmp_ge {n n' : Bool} {l l' : List Int} (h1 : BOk n l) (h2 : BOk n' l') (k : Nat) (hk : 6000 ≤ k) : spec_l1Cmp.f k n l n' l' = some (sgn (bigv n l - bigv n' l')) := by
  obtain ⟨l1, d1, z1, m1⟩ := h1
  obtain ⟨l2, d2, z2, m2⟩ := h2
  have p1 := val_nonneg d1
  have p2 := val_nonneg d2
  unfold spec_l1Cmp.f
  cases n
  · cases n'
    · rw [if_neg (by decide), if_neg (by decide), sCmpAbs_ge d1 d2 z1 z2 (by omega) (by omega) k (by omega)]
      simp [bigv]
    · have := nz_pos d2 z2 (m2 rfl)
      rw [if_pos (by decide), if_neg (by decide), sgn_pos (by simp [bigv]; omega)]
  · have := nz_pos d1 z1 (m1 rfl)
    cases n'
    · rw [if_pos (by decide), if_pos rfl, sgn_neg (by simp [bigv]; omega)]
    · rw [if_neg (by decide), if_pos rfl, sCmpAbs_ge d2 d1 z2 z1 (by omega) (by omega) k (by omega)]
      simp only [bigv, if_true, Option.bind_some]
      congr 2
      omega
theorem sBigCmp_ge (n : Bool) (l : List Int) (n' : Bool) (l' : List Int) (k : Nat) (hk : 6000 ≤ k) : spec_BigCmp.f k n l n' l' = some (cmpR n l n' l') := by
  unfold spec_BigCmp.f cmpR
  rw [l1Ok_ge n l k (by omega), l1Ok_ge n' l' k (by omega)]
  simp only [Option.bind_some]
  by_cases h1 : okB n l = true
  · rw [if_pos h1]
    by_cases h2 : okB n' l' = true
    · rw [if_pos h2, if_pos ⟨h1, h2⟩, l1Cmp_ge ((okB_iff n l).1 h1) ((okB_iff n' l').1 h2) k hk]; rfl
    · rw [if_neg h2, if_neg (fun h => h2 h.2)]
  · rw [if_neg h1, if_neg (fun h => h1 h.1)]
end Go.Proofs.Ytdemeoncjcbojaa.Val
end
section
namespace Go.Proofs.Ytdemeoncjcbojaa.Val
open Go.RowKit Go.Proofs.Ytdemeoncjcbojaa.Pr Go.Proofs.Ytdemeoncjcbojaa.Ext Go.Proofs.Ytdemeoncjcbojaa.Jt Go.Proofs.YtdemeoncjcbojaaW.PrintWords Go.Proofs.YtdemeoncjcbojaaW.PrintLast Go.Proofs.YtdemeoncjcbojaaW.PrintMore
set_option linter.unusedVariables false
set_option linter.unusedSimpArgs false
theorem wf8 {a : Int} (h : (Lit.int .u8 a).wf = true) : 0 ≤ a ∧ a ≤ 255 := by
  simp [Lit.wf, IntKind.min, IntKind.max, IntKind.signed, IntKind.bits] at h; omega
theorem rd_mem {l : List Int} {i : Int} (h0 : 0 ≤ i) (h : i < (l.length : Int)) : rd l i ∈ l := by
  have hi : i.toNat < l.length := by omega
  unfold rd
  rw [List.getD_eq_getElem?_getD, List.getElem?_eq_getElem hi]
  exact List.getElem_mem hi
theorem xor_nonneg {x y : Int} (hx : 0 ≤ x) (hx' : x < 4611686018427387904) (hy : 0 ≤ y) (hy' : y < 4611686018427387904) : 0 ≤ Go.bits .xor .i64 x y := by
  obtain ⟨a, rfl⟩ := Int.eq_ofNat_of_zero_le hx
  obtain ⟨b, rfl⟩ := Int.eq_ofNat_of_zero_le hy
  have ha : a < 2 ^ 62 := by omega
  have hb : b < 2 ^ 62 := by omega
  have hlt := Nat.xor_lt_two_pow ha hb
  have ha' : a % 2 ^ IntKind.i64.bits = a := Nat.mod_eq_of_lt (by show a < 2 ^ 64; omega)
  have hb' : b % 2 ^ IntKind.i64.bits = b := Nat.mod_eq_of_lt (by show b < 2 ^ 64; omega)
  have e : Go.bits .xor .i64 (a : Int) (b : Int) = ((a ^^^ b : Nat) : Int) := by
    simp only [Go.bits, BitVec.ofInt_natCast, BitVec.toNat_xor, BitVec.toNat_ofNat, ha', hb']
    rw [IntKind.wrap_i64]
    omega
  rw [e]
  omega
def BytesOk (b : List Int) : Prop := b.length ≤ 2000 ∧ ∀ x ∈ b, 0 ≤ x ∧ x ≤ 255
theorem pick_any {b : List Int} (hb : BytesOk b) {p n : Int} (hp : 0 ≤ p) (hp' : p ≤ 1000000) (hn : 1 ≤ n) :
    ∃ r, (∀ k, spec_l1Rd_pick.f (k + 1) b p n = some (r, p + 1)) ∧ 0 ≤ r ∧ r < n := by
  have e1 : wrap64 (p + 1) = p + 1 := w64 (by omega) (by omega)
  have e2 : wrap64 (p + 1 - 1) = p := by rw [w64 (by omega) (by omega)]; omega
  have hl := hb.1
  by_cases h0 : b.length = 0
  · refine ⟨0, fun k => ?_, by omega, by omega⟩
    have hz : ((b.length : Int) == 0) = true := by rw [h0]; rfl
    unfold spec_l1Rd_pick.f
    rw [if_neg (by omega), e1, hz]
    simp only [spec_l1Rd_pick.j0, if_true]
  · have hz : ((b.length : Int) == 0) = false := by rw [beq_eq_false_iff_ne]; omega
    by_cases hk : p < (b.length : Int)
    · have hm := hb.2 _ (rd_mem hp hk)
      refine ⟨Int.tmod (rd b p) n, fun k => ?_, Int.tmod_nonneg _ hm.1, Int.tmod_lt_of_pos _ (by omega)⟩
      unfold spec_l1Rd_pick.f
      rw [if_neg (by omega), e1, hz]
      simp only [spec_l1Rd_pick.j0]
      rw [if_neg (by decide), e2, if_pos hk, if_pos hp, if_neg (by omega), w64 (by omega) (by omega)]
    · have hL : (0 : Int) < (b.length : Int) := by omega
      have e7 : wrap64 (wrap64 (p * 7) + 3) = p * 7 + 3 := by
        rw [w64 (x := p * 7) (by omega) (by omega), w64 (by omega) (by omega)]
      have i1 := Int.tmod_nonneg (b.length : Int) hp
      have j1 := Int.tmod_lt_of_pos p hL
      have i2 := Int.tmod_nonneg (b.length : Int) (show 0 ≤ p * 7 + 3 by omega)
      have j2 := Int.tmod_lt_of_pos (p * 7 + 3) hL
      have hA := hb.2 _ (rd_mem i1 j1)
      have hB := hb.2 _ (rd_mem i2 j2)
      have hq0 : 0 ≤ Int.tdiv p (b.length : Int) := Int.tdiv_nonneg hp (by omega)
      have hq1 : Int.tdiv p (b.length : Int) ≤ p := by
        rw [Int.tdiv_eq_ediv_of_nonneg hp]; exact Int.ediv_le_self _ hp
      generalize hAe : rd b (Int.tmod p (b.length : Int)) = A at hA
      generalize hBe : rd b (Int.tmod (p * 7 + 3) (b.length : Int)) = B at hB
      generalize hQe : Int.tdiv p (b.length : Int) = Q at hq0 hq1
      have hX : 0 ≤ wrap64 (wrap64 (wrap64 (wrap64 (wrap64 A * 131) + wrap64 (wrap64 B * 1117)) + wrap64 (p * 29)) + wrap64 (wrap64 Q * 53)) ∧
          wrap64 (wrap64 (wrap64 (wrap64 (wrap64 A * 131) + wrap64 (wrap64 B * 1117)) + wrap64 (p * 29)) + wrap64 (wrap64 Q * 53)) < 1000000000 := by
        rw [w64 (x := A) (by omega) (by omega), w64 (x := B) (by omega) (by omega), w64 (x := Q) (by omega) (by omega), w64 (x := A * 131) (by omega) (by omega), w64 (x := B * 1117) (by omega) (by omega),
          w64 (x := p * 29) (by omega) (by omega), w64 (x := Q * 53) (by omega) (by omega), w64 (x := A * 131 + B * 1117) (by omega) (by omega), w64 (x := A * 131 + B * 1117 + p * 29) (by omega) (by omega),
          w64 (by omega) (by omega)]
        omega
      generalize hXe : wrap64 (wrap64 (wrap64 (wrap64 (wrap64 A * 131) + wrap64 (wrap64 B * 1117)) + wrap64 (p * 29)) + wrap64 (wrap64 Q * 53)) = X at hX
      have hY : 0 ≤ wrap64 (Int.tdiv X 64) ∧ wrap64 (Int.tdiv X 64) < 1000000000 := by
        rw [Int.tdiv_eq_ediv_of_nonneg hX.1, w64 (by omega) (by omega)]; omega
      refine ⟨Int.tmod (Go.bits .xor .i64 X (wrap64 (Int.tdiv X 64))) n, fun k => ?_, Int.tmod_nonneg _ (xor_nonneg hX.1 (by omega) hY.1 (by omega)), Int.tmod_lt_of_pos _ (by omega)⟩
      unfold spec_l1Rd_pick.f
      rw [if_neg (by omega), e1, hz]
      simp only [spec_l1Rd_pick.j0]
      rw [if_neg (by decide), e2, if_neg hk, if_neg (by omega), if_pos i1, if_pos j1, e7, if_pos i2, if_pos j2, if_neg (by omega), hAe, hBe, hQe, hXe]
theorem open_any {l : List Int} (hl : ∀ x ∈ l, (Lit.int .u8 x).wf = true) : ∃ b, spec_l1Open.f l = some (b, 0) ∧ BytesOk b := by
  unfold spec_l1Open.f
  by_cases h : (l.length : Int) > 2000
  · rw [if_pos h, if_pos (by omega)]
    exact ⟨_, rfl, by rw [List.length_take]; omega, fun x hx => wf8 (hl x (List.mem_of_mem_take hx))⟩
  · rw [if_neg h]
    exact ⟨_, rfl, by omega, fun x hx => wf8 (hl x hx)⟩
theorem one_any {b : List Int} (hb : BytesOk b) {p : Int} (hp : 0 ≤ p) (hp' : p ≤ 1000000) {l : List Int} (hl : 1 ≤ l.length) :
    ∃ r, (∀ k, spec_l1Rd_one.f (k + 1) b p l = some (r, p + 1)) ∧ r ∈ l := by
  obtain ⟨i, hi, h0, h1⟩ := pick_any hb hp hp' (n := (l.length : Int)) (by omega)
  refine ⟨rd l i, fun k => ?_, rd_mem h0 h1⟩
  unfold spec_l1Rd_one.f
  rw [hi k]
  simp only [Option.bind_some]
  rw [if_pos h0, if_pos h1]
theorem pick_ge {b : List Int} (hb : BytesOk b) {p n : Int} (hp : 0 ≤ p) (hp' : p ≤ 1000000) (hn : 1 ≤ n) :
    ∃ r, (∀ k, 1 ≤ k → spec_l1Rd_pick.f k b p n = some (r, p + 1)) ∧ 0 ≤ r ∧ r < n := by
  obtain ⟨r, h, h0, h1⟩ := pick_any hb hp hp' hn
  exact ⟨r, fun k hk => by obtain ⟨m, rfl⟩ : ∃ m, k = m + 1 := ⟨k - 1, by omega⟩; exact h m, h0, h1⟩
theorem one_ge {b : List Int} (hb : BytesOk b) {p : Int} (hp : 0 ≤ p) (hp' : p ≤ 1000000) {l : List Int} (hl : 1 ≤ l.length) :
    ∃ r, (∀ k, 1 ≤ k → spec_l1Rd_one.f k b p l = some (r, p + 1)) ∧ r ∈ l := by
  obtain ⟨r, h, h0⟩ := one_any hb hp hp' hl
  exact ⟨r, fun k hk => by obtain ⟨m, rfl⟩ : ∃ m, k = m + 1 := ⟨k - 1, by omega⟩; exact h m, h0⟩
theorem size_of (xs : List Int) : (strOfNums xs).size = xs.length := by unfold strOfNums; simp [ByteArray.size]
theorem size_app (a b : ByteArray) : (a ++ b).size = a.size + b.size := ByteArray.size_append
theorem figs_l0 {b : List Int} (hb : BytesOk b) (n : Int) (hn : n ≤ 100) : ∀ (m : Nat) (s : ByteArray) (p : Int), 0 ≤ p → p + 2 * m ≤ 900000 → (s.size : Int) + m = n →
    ∃ r p', (∀ k, m + 2 ≤ k → spec_l14Figs.l0 k n s b p = some (r, p')) ∧ (r.size : Int) = n ∧ p ≤ p' ∧ p' ≤ p + 2 * m := by
  intro m
  induction m with
  | zero =>
    intro s p hp hp' hs
    refine ⟨s, p, fun k hk => ?_, by omega, by omega, by omega⟩
    obtain ⟨k, rfl⟩ : ∃ j, k = j + 1 := ⟨k - 1, by omega⟩
    rw [spec_l14Figs.l0, if_neg (by omega)]
  | succ m ih =>
    intro s p hp hp' hs
    obtain ⟨x, hx, _, _⟩ := pick_ge hb hp (by omega) (n := 10) (by omega)
    obtain ⟨y, hy, _⟩ := one_ge hb (p := p + 1) (by omega) (by omega) (l := [0, 0, 9, 9, 5, 1, x]) (by simp)
    obtain ⟨r, p', hr, h1, h2, h3⟩ := ih (s ++ strOfNums [(wrap64 (48 + y)) % 256]) (p + 1 + 1) (by omega) (by omega) (by rw [size_app, size_of]; simp; omega)
    refine ⟨r, p', fun k hk => ?_, h1, by omega, by omega⟩
    obtain ⟨k, rfl⟩ : ∃ j, k = j + 1 := ⟨k - 1, by omega⟩
    rw [spec_l14Figs.l0, if_pos (by omega), hx k (by omega)]
    simp only [Option.bind_some]
    rw [hy k (by omega)]
    simp only [Option.bind_some]
    rw [if_pos (by rw [size_of]; simp; omega)]
    exact hr k (by omega)
theorem figs_any {b : List Int} (hb : BytesOk b) {p : Int} (hp : 0 ≤ p) (hp' : p ≤ 500000) {n : Int} (hn : n ≤ 100) :
    ∃ r p', (∀ k, 200 ≤ k → spec_l14Figs.f k b p n = some (r, p')) ∧ r.size ≤ 101 ∧ p ≤ p' ∧ p' ≤ p + 300 := by
  by_cases h1 : n < 1
  · refine ⟨⟨#[48]⟩, p, fun k hk => ?_, by decide, by omega, by omega⟩
    unfold spec_l14Figs.f
    rw [if_pos h1]
  · obtain ⟨x, hx, _, _⟩ := pick_ge hb hp (by omega) (n := 9) (by omega)
    obtain ⟨r, p', hr, q1, q2, q3⟩ := figs_l0 hb n hn (n.toNat - 1) (strOfNums [(wrap64 (49 + x)) % 256]) (p + 1) (by omega) (by omega) (by rw [size_of]; simp; omega)
    refine ⟨r, p', fun k hk => ?_, by omega, by omega, by omega⟩
    unfold spec_l14Figs.f
    rw [if_neg h1, hx k (by omega)]
    simp only [Option.bind_some]
    exact hr k (by omega)
theorem many_l0 (s : ByteArray) (hs : s.size = 1) : ∀ (m : Nat) (a : ByteArray), a.size + m ≤ 1000 → ∃ r, (∀ k, m + 1 ≤ k → spec_l1Many.l0 k s (m : Int) a = some r) ∧ r.size = a.size + m := by
  intro m
  induction m with
  | zero =>
    intro a ha
    refine ⟨a, fun k hk => ?_, by omega⟩
    obtain ⟨k, rfl⟩ : ∃ j, k = j + 1 := ⟨k - 1, by omega⟩
    rw [spec_l1Many.l0, if_neg (by omega)]
  | succ m ih =>
    intro a ha
    obtain ⟨r, hr, h⟩ := ih (a ++ s) (by rw [size_app]; omega)
    refine ⟨r, fun k hk => ?_, by rw [size_app] at h; omega⟩
    obtain ⟨k, rfl⟩ : ∃ j, k = j + 1 := ⟨k - 1, by omega⟩
    rw [spec_l1Many.l0, if_pos (by omega), if_pos (by omega), w64 (by omega) (by omega), show (((m + 1 : Nat) : Int) - 1) = (m : Int) from by omega]
    exact hr k (by omega)
theorem many_any (s : ByteArray) (hs : s.size = 1) (n : Int) (hn : n ≤ 100) : ∃ r, (∀ k, 200 ≤ k → spec_l1Many.f k s n = some r) ∧ r.size ≤ 100 := by
  by_cases h0 : n ≤ 0
  · refine ⟨⟨#[]⟩, fun k hk => ?_, by decide⟩
    obtain ⟨k, rfl⟩ : ∃ j, k = j + 1 := ⟨k - 1, by omega⟩
    unfold spec_l1Many.f
    rw [spec_l1Many.l0, if_neg (by omega)]
  · obtain ⟨r, hr, h⟩ := many_l0 s hs n.toNat ⟨#[]⟩ (by show 0 + n.toNat ≤ 1000; omega)
    refine ⟨r, fun k hk => ?_, by rw [h]; show 0 + n.toNat ≤ 100; omega⟩
    unfold spec_l1Many.f
    have e := hr k (by omega)
    rw [show ((n.toNat : Nat) : Int) = n from by omega] at e
    exact e
theorem fromFig_l1 (s : ByteArray) (hs : s.size ≤ 200) (acc : List Int) (ha : acc.length ≤ 1000) (x4 : Nat) (h4 : x4 ≤ s.size) (K : Nat) (R : List Int → Prop)
    (hnext : ∀ y, ∃ r, (∀ k, K ≤ k → spec_l1FromFigures.l0 k (s.extract 0 x4) (acc ++ [y]) = some r) ∧ R r) :
    ∀ (m i : Nat) (x5 : Int), i + m = s.size → ∃ r, (∀ k, m + 1 + K ≤ k → spec_l1FromFigures.l1 k s acc (x4 : Int) x5 (i : Int) = some r) ∧ R r := by
  intro m
  induction m with
  | zero =>
    intro i x5 hi
    obtain ⟨r, hr, h⟩ := hnext x5
    refine ⟨r, fun k hk => ?_, h⟩
    obtain ⟨k, rfl⟩ : ∃ j, k = j + 1 := ⟨k - 1, by omega⟩
    rw [spec_l1FromFigures.l1, if_neg (by omega), if_pos (by omega), if_pos (by omega), if_pos (by omega), Int.toNat_natCast]
    exact hr k (by omega)
  | succ m ih =>
    intro i x5 hi
    obtain ⟨r, hr, h⟩ := ih (i + 1) (wrap64 ((wrap64 (x5 * 10)) + (((bt s (i : Int)) - 48) % 256))) (by omega)
    refine ⟨r, fun k hk => ?_, h⟩
    obtain ⟨k, rfl⟩ : ∃ j, k = j + 1 := ⟨k - 1, by omega⟩
    rw [spec_l1FromFigures.l1, if_pos (by omega), if_pos (by omega), w64 (x := (i : Int) + 1) (by omega) (by omega), show ((i : Int) + 1) = ((i + 1 : Nat) : Int) from by omega]
    exact hr k (by omega)
set_option maxRecDepth 20000 in
theorem fromFig_l0 : ∀ (n : Nat) (s : ByteArray) (acc : List Int), s.size = n → n ≤ 200 → acc.length + n ≤ 1000 → ∃ r, (∀ k, 10 * n + 1200 ≤ k → spec_l1FromFigures.l0 k s acc = some r) ∧ r.length ≤ 1000 := by
  intro n
  induction n using Nat.strongRecOn with
  | ind n ih =>
    intro s acc hs hn hl
    by_cases h0 : s.size = 0
    · refine ⟨trimL acc, fun k hk => ?_, by have := trimL_len acc; omega⟩
      obtain ⟨k, rfl⟩ : ∃ j, k = j + 1 := ⟨k - 1, by omega⟩
      rw [spec_l1FromFigures.l0, if_neg (by omega), sTrim_ge acc (by omega) k (by omega)]; rfl
    · have hx : ∃ x4 : Nat, x4 + 1 ≤ s.size ∧ s.size ≤ x4 + 4 ∧ ∀ k, spec_l1FromFigures.l0 (k + 1) s acc = spec_l1FromFigures.j1 k s acc (x4 : Int) := by
        by_cases h4 : (s.size : Int) - 4 < 0
        · refine ⟨0, by omega, by omega, fun k => ?_⟩
          rw [spec_l1FromFigures.l0, if_pos (by omega), w64 (by omega) (by omega), if_pos h4]; rfl
        · refine ⟨s.size - 4, by omega, by omega, fun k => ?_⟩
          rw [spec_l1FromFigures.l0, if_pos (by omega), w64 (by omega) (by omega), if_neg h4, show ((s.size : Int) - 4) = ((s.size - 4 : Nat) : Int) from by omega]
      obtain ⟨x4, a1, a2, hk0⟩ := hx
      have hsz : (s.extract 0 x4).size = x4 := by rw [ByteArray.size_extract]; omega
      obtain ⟨r, hr, h⟩ := fromFig_l1 s (by omega) acc (by omega) x4 (by omega) (10 * x4 + 1200) (fun r => r.length ≤ 1000)
        (fun y => ih x4 (by omega) (s.extract 0 x4) (acc ++ [y]) hsz (by omega) (by simp; omega)) (s.size - x4) x4 0 (by omega)
      refine ⟨r, fun k hk => ?_, h⟩
      obtain ⟨k, rfl⟩ : ∃ j, k = j + 2 := ⟨k - 2, by omega⟩
      rw [hk0, spec_l1FromFigures.j1]
      exact hr k (by omega)
theorem fromFig_any (s : ByteArray) (hs : s.size ≤ 150) : ∃ r, (∀ k, 2800 ≤ k → spec_l1FromFigures.f k s = some r) ∧ r.length ≤ 1000 := by
  obtain ⟨r, hr, h⟩ := fromFig_l0 s.size s [] rfl (by omega) (by simp; omega)
  exact ⟨r, fun k hk => hr k (by omega), h⟩
theorem l1Big_any (neg : Bool) (l : List Int) (hl : l.length ≤ 1000) : ∃ n r ok, (∀ k, 1010 ≤ k → spec_l1Big.f k neg l = some (n, r, ok)) ∧ r.length ≤ 16 := by
  by_cases h : ((trimL l).length : Int) > 16
  · refine ⟨false, [], false, fun k hk => ?_, by simp⟩
    unfold spec_l1Big.f
    rw [sTrim_ge l (by omega) k (by omega)]
    simp only [Option.bind_some]
    rw [if_pos h]
  · cases neg
    · refine ⟨false, trimL l, true, fun k hk => ?_, by omega⟩
      unfold spec_l1Big.f
      rw [sTrim_ge l (by omega) k (by omega)]
      simp only [Option.bind_some]
      rw [if_neg h, if_neg (by decide)]
    · refine ⟨decide (0 < (trimL l).length), trimL l, true, fun k hk => ?_, by omega⟩
      unfold spec_l1Big.f
      rw [sTrim_ge l (by omega) k (by omega)]
      simp only [Option.bind_some]
      rw [if_neg h, if_pos trivial]
theorem bigJ1_any {b : List Int} (hb : BytesOk b) {p : Int} (hp : 0 ≤ p) (hp' : p ≤ 500000) {n : Int} (hn : n ≤ 100) (s : ByteArray) (hs : s.size ≤ 150) :
    ∃ g r p', (∀ k, 3000 ≤ k → spec_l14Big.j1 k n s b p = some (g, r, p')) ∧ r.length ≤ 16 ∧ p ≤ p' ∧ p' ≤ p + 10 := by
  obtain ⟨x, hx, _, _⟩ := pick_ge hb hp (by omega) (n := 6) (by omega)
  obtain ⟨y, hy, _, _⟩ := pick_ge hb (p := p + 1) (by omega) (by omega) (n := 3) (by omega)
  by_cases h0 : x = 0
  · obtain ⟨t, ht, hts⟩ := many_any (⟨#[57]⟩ : ByteArray) rfl n hn
    obtain ⟨f, hf, hfl⟩ := fromFig_any t (by omega)
    obtain ⟨g, r, ok, hg, hr⟩ := l1Big_any (y == 0) f hfl
    refine ⟨g, r, p + 1 + 1, fun k hk => ?_, hr, by omega, by omega⟩
    obtain ⟨k, rfl⟩ : ∃ j, k = j + 1 := ⟨k - 1, by omega⟩
    rw [spec_l14Big.j1, hx k (by omega)]; simp only [Option.bind_some]
    rw [if_pos h0, ht k (by omega)]; simp only [Option.bind_some]
    rw [hy k (by omega)]; simp only [Option.bind_some]
    rw [hf k (by omega)]; simp only [Option.bind_some]
    rw [hg k (by omega)]; rfl
  · obtain ⟨f, hf, hfl⟩ := fromFig_any s hs
    obtain ⟨g, r, ok, hg, hr⟩ := l1Big_any (y == 0) f hfl
    refine ⟨g, r, p + 1 + 1, fun k hk => ?_, hr, by omega, by omega⟩
    obtain ⟨k, rfl⟩ : ∃ j, k = j + 1 := ⟨k - 1, by omega⟩
    rw [spec_l14Big.j1, hx k (by omega)]; simp only [Option.bind_some]
    rw [if_neg h0, hy k (by omega)]; simp only [Option.bind_some]
    rw [hf k (by omega)]; simp only [Option.bind_some]
    rw [hg k (by omega)]; rfl
theorem bigJ0_any {b : List Int} (hb : BytesOk b) {p : Int} (hp : 0 ≤ p) (hp' : p ≤ 400000) {n : Int} (hn0 : 0 ≤ n) (hn : n ≤ 100) :
    ∃ g r p', (∀ k, 3010 ≤ k → spec_l14Big.j0 k n b p = some (g, r, p')) ∧ r.length ≤ 16 ∧ p ≤ p' ∧ p' ≤ p + 400 := by
  obtain ⟨f, q, hf, hfs, q1, q2⟩ := figs_any hb hp (by omega) hn
  obtain ⟨x, hx, _, _⟩ := pick_ge hb (p := q) (by omega) (by omega) (n := 6) (by omega)
  by_cases h0 : x = 0
  · obtain ⟨t, ht, hts⟩ := many_any (⟨#[48]⟩ : ByteArray) rfl (wrap64 (n - 1)) (by rw [w64 (by omega) (by omega)]; omega)
    obtain ⟨g, r, p', hj, hr, z1, z2⟩ := bigJ1_any hb (p := q + 1) (by omega) (by omega) hn ((⟨#[49]⟩ : ByteArray) ++ t) (by rw [size_app]; show 1 + t.size ≤ 150; omega)
    refine ⟨g, r, p', fun k hk => ?_, hr, by omega, by omega⟩
    obtain ⟨k, rfl⟩ : ∃ j, k = j + 1 := ⟨k - 1, by omega⟩
    rw [spec_l14Big.j0, hf k (by omega)]; simp only [Option.bind_some]
    rw [hx k (by omega)]; simp only [Option.bind_some]
    rw [if_pos h0, ht k (by omega)]; simp only [Option.bind_some]
    rw [if_pos (by omega)]
    exact hj k (by omega)
  · obtain ⟨g, r, p', hj, hr, z1, z2⟩ := bigJ1_any hb (p := q + 1) (by omega) (by omega) hn f (by omega)
    refine ⟨g, r, p', fun k hk => ?_, hr, by omega, by omega⟩
    obtain ⟨k, rfl⟩ : ∃ j, k = j + 1 := ⟨k - 1, by omega⟩
    rw [spec_l14Big.j0, hf k (by omega)]; simp only [Option.bind_some]
    rw [hx k (by omega)]; simp only [Option.bind_some]
    rw [if_neg h0]
    exact hj k (by omega)
theorem big_any {b : List Int} (hb : BytesOk b) {p : Int} (hp : 0 ≤ p) (hp' : p ≤ 300000) {n : Int} (hn : 1 ≤ n) (hn' : n ≤ 64) :
    ∃ g r p', (∀ k, 3020 ≤ k → spec_l14Big.f k b p n = some (g, r, p')) ∧ r.length ≤ 16 ∧ p ≤ p' ∧ p' ≤ p + 500 := by
  obtain ⟨x, hx, x0, x1⟩ := pick_ge hb hp (by omega) (n := 64) (by omega)
  obtain ⟨y, hy, hym⟩ := one_ge hb (p := p + 1) (by omega) (by omega) (l := [0, 1, 1, 2, 3, 4, 5, 8, 9, 12, 17, 29, 30, 31, 33, 63, 64, wrap64 (1 + x)]) (by simp)
  have hy64 : 0 ≤ y ∧ y ≤ 64 := by
    rw [w64 (by omega) (by omega)] at hym
    simp only [List.mem_cons, List.not_mem_nil, or_false] at hym
    omega
  by_cases hc : y > n
  · obtain ⟨z, hz, z0, z1⟩ := pick_ge hb (p := p + 1 + 1) (by omega) (by omega) hn
    obtain ⟨g, r, p', hj, hr, w1, w2⟩ := bigJ0_any hb (p := p + 1 + 1 + 1) (by omega) (by omega) (n := wrap64 (1 + z)) (by rw [w64 (by omega) (by omega)]; omega) (by rw [w64 (by omega) (by omega)]; omega)
    refine ⟨g, r, p', fun k hk => ?_, hr, by omega, by omega⟩
    unfold spec_l14Big.f
    rw [hx k (by omega)]; simp only [Option.bind_some]
    rw [hy k (by omega)]; simp only [Option.bind_some]
    rw [if_pos hc, hz k (by omega)]; simp only [Option.bind_some]
    exact hj k (by omega)
  · obtain ⟨g, r, p', hj, hr, w1, w2⟩ := bigJ0_any hb (p := p + 1 + 1) (by omega) (by omega) (n := y) (by omega) (by omega)
    refine ⟨g, r, p', fun k hk => ?_, hr, by omega, by omega⟩
    unfold spec_l14Big.f
    rw [hx k (by omega)]; simp only [Option.bind_some]
    rw [hy k (by omega)]; simp only [Option.bind_some]
    rw [if_neg hc]
    exact hj k (by omega)
theorem anyBig_l0 {b : List Int} {p : Int} (g : Bool) : ∀ (m : Nat) (l : List Int), l.length ≤ 100 → 17 ≤ l.length + m → ∃ r, (∀ k, m + 1 ≤ k → spec_l14AnyBig.l0 k b p g l = some (g, r, p)) ∧ r.length ≤ 100 + m := by
  intro m
  induction m with
  | zero =>
    intro l h1 h2
    refine ⟨l, fun k hk => ?_, by omega⟩
    obtain ⟨k, rfl⟩ : ∃ j, k = j + 1 := ⟨k - 1, by omega⟩
    rw [spec_l14AnyBig.l0, if_neg (by omega)]
  | succ m ih =>
    intro l h1 h2
    by_cases h : (l.length : Int) < 17
    · obtain ⟨r, hr, hl⟩ := ih (l ++ [1]) (by simp; omega) (by simp; omega)
      refine ⟨r, fun k hk => ?_, by omega⟩
      obtain ⟨k, rfl⟩ : ∃ j, k = j + 1 := ⟨k - 1, by omega⟩
      rw [spec_l14AnyBig.l0, if_pos h, if_pos (by omega)]
      exact hr k (by omega)
    · refine ⟨l, fun k hk => ?_, by omega⟩
      obtain ⟨k, rfl⟩ : ∃ j, k = j + 1 := ⟨k - 1, by omega⟩
      rw [spec_l14AnyBig.l0, if_neg h]
theorem anyBig_any {b : List Int} (hb : BytesOk b) {p : Int} (hp : 0 ≤ p) (hp' : p ≤ 200000) :
    ∃ g r p', (∀ k, 3030 ≤ k → spec_l14AnyBig.f k b p = some (g, r, p')) ∧ r.length ≤ 200 ∧ p ≤ p' ∧ p' ≤ p + 600 := by
  obtain ⟨g, l, q, hg, hl, q1, q2⟩ := big_any hb hp (by omega) (n := 64) (by omega) (by omega)
  obtain ⟨x, hx, _, _⟩ := pick_ge hb (p := q) (by omega) (by omega) (n := 30) (by omega)
  by_cases h0 : x = 0
  · refine ⟨g, l ++ [0], q + 1, fun k hk => ?_, by simp; omega, by omega, by omega⟩
    unfold spec_l14AnyBig.f
    rw [hg k (by omega)]; simp only [Option.bind_some]
    rw [hx k (by omega)]; simp only [Option.bind_some]
    rw [if_pos h0, if_pos (by omega)]
  · by_cases h1 : x = 1
    · obtain ⟨y, hy, _⟩ := one_ge hb (p := q + 1) (by omega) (by omega) (l := [10000, (-1)]) (by decide)
      refine ⟨g, l ++ [y], q + 1 + 1, fun k hk => ?_, by simp; omega, by omega, by omega⟩
      unfold spec_l14AnyBig.f
      rw [hg k (by omega)]; simp only [Option.bind_some]
      rw [hx k (by omega)]; simp only [Option.bind_some]
      rw [if_neg h0, if_pos h1, hy k (by omega)]; simp only [Option.bind_some]
      rw [if_pos (by omega)]
    · by_cases h2 : x = 2
      · refine ⟨true, [], q + 1, fun k hk => ?_, by simp, by omega, by omega⟩
        unfold spec_l14AnyBig.f
        rw [hg k (by omega)]; simp only [Option.bind_some]
        rw [hx k (by omega)]; simp only [Option.bind_some]
        rw [if_neg h0, if_neg h1, if_pos h2]
      · by_cases h3 : x = 3
        · obtain ⟨r, hr, hrl⟩ := anyBig_l0 (b := b) (p := q + 1) g 17 l (by omega) (by omega)
          refine ⟨g, r, q + 1, fun k hk => ?_, by omega, by omega, by omega⟩
          unfold spec_l14AnyBig.f
          rw [hg k (by omega)]; simp only [Option.bind_some]
          rw [hx k (by omega)]; simp only [Option.bind_some]
          rw [if_neg h0, if_neg h1, if_neg h2, if_pos h3]
          exact hr k (by omega)
        · refine ⟨g, l, q + 1, fun k hk => ?_, by omega, by omega, by omega⟩
          unfold spec_l14AnyBig.f
          rw [hg k (by omega)]; simp only [Option.bind_some]
          rw [hx k (by omega)]; simp only [Option.bind_some]
          rw [if_neg h0, if_neg h1, if_neg h2, if_neg h3]
theorem two_any {l : List Int} (hl : ∀ x ∈ l, (Lit.int .u8 x).wf = true) : ∃ g r g' r', (∀ k, 3100 ≤ k → spec_l14TwoBigs.f k l = some (g, r, g', r')) ∧ r.length ≤ 200 ∧ r'.length ≤ 200 := by
  obtain ⟨b, hb, hB⟩ := open_any hl
  obtain ⟨g, r, p, hg, hr, p1, p2⟩ := anyBig_any hB (p := 0) (by omega) (by omega)
  obtain ⟨g', r', p', hg', hr', p1', p2'⟩ := anyBig_any hB (p := p) (by omega) (by omega)
  obtain ⟨x, hx, _, _⟩ := pick_ge hB (p := p') (by omega) (by omega) (n := 6) (by omega)
  by_cases h0 : x = 0
  · cases g
    · refine ⟨false, r, decide (0 < r.length), r, fun k hk => ?_, hr, hr⟩
      unfold spec_l14TwoBigs.f
      rw [hb]; simp only [Option.bind_some]
      rw [hg k (by omega)]; simp only [Option.bind_some]
      rw [hg' k (by omega)]; simp only [Option.bind_some]
      rw [hx k (by omega)]; simp only [Option.bind_some]
      rw [if_pos h0, if_neg (by decide), if_pos (by simp; omega)]
      simp
    · refine ⟨true, r, false, r, fun k hk => ?_, hr, hr⟩
      unfold spec_l14TwoBigs.f
      rw [hb]; simp only [Option.bind_some]
      rw [hg k (by omega)]; simp only [Option.bind_some]
      rw [hg' k (by omega)]; simp only [Option.bind_some]
      rw [hx k (by omega)]; simp only [Option.bind_some]
      rw [if_pos h0, if_pos trivial, if_pos (by simp; omega)]
      simp
  · refine ⟨g, r, g', r', fun k hk => ?_, hr, hr'⟩
    unfold spec_l14TwoBigs.f
    rw [hb]; simp only [Option.bind_some]
    rw [hg k (by omega)]; simp only [Option.bind_some]
    rw [hg' k (by omega)]; simp only [Option.bind_some]
    rw [hx k (by omega)]; simp only [Option.bind_some]
    rw [if_neg h0]
theorem drawCmp_any {l : List Int} (hl : ∀ x ∈ l, (Lit.int .u8 x).wf = true) : ∃ g r g' r', (∀ k, 3100 ≤ k → spec_DrawBigCmp.f k l = some (g, r, g', r')) ∧ r.length ≤ 200 ∧ r'.length ≤ 200 := by
  obtain ⟨g, r, g', r', h, h1, h2⟩ := two_any hl
  refine ⟨g, r, g', r', fun k hk => ?_, h1, h2⟩
  unfold spec_DrawBigCmp.f; rw [h k hk]; rfl
end Go.Proofs.Ytdemeoncjcbojaa.Val
end
section
namespace Go.Proofs.Ytdemeoncjcbojaa.Pure
open Go.RowKit Go.Proofs.Ytdemeoncjcbojaa.Pr Go.Proofs.Ytdemeoncjcbojaa.Ext Go.Proofs.Ytdemeoncjcbojaa.Jt Go.Proofs.Ytdemeoncjcbojaa.Val Go.Proofs.YtdemeoncjcbojaaW.PrintWords Go.Proofs.YtdemeoncjcbojaaW.PrintLast Go.Proofs.YtdemeoncjcbojaaW.PrintMore
set_option linter.unusedVariables false
set_option linter.unusedSimpArgs false
namespace BFnBigCmpThree
theorem beqd (a b : Int) : (a == b) = decide (a = b) := by by_cases h : a = b <;> simp [h]
theorem jc_eq {n n' : Bool} {a b : List Int} (h1 : okB n a = true) (h2 : okB n' b = true) : cmpR n a n' b = sgn (bigv n a - bigv n' b) := if_pos ⟨h1, h2⟩
theorem jc_no {n n' : Bool} {a b : List Int} (h : ¬ (okB n a = true ∧ okB n' b = true)) : cmpR n a n' b = 2 := if_neg h
theorem three_two {n n' m : Bool} {a b c : List Int} (o1 : okB n a = true) (o2 : okB n' b = true) (o3 : okB m c = true) (k : Nat) (hk : 7000 ≤ k) (x : Bool) (hx : x = (decide (sgn (bigv n a - bigv n' b) ≤ 0) && decide (sgn (bigv n' b - bigv m c) ≤ 0))) :
    laws_FnBigCmpThree.j2 (k + 1) (sgn (bigv n a - bigv n' b)) (sgn (bigv n' b - bigv m c)) x n a m c = some true := by
  have e := iBigCmp_ge n a m c k (by omega)
  rw [jc_eq o1 o3] at e
  rw [laws_FnBigCmpThree.j2]
  generalize bigv n a = A at *
  generalize bigv n' b = B at *
  generalize bigv m c = C at *
  have s1 : sgn (A - B) ≤ 0 ↔ A ≤ B := by unfold sgn; (repeat' split) <;> omega
  have s2 : sgn (B - C) ≤ 0 ↔ B ≤ C := by unfold sgn; (repeat' split) <;> omega
  have s3 : sgn (A - C) ≤ 0 ↔ A ≤ C := by unfold sgn; (repeat' split) <;> omega
  have z1 : sgn (A - B) = 0 ↔ A = B := by unfold sgn; (repeat' split) <;> omega
  have z2 : sgn (B - C) = 0 ↔ B = C := by unfold sgn; (repeat' split) <;> omega
  have z3 : sgn (A - C) = 0 ↔ A = C := by unfold sgn; (repeat' split) <;> omega
  have p3 : sgn (A - C) = 1 ↔ C < A := by unfold sgn; (repeat' split) <;> omega
  simp only [e, Option.bind_some]
  by_cases h1 : A ≤ B
  · by_cases h2 : B ≤ C
    · rw [if_pos (by rw [hx, decide_eq_true (s1.2 h1), decide_eq_true (s2.2 h2)]; rfl), if_pos (s3.2 (by omega))]
      by_cases h3 : A = B
      · rw [if_pos (z1.2 h3)]
        simp only [beqd]
        congr 1
        subst h3
        simp
      · rw [if_neg (fun h => h3 (z1.1 h))]
        have : ¬ sgn (A - C) = 0 := fun h => by have := z3.1 h; omega
        simp [this]
    · rw [if_neg (by rw [hx, decide_eq_false (fun h => h2 (s2.1 h)), Bool.and_false]; decide), if_pos (s1.2 h1)]
  · rw [if_neg (by rw [hx, decide_eq_false (fun h => h1 (s1.1 h)), Bool.false_and]; decide), if_neg (fun h => h1 (s1.1 h))]
    by_cases h2 : B ≤ C
    · rw [if_pos (s2.2 h2)]
    · rw [if_neg (fun h => h2 (s2.1 h)), p3.2 (by omega)]; rfl
theorem three_one {n n' m : Bool} {a b c : List Int} (k : Nat) (hk : 7100 ≤ k) (x : Bool) (hx : x = (decide (cmpR n a n' b = 2) || decide (cmpR n' b m c = 2))) :
    laws_FnBigCmpThree.j1 (k + 1) (cmpR n a n' b) (cmpR n' b m c) x n a n' b m c = some true := by
  rw [laws_FnBigCmpThree.j1]
  by_cases hb : x = true
  · rw [if_pos hb, sBigCmp_ge _ _ _ _ k (by omega), sBigCmp_ge _ _ _ _ k (by omega)]
    simp
  · rw [if_neg hb]
    rw [hx] at hb
    simp only [Bool.or_eq_true, decide_eq_true_eq, not_or] at hb
    have o : okB n a = true ∧ okB n' b = true := Decidable.byContradiction fun h => hb.1 (jc_no h)
    have o' : okB n' b = true ∧ okB m c = true := Decidable.byContradiction fun h => hb.2 (jc_no h)
    rw [jc_eq o.1 o.2, jc_eq o'.1 o'.2]
    obtain ⟨k, rfl⟩ : ∃ j, k = j + 1 := ⟨k - 1, by omega⟩
    by_cases h1 : sgn (bigv n a - bigv n' b) ≤ 0
    · rw [if_pos h1]
      exact three_two o.1 o.2 o'.2 k (by omega) _ (by rw [decide_eq_true h1, Bool.true_and])
    · rw [if_neg h1]
      exact three_two o.1 o.2 o'.2 k (by omega) _ (by rw [decide_eq_false h1, Bool.false_and])
end BFnBigCmpThree
open BFnBigCmpThree
theorem FnBigCmpThree : laws_FnBigCmpThree.Pure := by
  intro l m _ _ hl _ _ hm
  refine ⟨8001, ?_⟩
  unfold laws_FnBigCmpThree.f
  have yes : laws_FnBigCmpThree.j0 (8000 + 1) l m true = some true := by rw [laws_FnBigCmpThree.j0, if_pos rfl]
  by_cases hlen : (l.length : Int) > 1048576
  · rw [if_pos hlen]; exact yes
  · rw [if_neg hlen]
    by_cases hlen2 : (m.length : Int) > 1048576
    · rw [decide_eq_true hlen2]; exact yes
    · rw [decide_eq_false hlen2]
      show laws_FnBigCmpThree.j0 (8000 + 1) _ _ _ = _
      rw [laws_FnBigCmpThree.j0, if_neg (by decide)]
      obtain ⟨n, a, n', b, hd, ha, hb⟩ := drawCmp_any hl
      obtain ⟨q, c, q', c', hd2, hc, hc'⟩ := drawCmp_any hm
      rw [hd 8000 (by omega), hd2 8000 (by omega)]; simp only [Option.bind_some]
      rw [iBigCmp_ge _ _ _ _ 8000 (by omega), iBigCmp_ge _ _ _ _ 8000 (by omega), sBigCmp_ge _ _ _ _ 8000 (by omega)]; simp only [Option.bind_some]
      rw [if_pos trivial, sBigCmp_ge _ _ _ _ 8000 (by omega)]; simp only [Option.bind_some]
      rw [if_pos trivial]
      by_cases h2 : cmpR n a n' b = 2
      · rw [if_pos h2]
        exact three_one 7999 (by omega) _ (by rw [decide_eq_true h2]; rfl)
      · rw [if_neg h2]
        exact three_one 7999 (by omega) _ (by rw [decide_eq_false h2, Bool.false_or, beqd])
end Go.Proofs.Ytdemeoncjcbojaa.Pure
end
