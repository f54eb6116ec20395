/- What the claim's row needs of the contracts and words below it, and no more. -/
import Derived.Test.YtdemeoncjcbojaaQSub3
section
namespace Go.Proofs.Ytdemeoncjcbojaa.Pr
open Go.RowKit Go.Proofs.YtdemeoncjcbojaaW.PrintWords Go.Proofs.YtdemeoncjcbojaaW.PrintLast Go.Proofs.Ytdemeoncjcbojaa.Ext Go.Proofs.YtdemeoncjcbojaaW.PrintMore
attribute [local go_sem] max2_int min2_int max_two min_two max_three min_three max_four min_four
set_option linter.unusedVariables false
set_option linter.unusedSimpArgs false
def spec_l14TwoBigs.f (k : Nat) (l0 : List Int) : Option (Bool × List Int × Bool × List Int) := (spec_l1Open.f l0).bind fun bt718 => ((spec_l14AnyBig.f k bt718.1 bt718.2).bind fun bt721 => ((spec_l14AnyBig.f k bt718.1 bt721.2.2).bind fun bt727 => ((spec_l1Rd_pick.f k bt718.1 bt727.2.2 6).bind fun bt733 => (if bt733.1 = 0 then (if bt721.1 = true then ((some (([] : List Int) : List Int)).bind fun y735 => (if y735.length + bt721.2.1.length < 17592186044416 then (some (bt721.1, bt721.2.1, false, (y735 ++ bt721.2.1))) else (none))) else ((some (([] : List Int) : List Int)).bind fun y741 => (if y741.length + bt721.2.1.length < 17592186044416 then (some (bt721.1, bt721.2.1, decide (0 < bt721.2.1.length), (y741 ++ bt721.2.1))) else (none)))) else (some (bt721.1, bt721.2.1, bt727.1, bt727.2.1))))))
def spec_l14TwoBigs.T5 : Bool × List (List Nat × List Nat) := (true, [([], []), ([0], [0]), ([1], [1]), ([2], [2]), ([3], [3]), ([4, 3], [3, 4]), ([5, 3], [3, 5]), ([6, 3], [3, 6]), ([3, 7], [3, 7]), ([], []), ([], []), ([10], [10]), ([9, 11, 3], [9, 11]), ([8, 12], [8, 12]), ([13, 12, 0, 1, 2, 3, 4, 5, 6, 7, 8, 9, 10, 11, 12, 13], [13])])
def spec_l14TwoBigs.B5 : List Nat := [0, 1, 3, 7, 15, 31, 63, 127, 255, 0, 0, 1024, 3599, 8191, 16383]
theorem spec_l14TwoBigs.tab5 : rtab .any (opsOf Try.f75 5) = spec_l14TwoBigs.T5 := by kernel_rfl
theorem spec_l14TwoBigs.bits5 : waitsOk spec_l14TwoBigs.T5.2 spec_l14TwoBigs.B5 = true := by kernel_rfl
set_option maxHeartbeats 8000000 in
set_option maxRecDepth 100000 in
theorem spec_l14TwoBigs.calls (k : Nat) (A0 : Option Addr) (c0 : Nat) (l0 : List Int) (r1 : Bool) (r2 : List Int) (r3 : Bool) (r4 : List Int) (w : World) (hr0 : Kd.C (Kd.int .u8) w A0 l0.length l0) (hc0 : l0.length ≤ c0) (h : spec_l14TwoBigs.f k l0 = some (r1, r2, r3, r4)) :
    Calls Try.prog 75 #[.slice A0 l0.length c0] w fun e w' => ∃ v1_ v3_ : Value, e = .returned (.tuple #[.agg #[.bool r1, v1_], .agg #[.bool r3, v3_]]) ∧ Kd.R (Kd.int .i64) 3 w' w.heap.size (fun k_ => some k_ ≠ (v3_ : Value).ownBlock) v1_ r2 ∧ Kd.R (Kd.int .i64) 3 w' w.heap.size (fun k_ => some k_ ≠ (v1_ : Value).ownBlock) v3_ r4 ∧ Below w.heap.size w w' := by
  have hu27 := Try.underlying27
  have HR0 := Aside0.mk hr0
  have HC0 := Aside0.mk hc0
  clear hr0 hc0
  have HB := Aside0.mk (Below.refl w.heap.size w)
  have H : ((spec_l1Open.f l0).bind fun bt718 => ((spec_l14AnyBig.f k bt718.1 bt718.2).bind fun bt721 => ((spec_l14AnyBig.f k bt718.1 bt721.2.2).bind fun bt727 => ((spec_l1Rd_pick.f k bt718.1 bt727.2.2 6).bind fun bt733 => (if bt733.1 = 0 then (if bt721.1 = true then ((some (([] : List Int) : List Int)).bind fun y735 => (if y735.length + bt721.2.1.length < 17592186044416 then (some (bt721.1, bt721.2.1, false, (y735 ++ bt721.2.1))) else (none))) else ((some (([] : List Int) : List Int)).bind fun y741 => (if y741.length + bt721.2.1.length < 17592186044416 then (some (bt721.1, bt721.2.1, decide (0 < bt721.2.1.length), (y741 ++ bt721.2.1))) else (none)))) else (some (bt721.1, bt721.2.1, bt727.1, bt727.2.1))))))) = some (r1, r2, r3, r4) := h
  clear h
  replace H := Option.bind_eq_some_iff.mp H
  obtain ⟨⟨t718, t719⟩, A20, H⟩ := H
  replace H : ((spec_l14AnyBig.f k t718 t719).bind fun bt721 => ((spec_l14AnyBig.f k t718 bt721.2.2).bind fun bt727 => ((spec_l1Rd_pick.f k t718 bt727.2.2 6).bind fun bt733 => (if bt733.1 = 0 then (if bt721.1 = true then ((some (([] : List Int) : List Int)).bind fun y735 => (if y735.length + bt721.2.1.length < 17592186044416 then (some (bt721.1, bt721.2.1, false, (y735 ++ bt721.2.1))) else (none))) else ((some (([] : List Int) : List Int)).bind fun y741 => (if y741.length + bt721.2.1.length < 17592186044416 then (some (bt721.1, bt721.2.1, decide (0 < bt721.2.1.length), (y741 ++ bt721.2.1))) else (none)))) else (some (bt721.1, bt721.2.1, bt727.1, bt727.2.1)))))) = some (r1, r2, r3, r4) := H
  have A2 := Aside0.mk A20
  clear A20
  replace H := Option.bind_eq_some_iff.mp H
  obtain ⟨⟨t721, t722, t725⟩, A30, H⟩ := H
  replace H : ((spec_l14AnyBig.f k t718 t725).bind fun bt727 => ((spec_l1Rd_pick.f k t718 bt727.2.2 6).bind fun bt733 => (if bt733.1 = 0 then (if t721 = true then ((some (([] : List Int) : List Int)).bind fun y735 => (if y735.length + t722.length < 17592186044416 then (some (t721, t722, false, (y735 ++ t722))) else (none))) else ((some (([] : List Int) : List Int)).bind fun y741 => (if y741.length + t722.length < 17592186044416 then (some (t721, t722, decide (0 < t722.length), (y741 ++ t722))) else (none)))) else (some (t721, t722, bt727.1, bt727.2.1))))) = some (r1, r2, r3, r4) := H
  have A3 := Aside0.mk A30
  clear A30
  replace H := Option.bind_eq_some_iff.mp H
  obtain ⟨⟨t727, t728, t731⟩, A40, H⟩ := H
  replace H : ((spec_l1Rd_pick.f k t718 t731 6).bind fun bt733 => (if bt733.1 = 0 then (if t721 = true then ((some (([] : List Int) : List Int)).bind fun y735 => (if y735.length + t722.length < 17592186044416 then (some (t721, t722, false, (y735 ++ t722))) else (none))) else ((some (([] : List Int) : List Int)).bind fun y741 => (if y741.length + t722.length < 17592186044416 then (some (t721, t722, decide (0 < t722.length), (y741 ++ t722))) else (none)))) else (some (t721, t722, t727, t728)))) = some (r1, r2, r3, r4) := H
  have A4 := Aside0.mk A40
  clear A40
  replace H := Option.bind_eq_some_iff.mp H
  obtain ⟨⟨t733, t734⟩, A50, H⟩ := H
  replace H : (if t733 = 0 then (if t721 = true then ((some (([] : List Int) : List Int)).bind fun y735 => (if y735.length + t722.length < 17592186044416 then (some (t721, t722, false, (y735 ++ t722))) else (none))) else ((some (([] : List Int) : List Int)).bind fun y741 => (if y741.length + t722.length < 17592186044416 then (some (t721, t722, decide (0 < t722.length), (y741 ++ t722))) else (none)))) else (some (t721, t722, t727, t728))) = some (r1, r2, r3, r4) := H
  have A5 := Aside0.mk A50
  clear A50
  by_cases c6 : t733 = 0
  · rw [if_pos c6] at H
    have c6b0 : (t733 == 0) = true := beq_iff_eq.mpr c6
    have c6b1 : (t733 != 0) = false := bne_eq_false_iff_eq.mpr c6
    clear c6
    by_cases c7 : t721 = true
    · subst c7
      have H1 : ((some (([] : List Int) : List Int)).bind fun y735 => (if y735.length + t722.length < 17592186044416 then (some (true, t722, false, (y735 ++ t722))) else (none))) = some (r1, r2, r3, r4) := by rw [if_pos rfl] at H; exact H
      clear H
      have H := H1
      clear H1
      obtain ⟨y735, hy735⟩ : ∃ y_ : List Int, y_ = (([] : List Int)) := ⟨_, rfl⟩
      replace H : (if y735.length + t722.length < 17592186044416 then (some (true, t722, false, (y735 ++ t722))) else (none)) = some (r1, r2, r3, r4) := by first | (rw [hy735]; with_reducible exact H) | (have H2_ := (Option.bind_some _ _).symm.trans H; rw [hy735]; with_reducible exact H2_) | (have H2_ := (Option.bind_some _ _).symm.trans H; with_reducible exact H2_) | with_reducible exact H | (rw [hy735]; exact H) | exact H
      have Ny735 := Aside0.mk hy735
      clear hy735
      by_cases c8 : y735.length + t722.length < 17592186044416
      · rw [if_pos c8] at H
        have LMc8 := Aside0.mk c8
        clear c8
        obtain ⟨y738, hy738⟩ : ∃ y_ : List Int, y_ = (y735 ++ t722) := ⟨_, rfl⟩
        replace H : (some (true, t722, false, y738)) = some (r1, r2, r3, r4) := by first | (rw [hy738]; with_reducible exact H) | (have H2_ := (Option.bind_some _ _).symm.trans H; rw [hy738]; with_reducible exact H2_) | (have H2_ := (Option.bind_some _ _).symm.trans H; with_reducible exact H2_) | with_reducible exact H | (rw [hy738]; exact H) | exact H
        have Ny738 := Aside0.mk hy738
        clear hy738
        simp only [Option.some.injEq, Prod.mk.injEq] at H
        obtain ⟨rfl, rfl, rfl, rfl⟩ := H
        go_enter Try.func75, Try.ntmps75
        try go_wp2_with (first | ((with_reducible refine gate_dst (N := 2) rfl ?_); (try (refine gate_guard (by rfl) ?_; dsimp only)); refine box_event ?hg (N := 2) ?hd (cs := #[.bool false, .slice none 0 0]) (t := 27) ?hr ?_; (case hd => rfl); (case hg => rfl); (case hr => first | (go_simp; done) | (go_simp; rfl)); intro gb716 hg w9 hbox hb; have n0_ := Aside0.mk (below_step zb hb); have n1_ := Aside0.mk (hbox); have n2_ := Aside0.mk ((by rw [hg]; exact (below_size zb) : w.heap.size ≤ gb716)); have n3_ := Aside0.mk ((by rw [hg]; exact (below_size zb) : w.heap.size ≤ gb716)); clear HB; have HB := n0_; have BK716 := n1_; have GW716 := n2_; have GE716 := n3_; clear n0_ n1_ n2_ n3_; clear hb hbox hg) | ((with_reducible refine gate_dst (N := 3) rfl ?_); (try (refine gate_guard (by rfl) ?_; dsimp only)); refine box_event ?hg (N := 3) ?hd (cs := #[.bool false, .slice none 0 0]) (t := 27) ?hr ?_; (case hd => rfl); (case hg => rfl); (case hr => first | (go_simp; done) | (go_simp; rfl)); intro gb717 hg w10 hbox hb; have n0_ := Aside0.mk (blk_below (g := gb716) (o := .cells #[.bool false, .slice none 0 0] 27 (0, 0)) (zk BK716.out) hb); have n1_ := Aside0.mk (below_step zb hb); have n2_ := Aside0.mk (hbox); have n3_ := Aside0.mk ((by rw [hg]; exact (below_size zb) : w.heap.size ≤ gb717)); have n4_ := Aside0.mk ((by rw [hg]; exact (below_size zb) : w.heap.size ≤ gb717)); have n5_ := Aside0.mk ((by rw [hg]; exact Nat.ne_of_lt (blk_lt (g := gb716) (o := .cells #[.bool false, .slice none 0 0] 27 (0, 0)) (zk BK716.out)) : gb716 ≠ gb717)); have n6_ := Aside0.mk ((by rw [hg]; exact Nat.ne_of_gt (blk_lt (g := gb716) (o := .cells #[.bool false, .slice none 0 0] 27 (0, 0)) (zk BK716.out)) : gb717 ≠ gb716)); clear BK716; clear HB; have BK716 := n0_; have HB := n1_; have BK717 := n2_; have GW717 := n3_; have GE717 := n4_; have NB716_717 := n5_; have NB717_716 := n6_; clear n0_ n1_ n2_ n3_ n4_ n5_ n6_; clear hb hbox hg) | ((with_reducible refine gate_callee (f := 63) rfl ?_); refine goesL_ (some 8) rfl rfl Try.func63 (by kernel_rfl) rfl #[.slice A0 l0.length c0] rfl za ?_; (with_reducible refine (spec_l1Open.calls _ _ l0 t718 t719 w _ ?side1 ?side2 ?side3 A2.out).mono ?_); (case side1 => repeat (first | (with_reducible first | exact HB.out | apply below_alloc | apply pw_below_drewN | apply below_drew1 | refine below_set ?_ GE716.out | refine below_set ?_ GE717.out) | exact HB.out)); (case side2 => exact HR0.out); (case side3 => exact HC0.out); rintro e w11 ⟨g720, rfl, hi, hb, hb2⟩; refine ⟨_, rfl, ?_⟩; have n0_ := Aside0.mk (blk_below (g := gb716) (o := .cells #[.bool false, .slice none 0 0] 27 (0, 0)) (zk BK716.out) hb2); have n1_ := Aside0.mk (blk_below (g := gb717) (o := .cells #[.bool false, .slice none 0 0] 27 (0, 0)) (zk BK717.out) hb2); have n2_ := Aside0.mk (hb); have n3_ := Aside0.mk (hi); have n4_ := Aside0.mk (IsS81.ne_blk hi (blk_below (g := gb716) (o := .cells #[.bool false, .slice none 0 0] 27 (0, 0)) (zk BK716.out) hb2) (by decide)); have n5_ := Aside0.mk (Ne.symm (IsS81.ne_blk hi (blk_below (g := gb716) (o := .cells #[.bool false, .slice none 0 0] 27 (0, 0)) (zk BK716.out) hb2) (by decide))); have n6_ := Aside0.mk (IsS81.ne_blk hi (blk_below (g := gb717) (o := .cells #[.bool false, .slice none 0 0] 27 (0, 0)) (zk BK717.out) hb2) (by decide)); have n7_ := Aside0.mk (Ne.symm (IsS81.ne_blk hi (blk_below (g := gb717) (o := .cells #[.bool false, .slice none 0 0] 27 (0, 0)) (zk BK717.out) hb2) (by decide))); clear BK716; clear BK717; clear HB; have BK716 := n0_; have BK717 := n1_; have HB := n2_; have HI720 := n3_; have NB720_716 := n4_; have NB716_720 := n5_; have NB720_717 := n6_; have NB717_720 := n7_; clear n0_ n1_ n2_ n3_ n4_ n5_ n6_ n7_; (try clear hb); (try clear hb2); (try clear hk); (try clear hi)) | ((with_reducible refine gate_callee (f := 80) rfl ?_); refine goesL_ (some 10) rfl rfl Try.func80 (by kernel_rfl) rfl #[.pointer (some ⟨g720, 0, none⟩)] rfl za ?_; (with_reducible refine (spec_l14AnyBig.calls k g720 t718 t719 true t722 t725 w _ ?side1 ?side2 A3.out).mono ?_); (case side1 => repeat (first | (with_reducible first | exact HI720.out | apply IsS81.alloc | apply IsS81.drewN | apply IsS81.drew | apply IsS81.set_1 | refine IsS81.far ?_ NB720_716.out _ | refine IsS81.far ?_ NB720_717.out _) | exact HI720.out)); (case side2 => repeat (first | (with_reducible first | exact HB.out | apply below_alloc | apply pw_below_drewN | apply below_drew1 | refine below_set ?_ (IsS81.ge HI720.out) | refine below_set ?_ GE716.out | refine below_set ?_ GE717.out) | exact HB.out)); rintro e w12 ⟨v723, rfl, ho0, hi, hb, hk⟩; refine ⟨_, rfl, ?_⟩; have n0_ := Aside0.mk (KeepBut.blk hk (g' := gb716) (o := .cells #[.bool false, .slice none 0 0] 27 (0, 0)) (zk BK716.out) NB716_720.out (by simp)); have n1_ := Aside0.mk (KeepBut.blk hk (g' := gb717) (o := .cells #[.bool false, .slice none 0 0] 27 (0, 0)) (zk BK717.out) NB717_720.out (by simp)); have n2_ := Aside0.mk (Kd.R_lower ho0 (below_size (by repeat (first | (with_reducible first | exact HB.out | apply below_alloc | apply pw_below_drewN | apply below_drew1 | refine below_set ?_ (IsS81.ge HI720.out) | refine below_set ?_ GE716.out | refine below_set ?_ GE717.out) | exact HB.out)))); have n3_ := Aside0.mk (hb); have n4_ := Aside0.mk (hi); clear BK716; clear BK717; clear HB; clear HI720; have BK716 := n0_; have BK717 := n1_; have HO724 := n2_; have HB := n3_; have HI720 := n4_; clear n0_ n1_ n2_ n3_ n4_; (try clear hb); (try clear hb2); (try clear hk); (try clear hi); (try clear ho0)) | ((with_reducible refine gate_dst (N := 5) rfl ?_); (try (refine gate_guard (by rfl) ?_; dsimp only)); refine box_event ?hg (N := 5) ?hd (cs := #[.bool false, .slice none 0 0]) (t := 27) ?hr ?_; (case hd => rfl); (case hg => rfl); (case hr => first | (go_simp; done) | (go_simp; rfl)); intro gb726 hg w13 hbox hb; have n0_ := Aside0.mk (Kd.R_below (zR HO724.out) hb); have n1_ := Aside0.mk (blk_below (g := gb716) (o := .cells #[.bool false, .slice none 0 0] 27 (0, 0)) (zk BK716.out) hb); have n2_ := Aside0.mk (blk_below (g := gb717) (o := .cells #[.bool false, .slice none 0 0] 27 (0, 0)) (zk BK717.out) hb); have n3_ := Aside0.mk (IsS81.below (by repeat (first | (with_reducible first | exact HI720.out | apply IsS81.alloc | apply IsS81.drewN | apply IsS81.drew | apply IsS81.set_1 | refine IsS81.far ?_ NB720_716.out _ | refine IsS81.far ?_ NB720_717.out _) | exact HI720.out)) hb); have n4_ := Aside0.mk (below_step (by repeat (first | (with_reducible first | exact HB.out | apply below_alloc | apply pw_below_drewN | apply below_drew1 | refine below_set ?_ (IsS81.ge HI720.out) | refine below_set ?_ GE716.out | refine below_set ?_ GE717.out) | exact HB.out)) hb); have n5_ := Aside0.mk (hbox); have n6_ := Aside0.mk ((by rw [hg]; exact (below_size (by repeat (first | (with_reducible first | exact HB.out | apply below_alloc | apply pw_below_drewN | apply below_drew1 | refine below_set ?_ (IsS81.ge HI720.out) | refine below_set ?_ GE716.out | refine below_set ?_ GE717.out) | exact HB.out))) : w.heap.size ≤ gb726)); have n7_ := Aside0.mk ((by rw [hg]; exact (below_size (by repeat (first | (with_reducible first | exact HB.out | apply below_alloc | apply pw_below_drewN | apply below_drew1 | refine below_set ?_ (IsS81.ge HI720.out) | refine below_set ?_ GE716.out | refine below_set ?_ GE717.out) | exact HB.out))) : w.heap.size ≤ gb726)); have n8_ := Aside0.mk ((by rw [hg]; exact Nat.ne_of_lt (blk_lt (g := gb716) (o := .cells #[.bool false, .slice none 0 0] 27 (0, 0)) (zk BK716.out)) : gb716 ≠ gb726)); have n9_ := Aside0.mk ((by rw [hg]; exact Nat.ne_of_gt (blk_lt (g := gb716) (o := .cells #[.bool false, .slice none 0 0] 27 (0, 0)) (zk BK716.out)) : gb726 ≠ gb716)); have n10_ := Aside0.mk ((by rw [hg]; exact Nat.ne_of_lt (blk_lt (g := gb717) (o := .cells #[.bool false, .slice none 0 0] 27 (0, 0)) (zk BK717.out)) : gb717 ≠ gb726)); have n11_ := Aside0.mk ((by rw [hg]; exact Nat.ne_of_gt (blk_lt (g := gb717) (o := .cells #[.bool false, .slice none 0 0] 27 (0, 0)) (zk BK717.out)) : gb726 ≠ gb717)); have n12_ := Aside0.mk ((by rw [hg]; exact Nat.ne_of_lt (IsS81.lt (show IsS81 w _ g720 t718 t725 from by repeat (first | (with_reducible first | exact HI720.out | apply IsS81.alloc | apply IsS81.drewN | apply IsS81.drew | apply IsS81.set_1 | refine IsS81.far ?_ NB720_716.out _ | refine IsS81.far ?_ NB720_717.out _) | exact HI720.out))) : g720 ≠ gb726)); have n13_ := Aside0.mk ((by rw [hg]; exact Nat.ne_of_gt (IsS81.lt (show IsS81 w _ g720 t718 t725 from by repeat (first | (with_reducible first | exact HI720.out | apply IsS81.alloc | apply IsS81.drewN | apply IsS81.drew | apply IsS81.set_1 | refine IsS81.far ?_ NB720_716.out _ | refine IsS81.far ?_ NB720_717.out _) | exact HI720.out))) : gb726 ≠ g720)); clear HO724; clear BK716; clear BK717; clear HI720; clear HB; have HO724 := n0_; have BK716 := n1_; have BK717 := n2_; have HI720 := n3_; have HB := n4_; have BK726 := n5_; have GW726 := n6_; have GE726 := n7_; have NB716_726 := n8_; have NB726_716 := n9_; have NB717_726 := n10_; have NB726_717 := n11_; have NB720_726 := n12_; have NB726_720 := n13_; clear n0_ n1_ n2_ n3_ n4_ n5_ n6_ n7_ n8_ n9_ n10_ n11_ n12_ n13_; clear hb hbox hg; have hnb14 := NB726_716.out; have hnc14 := NB716_726.out; have hnb15 := NB726_717.out; have hnc15 := NB717_726.out; have hnb16 := NB726_720.out; have hnc16 := NB720_726.out; have hcz17_0 : w13.cell? ⟨gb726, 0, none⟩ = some (.bool false) := (blk_cell BK726.out 0).trans rfl; have hcz17_1 : w13.cell? ⟨gb726, 1, none⟩ = some (.slice none 0 0) := (blk_cell BK726.out 1).trans rfl; have hfz17_0 := blk_frozen BK726.out 0; have hfz17_1 := blk_frozen BK726.out 1; obtain ⟨Ao18, co18, eo18⟩ := Kd.R_slice HO724.out; subst eo18) | ((with_reducible refine gate_callee (f := 80) rfl ?_); refine goesL_ (some 12) rfl rfl Try.func80 (by kernel_rfl) rfl #[.pointer (some ⟨g720, 0, none⟩)] rfl za ?_; (with_reducible refine (spec_l14AnyBig.calls k g720 t718 t725 t727 t728 t731 w _ ?side1 ?side2 A4.out).mono ?_); (case side1 => repeat (first | (with_reducible first | exact HI720.out | apply IsS81.alloc | apply IsS81.drewN | apply IsS81.drew | apply IsS81.set_1 | refine IsS81.far ?_ NB720_716.out _ | refine IsS81.far ?_ NB720_717.out _ | refine IsS81.far ?_ NB720_726.out _) | exact HI720.out)); (case side2 => repeat (first | (with_reducible first | exact HB.out | apply below_alloc | apply pw_below_drewN | apply below_drew1 | refine below_set ?_ (IsS81.ge HI720.out) | refine below_set ?_ GE716.out | refine below_set ?_ GE717.out | refine below_set ?_ GE726.out) | exact HB.out)); rintro e w19 ⟨v729, rfl, ho0, hi, hb, hk⟩; refine ⟨_, rfl, ?_⟩; have n0_ := Aside0.mk (KeepBut.blk hk (g' := gb716) (o := .cells #[.bool false, .slice none 0 0] 27 (0, 0)) (zk BK716.out) NB716_720.out (by simp)); have n1_ := Aside0.mk (KeepBut.blk hk (g' := gb717) (o := .cells #[.bool false, .slice none 0 0] 27 (0, 0)) (zk BK717.out) NB717_720.out (by simp)); have n2_ := Aside0.mk (Kd.R_mono (Kd.R_told (Kd.R_oldK (IsS81.apart (show IsS81 w _ g720 t718 t725 from by repeat (first | (with_reducible first | exact HI720.out | apply IsS81.alloc | apply IsS81.drewN | apply IsS81.drew | apply IsS81.set_1 | refine IsS81.far ?_ NB720_716.out _ | refine IsS81.far ?_ NB720_717.out _ | refine IsS81.far ?_ NB720_726.out _) | exact HI720.out)) (by (with_reducible repeat (first | apply Kd.R_alloc | apply Kd.R_drewN | apply Kd.R_drew)); exact (Kd.R_mono (Kd.R_far (p := ⟨gb726, 1, none⟩) (Kd.R_far (p := ⟨gb726, 0, none⟩) (Kd.R_types HO724.out BK726.out (by decide)) (fun _ hk => hk.2) (.bool true)) (fun _ hk => hk.2) (.slice Ao18 t722.length co18)) (fun _ h_ => h_.1))) (by decide)) hk) (Kd.R_base ho0)) (fun _ h_ => h_.1)); have n3_ := Aside0.mk (KeepBut.blk hk (g' := gb726) (o := .cells #[.bool true, .slice Ao18 t722.length co18] 27 (0, 0)) (by (with_reducible repeat (first | refine blk_drewN ?_ _ | refine blk_drew ?_ | refine blk_alloc ?_ _)); refine blk_put (cs := #[.bool true, .slice none 0 0]) ?_ 1 _ rfl; (with_reducible repeat (first | refine blk_drewN ?_ _ | refine blk_drew ?_ | refine blk_alloc ?_ _)); refine blk_put (cs := #[.bool false, .slice none 0 0]) ?_ 0 _ rfl; (with_reducible repeat (first | refine blk_drewN ?_ _ | refine blk_drew ?_ | refine blk_alloc ?_ _)); exact BK726.out) NB726_720.out (by simp)); have n4_ := Aside0.mk (Kd.R_lower (Kd.R_new' ho0 (Kd.R_lt (by (with_reducible repeat (first | apply Kd.R_alloc | apply Kd.R_drewN | apply Kd.R_drew)); exact (Kd.R_mono (Kd.R_far (p := ⟨gb726, 1, none⟩) (Kd.R_far (p := ⟨gb726, 0, none⟩) (Kd.R_types HO724.out BK726.out (by decide)) (fun _ hk => hk.2) (.bool true)) (fun _ hk => hk.2) (.slice Ao18 t722.length co18)) (fun _ h_ => h_.1))))) (below_size (by repeat (first | (with_reducible first | exact HB.out | apply below_alloc | apply pw_below_drewN | apply below_drew1 | refine below_set ?_ (IsS81.ge HI720.out) | refine below_set ?_ GE716.out | refine below_set ?_ GE717.out | refine below_set ?_ GE726.out) | exact HB.out)))); have n5_ := Aside0.mk (hb); have n6_ := Aside0.mk (hi); clear BK716; clear BK717; clear HO724; clear BK726; clear HB; clear HI720; have BK716 := n0_; have BK717 := n1_; have HO724 := n2_; have BK726 := n3_; have HO730 := n4_; have HB := n5_; have HI720 := n6_; clear n0_ n1_ n2_ n3_ n4_ n5_ n6_; (try clear hb); (try clear hb2); (try clear hk); (try clear hi); (try clear ho0)) | ((with_reducible refine gate_dst (N := 6) rfl ?_); (try (refine gate_guard (by rfl) ?_; dsimp only)); refine box_event ?hg (N := 6) ?hd (cs := #[.bool false, .slice none 0 0]) (t := 27) ?hr ?_; (case hd => rfl); (case hg => rfl); (case hr => first | (go_simp; done) | (go_simp; rfl)); intro gb732 hg w20 hbox hb; have n0_ := Aside0.mk (Kd.R_below (zR HO724.out) hb); have n1_ := Aside0.mk (Kd.R_below (zR HO730.out) hb); have n2_ := Aside0.mk (blk_below (g := gb716) (o := .cells #[.bool false, .slice none 0 0] 27 (0, 0)) (zk BK716.out) hb); have n3_ := Aside0.mk (blk_below (g := gb717) (o := .cells #[.bool false, .slice none 0 0] 27 (0, 0)) (zk BK717.out) hb); have n4_ := Aside0.mk (IsS81.below (by repeat (first | (with_reducible first | exact HI720.out | apply IsS81.alloc | apply IsS81.drewN | apply IsS81.drew | apply IsS81.set_1 | refine IsS81.far ?_ NB720_716.out _ | refine IsS81.far ?_ NB720_717.out _ | refine IsS81.far ?_ NB720_726.out _) | exact HI720.out)) hb); have n5_ := Aside0.mk (blk_below (g := gb726) (o := .cells #[.bool true, .slice Ao18 t722.length co18] 27 (0, 0)) (zk BK726.out) hb); have n6_ := Aside0.mk (below_step (by repeat (first | (with_reducible first | exact HB.out | apply below_alloc | apply pw_below_drewN | apply below_drew1 | refine below_set ?_ (IsS81.ge HI720.out) | refine below_set ?_ GE716.out | refine below_set ?_ GE717.out | refine below_set ?_ GE726.out) | exact HB.out)) hb); have n7_ := Aside0.mk (hbox); have n8_ := Aside0.mk ((by rw [hg]; exact (below_size (by repeat (first | (with_reducible first | exact HB.out | apply below_alloc | apply pw_below_drewN | apply below_drew1 | refine below_set ?_ (IsS81.ge HI720.out) | refine below_set ?_ GE716.out | refine below_set ?_ GE717.out | refine below_set ?_ GE726.out) | exact HB.out))) : w.heap.size ≤ gb732)); have n9_ := Aside0.mk ((by rw [hg]; exact (below_size (by repeat (first | (with_reducible first | exact HB.out | apply below_alloc | apply pw_below_drewN | apply below_drew1 | refine below_set ?_ (IsS81.ge HI720.out) | refine below_set ?_ GE716.out | refine below_set ?_ GE717.out | refine below_set ?_ GE726.out) | exact HB.out))) : w.heap.size ≤ gb732)); have n10_ := Aside0.mk ((by rw [hg]; exact Nat.ne_of_lt (blk_lt (g := gb716) (o := .cells #[.bool false, .slice none 0 0] 27 (0, 0)) (zk BK716.out)) : gb716 ≠ gb732)); have n11_ := Aside0.mk ((by rw [hg]; exact Nat.ne_of_gt (blk_lt (g := gb716) (o := .cells #[.bool false, .slice none 0 0] 27 (0, 0)) (zk BK716.out)) : gb732 ≠ gb716)); have n12_ := Aside0.mk ((by rw [hg]; exact Nat.ne_of_lt (blk_lt (g := gb717) (o := .cells #[.bool false, .slice none 0 0] 27 (0, 0)) (zk BK717.out)) : gb717 ≠ gb732)); have n13_ := Aside0.mk ((by rw [hg]; exact Nat.ne_of_gt (blk_lt (g := gb717) (o := .cells #[.bool false, .slice none 0 0] 27 (0, 0)) (zk BK717.out)) : gb732 ≠ gb717)); have n14_ := Aside0.mk ((by rw [hg]; exact Nat.ne_of_lt (blk_lt (g := gb726) (o := .cells #[.bool true, .slice Ao18 t722.length co18] 27 (0, 0)) (zk BK726.out)) : gb726 ≠ gb732)); have n15_ := Aside0.mk ((by rw [hg]; exact Nat.ne_of_gt (blk_lt (g := gb726) (o := .cells #[.bool true, .slice Ao18 t722.length co18] 27 (0, 0)) (zk BK726.out)) : gb732 ≠ gb726)); have n16_ := Aside0.mk ((by rw [hg]; exact Nat.ne_of_lt (IsS81.lt (show IsS81 w _ g720 t718 t731 from by repeat (first | (with_reducible first | exact HI720.out | apply IsS81.alloc | apply IsS81.drewN | apply IsS81.drew | apply IsS81.set_1 | refine IsS81.far ?_ NB720_716.out _ | refine IsS81.far ?_ NB720_717.out _ | refine IsS81.far ?_ NB720_726.out _) | exact HI720.out))) : g720 ≠ gb732)); have n17_ := Aside0.mk ((by rw [hg]; exact Nat.ne_of_gt (IsS81.lt (show IsS81 w _ g720 t718 t731 from by repeat (first | (with_reducible first | exact HI720.out | apply IsS81.alloc | apply IsS81.drewN | apply IsS81.drew | apply IsS81.set_1 | refine IsS81.far ?_ NB720_716.out _ | refine IsS81.far ?_ NB720_717.out _ | refine IsS81.far ?_ NB720_726.out _) | exact HI720.out))) : gb732 ≠ g720)); clear HO724; clear HO730; clear BK716; clear BK717; clear HI720; clear BK726; clear HB; have HO724 := n0_; have HO730 := n1_; have BK716 := n2_; have BK717 := n3_; have HI720 := n4_; have BK726 := n5_; have HB := n6_; have BK732 := n7_; have GW732 := n8_; have GE732 := n9_; have NB716_732 := n10_; have NB732_716 := n11_; have NB717_732 := n12_; have NB732_717 := n13_; have NB726_732 := n14_; have NB732_726 := n15_; have NB720_732 := n16_; have NB732_720 := n17_; clear n0_ n1_ n2_ n3_ n4_ n5_ n6_ n7_ n8_ n9_ n10_ n11_ n12_ n13_ n14_ n15_ n16_ n17_; clear hb hbox hg; have hnb21 := NB732_716.out; have hnc21 := NB716_732.out; have hnb22 := NB732_717.out; have hnc22 := NB717_732.out; have hnb23 := NB732_726.out; have hnc23 := NB726_732.out; have hnb24 := NB732_720.out; have hnc24 := NB720_732.out; have hcz25_0 : w20.cell? ⟨gb732, 0, none⟩ = some (.bool false) := (blk_cell BK732.out 0).trans rfl; have hcz25_1 : w20.cell? ⟨gb732, 1, none⟩ = some (.slice none 0 0) := (blk_cell BK732.out 1).trans rfl; have hfz25_0 := blk_frozen BK732.out 0; have hfz25_1 := blk_frozen BK732.out 1; obtain ⟨Ao26, co26, eo26⟩ := Kd.R_slice HO730.out; subst eo26) | ((with_reducible refine gate_callee (f := 64) rfl ?_); refine goesL_ (some 14) rfl rfl Try.func64 (by kernel_rfl) rfl #[.pointer (some ⟨g720, 0, none⟩), .int .i64 6] rfl za ?_; (with_reducible refine (spec_l1Rd_pick.calls k g720 t718 t731 6 t733 t734 w _ ?side1 ?side2 A5.out).mono ?_); (case side1 => repeat (first | (with_reducible first | exact HI720.out | apply IsS81.alloc | apply IsS81.drewN | apply IsS81.drew | apply IsS81.set_1 | refine IsS81.far ?_ NB720_716.out _ | refine IsS81.far ?_ NB720_717.out _ | refine IsS81.far ?_ NB720_726.out _ | refine IsS81.far ?_ NB720_732.out _) | exact HI720.out)); (case side2 => repeat (first | (with_reducible first | exact HB.out | apply below_alloc | apply pw_below_drewN | apply below_drew1 | refine below_set ?_ (IsS81.ge HI720.out) | refine below_set ?_ GE716.out | refine below_set ?_ GE717.out | refine below_set ?_ GE726.out | refine below_set ?_ GE732.out) | exact HB.out)); rintro e w27 ⟨rfl, hi, hb, hk⟩; refine ⟨_, rfl, ?_⟩; have n0_ := Aside0.mk (KeepBut.blk hk (g' := gb716) (o := .cells #[.bool false, .slice none 0 0] 27 (0, 0)) (zk BK716.out) NB716_720.out (by simp)); have n1_ := Aside0.mk (KeepBut.blk hk (g' := gb717) (o := .cells #[.bool false, .slice none 0 0] 27 (0, 0)) (zk BK717.out) NB717_720.out (by simp)); have n2_ := Aside0.mk (Kd.R_mono (Kd.R_keep (IsS81.apart (show IsS81 w _ g720 t718 t731 from by repeat (first | (with_reducible first | exact HI720.out | apply IsS81.alloc | apply IsS81.drewN | apply IsS81.drew | apply IsS81.set_1 | refine IsS81.far ?_ NB720_716.out _ | refine IsS81.far ?_ NB720_717.out _ | refine IsS81.far ?_ NB720_726.out _ | refine IsS81.far ?_ NB720_732.out _) | exact HI720.out)) (by (with_reducible repeat (first | apply Kd.R_alloc | apply Kd.R_drewN | apply Kd.R_drew)); exact (Kd.R_mono (Kd.R_far (p := ⟨gb732, 1, none⟩) (Kd.R_far (p := ⟨gb732, 0, none⟩) (Kd.R_types HO724.out BK732.out (by decide)) (fun _ hk => hk.2) (.bool t727)) (fun _ hk => hk.2) (.slice Ao26 t728.length co26)) (fun _ h_ => h_.1))) (by decide)) hk (fun _ h => h.2)) (fun _ h => h.1)); have n3_ := Aside0.mk (KeepBut.blk hk (g' := gb726) (o := .cells #[.bool true, .slice Ao18 t722.length co18] 27 (0, 0)) (zk BK726.out) NB726_720.out (by simp)); have n4_ := Aside0.mk (Kd.R_mono (Kd.R_keep (IsS81.apart (show IsS81 w _ g720 t718 t731 from by repeat (first | (with_reducible first | exact HI720.out | apply IsS81.alloc | apply IsS81.drewN | apply IsS81.drew | apply IsS81.set_1 | refine IsS81.far ?_ NB720_716.out _ | refine IsS81.far ?_ NB720_717.out _ | refine IsS81.far ?_ NB720_726.out _ | refine IsS81.far ?_ NB720_732.out _) | exact HI720.out)) (by (with_reducible repeat (first | apply Kd.R_alloc | apply Kd.R_drewN | apply Kd.R_drew)); exact (Kd.R_mono (Kd.R_far (p := ⟨gb732, 1, none⟩) (Kd.R_far (p := ⟨gb732, 0, none⟩) (Kd.R_types HO730.out BK732.out (by decide)) (fun _ hk => hk.2) (.bool t727)) (fun _ hk => hk.2) (.slice Ao26 t728.length co26)) (fun _ h_ => h_.1))) (by decide)) hk (fun _ h => h.2)) (fun _ h => h.1)); have n5_ := Aside0.mk (KeepBut.blk hk (g' := gb732) (o := .cells #[.bool t727, .slice Ao26 t728.length co26] 27 (0, 0)) (by (with_reducible repeat (first | refine blk_drewN ?_ _ | refine blk_drew ?_ | refine blk_alloc ?_ _)); refine blk_put (cs := #[.bool t727, .slice none 0 0]) ?_ 1 _ rfl; (with_reducible repeat (first | refine blk_drewN ?_ _ | refine blk_drew ?_ | refine blk_alloc ?_ _)); refine blk_put (cs := #[.bool false, .slice none 0 0]) ?_ 0 _ rfl; (with_reducible repeat (first | refine blk_drewN ?_ _ | refine blk_drew ?_ | refine blk_alloc ?_ _)); exact BK732.out) NB732_720.out (by simp)); have n6_ := Aside0.mk (hb); have n7_ := Aside0.mk (hi); clear BK716; clear BK717; clear HO724; clear BK726; clear HO730; clear BK732; clear HB; clear HI720; have BK716 := n0_; have BK717 := n1_; have HO724 := n2_; have BK726 := n3_; have HO730 := n4_; have BK732 := n5_; have HB := n6_; have HI720 := n7_; clear n0_ n1_ n2_ n3_ n4_ n5_ n6_ n7_; (try clear hb); (try clear hb2); (try clear hk); (try clear hi)))
        have n0_ := Aside0.mk (Kd.R_drew HO724.out)
        have n1_ := Aside0.mk (Kd.R_drew HO730.out)
        have n2_ := Aside0.mk (blk_drew BK716.out)
        have n3_ := Aside0.mk (blk_drew BK717.out)
        have n4_ := Aside0.mk (blk_drew BK726.out)
        have n5_ := Aside0.mk (blk_drew BK732.out)
        have n6_ := Aside0.mk (IsS81.drew HI720.out)
        have n7_ := Aside0.mk (below_drew1 HB.out)
        clear HO724
        clear HO730
        clear BK716
        clear BK717
        clear BK726
        clear BK732
        clear HI720
        clear HB
        have HO724 := n0_
        have HO730 := n1_
        have BK716 := n2_
        have BK717 := n3_
        have BK726 := n4_
        have BK732 := n5_
        have HI720 := n6_
        have HB := n7_
        clear n0_ n1_ n2_ n3_ n4_ n5_ n6_ n7_
        refine start_ (n := 15) (S := fun w' => w'.cell? ⟨gb726, 0, none⟩ = some (.bool true) ∧ w'.cell? ⟨gb726, 1, none⟩ = some (.slice Ao18 t722.length co18)) (ds := []) #[false, false, false, false, false, false, false, false, false, false, false, false, false, false, false] (by kernel_rfl) rfl rfl ⟨(blk_cell BK726.out 0).trans rfl, (blk_cell BK726.out 1).trans rfl⟩ (fun hHeld => ?_); refine with_tabW spec_l14TwoBigs.tab5 spec_l14TwoBigs.bits5 (fun HT_ HW_ => ?_)
        generalize w27.drew = w28 at HO724 HO730 BK716 BK717 BK726 BK732 HI720 HB hHeld ⊢
        refine pure_ (i := 0) (N := some 16) (v := ?_) (a' := ?_) #[true, false, false, false, false, false, false, false, false, false, false, false, false, false, false] rfl rfl (any_of HT_.out (by kernel_rfl)) (fun _ _ _ h => h) (Or.inl ⟨by rfl, ?_⟩) ?_ ?_
        rotate_left
        · intro w'
          go_simp
          with_reducible rfl
        rotate_left
        · simp only [Act.put, List.setIfInBounds_toArray, List.set_cons_zero, List.set_cons_succ, i64_w, i32_w]
          rfl
        refine pure_ (i := 10) (N := some 26) (v := ?_) (a' := ?_) #[true, false, false, false, false, false, false, false, false, false, true, false, false, false, false] rfl rfl (any_of HT_.out (by kernel_rfl)) (fun _ _ _ h => h) (Or.inl ⟨by rfl, ?_⟩) ?_ ?_
        rotate_left
        · intro w'
          go_simp
          with_reducible rfl
        rotate_left
        · simp only [Act.put, List.setIfInBounds_toArray, List.set_cons_zero, List.set_cons_succ, i64_w, i32_w]
          rfl
        refine take_ (i := 1) (N := some 17) (v := ?_) (a' := ?_) #[true, true, false, false, false, false, false, false, false, false, true, false, false, false, false] rfl rfl (take_ofW HT_.out HW_.out (by kernel_rfl)) (fun _ _ _ h => h) (Or.inl ⟨by rfl, ?_⟩) hHeld ?_ ?_
        rotate_left
        · rintro w' ⟨s0, s1⟩
          go_simp
          with_reducible rfl
        rotate_left
        · simp only [Act.put, List.setIfInBounds_toArray, List.set_cons_zero, List.set_cons_succ, i64_w, i32_w]
          rfl
        refine pure_ (i := 2) (N := some 18) (v := ?_) (a' := ?_) #[true, true, true, false, false, false, false, false, false, false, true, false, false, false, false] rfl rfl (any_of HT_.out (by kernel_rfl)) (fun _ _ _ h => h) (Or.inl ⟨by rfl, ?_⟩) ?_ ?_
        rotate_left
        · intro w'
          go_simp
          with_reducible rfl
        rotate_left
        · simp only [Act.put, List.setIfInBounds_toArray, List.set_cons_zero, List.set_cons_succ, i64_w, i32_w]
          rfl
        refine pure_ (i := 3) (N := some 19) (v := ?_) (a' := ?_) #[true, true, true, true, false, false, false, false, false, false, true, false, false, false, false] rfl rfl (any_of HT_.out (by kernel_rfl)) (fun _ _ _ h => h) (Or.inl ⟨by rfl, ?_⟩) ?_ ?_
        rotate_left
        · intro w'
          go_simp
          with_reducible rfl
        rotate_left
        · simp only [Act.put, List.setIfInBounds_toArray, List.set_cons_zero, List.set_cons_succ, i64_w, i32_w]
          rfl
        refine pure_ (i := 4) (N := some 20) (v := undef) (a' := ?_) #[true, true, true, true, true, false, false, false, false, false, true, false, false, false, false] rfl rfl (any_of HT_.out (by kernel_rfl)) (fun _ _ _ h => h) (Or.inr ⟨by rfl, rfl⟩) ?_ ?_
        rotate_left
        · simp only [Act.put, List.setIfInBounds_toArray, List.set_cons_zero, List.set_cons_succ, i64_w, i32_w]
          rfl
        refine pure_ (i := 5) (N := some 21) (v := undef) (a' := ?_) #[true, true, true, true, true, true, false, false, false, false, true, false, false, false, false] rfl rfl (any_of HT_.out (by kernel_rfl)) (fun _ _ _ h => h) (Or.inr ⟨by rfl, rfl⟩) ?_ ?_
        rotate_left
        · simp only [Act.put, List.setIfInBounds_toArray, List.set_cons_zero, List.set_cons_succ, i64_w, i32_w]
          rfl
        refine pure_ (i := 6) (N := some 22) (v := undef) (a' := ?_) #[true, true, true, true, true, true, true, false, false, false, true, false, false, false, false] rfl rfl (any_of HT_.out (by kernel_rfl)) (fun _ _ _ h => h) (Or.inr ⟨by rfl, rfl⟩) ?_ ?_
        rotate_left
        · simp only [Act.put, List.setIfInBounds_toArray, List.set_cons_zero, List.set_cons_succ, i64_w, i32_w]
          rfl
        refine pure_ (i := 7) (N := some 23) (v := undef) (a' := ?_) #[true, true, true, true, true, true, true, true, false, false, true, false, false, false, false] rfl rfl (any_of HT_.out (by kernel_rfl)) (fun _ _ _ h => h) (Or.inr ⟨by rfl, rfl⟩) ?_ ?_
        rotate_left
        · simp only [Act.put, List.setIfInBounds_toArray, List.set_cons_zero, List.set_cons_succ, i64_w, i32_w]
          rfl
        refine pure_ (i := 8) (N := some 24) (v := ?_) (a' := ?_) #[true, true, true, true, true, true, true, true, true, false, true, false, false, false, false] rfl rfl (any_of HT_.out (by kernel_rfl)) (fun _ _ _ h => h) (Or.inl ⟨by rfl, ?_⟩) ?_ ?_
        rotate_left
        · intro w'
          go_simp
          with_reducible rfl
        rotate_left
        · simp only [Act.put, List.setIfInBounds_toArray, List.set_cons_zero, List.set_cons_succ, i64_w, i32_w]
          rfl
        refine take_ (i := 11) (N := some 27) (v := ?_) (a' := ?_) #[true, true, true, true, true, true, true, true, true, false, true, true, false, false, false] rfl rfl (take_ofW HT_.out HW_.out (by kernel_rfl)) (fun _ _ _ h => h) (Or.inl ⟨by rfl, ?_⟩) hHeld ?_ ?_
        rotate_left
        · rintro w' ⟨s0, s1⟩
          go_simp
          with_reducible rfl
        rotate_left
        · simp only [Act.put, List.setIfInBounds_toArray, List.set_cons_zero, List.set_cons_succ, i64_w, i32_w]
          rfl
        refine one_ (i := 9) (N := some 25) #[true, true, true, true, true, true, true, true, true, true, true, true, false, false, false] rfl rfl (one_of HT_.out (by kernel_rfl)) (by decide) (fun K hK => ?_)
        refine Kd.R_lit_step (Kd.int .i64) _ 3 ?hg (N := 25) ?hd (xs := ([] : List Int)) (inner := []) (ok := fun _ => True) (okp := fun _ => True) ?hr ?hp (fun _ hk => hk) trivial (Below.refl _ _) (Nat.le_refl _) (by simp) ?_; (case hd => rfl); (case hg => rfl); (case hr => first | (go_simp; done) | (go_simp; rfl)); (case hp => exact (Reps.none _ _))
        intro v736 w29 ho30 hb hg_ hnew_
        clear hg_ hnew_
        (first | rw [← Ny735.out] at ho30 | (simp only [Int.reduceToNat] at ho30; rw [← Ny735.out] at ho30))
        have n0_ := Aside0.mk (Kd.R_elder' (zR HO724.out) (Kd.R_base ho30) hb)
        have n1_ := Aside0.mk (Kd.R_elder' (zR HO730.out) (Kd.R_base ho30) hb)
        have n2_ := Aside0.mk (Kd.R_lower (Kd.R_new' (Kd.R_new' ho30 (Kd.R_lt (zR HO724.out))) (Kd.R_lt (zR HO730.out))) (below_size (by repeat (first | (with_reducible first | exact HB.out | apply below_alloc | apply pw_below_drewN | apply below_drew1 | refine below_set ?_ (IsS81.ge HI720.out) | refine below_set ?_ GE716.out | refine below_set ?_ GE717.out | refine below_set ?_ GE726.out | refine below_set ?_ GE732.out) | exact HB.out))))
        have n3_ := Aside0.mk (blk_below (g := gb716) (o := .cells #[.bool false, .slice none 0 0] 27 (0, 0)) (zk BK716.out) hb)
        have n4_ := Aside0.mk (blk_below (g := gb717) (o := .cells #[.bool false, .slice none 0 0] 27 (0, 0)) (zk BK717.out) hb)
        have n5_ := Aside0.mk (IsS81.below (by repeat (first | (with_reducible first | exact HI720.out | apply IsS81.alloc | apply IsS81.drewN | apply IsS81.drew | apply IsS81.set_1 | refine IsS81.far ?_ NB720_716.out _ | refine IsS81.far ?_ NB720_717.out _ | refine IsS81.far ?_ NB720_726.out _ | refine IsS81.far ?_ NB720_732.out _) | exact HI720.out)) hb)
        have n6_ := Aside0.mk (blk_below (g := gb726) (o := .cells #[.bool true, .slice Ao18 t722.length co18] 27 (0, 0)) (zk BK726.out) hb)
        have n7_ := Aside0.mk (blk_below (g := gb732) (o := .cells #[.bool t727, .slice Ao26 t728.length co26] 27 (0, 0)) (zk BK732.out) hb)
        have n8_ := Aside0.mk (below_step (by repeat (first | (with_reducible first | exact HB.out | apply below_alloc | apply pw_below_drewN | apply below_drew1 | refine below_set ?_ (IsS81.ge HI720.out) | refine below_set ?_ GE716.out | refine below_set ?_ GE717.out | refine below_set ?_ GE726.out | refine below_set ?_ GE732.out) | exact HB.out)) hb)
        clear HO724
        clear HO730
        clear BK716
        clear BK717
        clear HI720
        clear BK726
        clear BK732
        clear HB
        have HO724 := n0_
        have HO730 := n1_
        have HO737 := n2_
        have BK716 := n3_
        have BK717 := n4_
        have HI720 := n5_
        have BK726 := n6_
        have BK732 := n7_
        have HB := n8_
        clear n0_ n1_ n2_ n3_ n4_ n5_ n6_ n7_ n8_
        clear hb ho30
        refine hK.out _ _ ⟨(blk_cell BK726.out 0).trans rfl, (blk_cell BK726.out 1).trans rfl⟩ (fun hHeld => ?_)
        clear hK K
        refine norm_ (a' := ?_) ?_ ?_
        rotate_left
        · show Act.put _ (some 25) _ = _
          simp only [Act.put, List.setIfInBounds_toArray, List.set_cons_zero, List.set_cons_succ, i64_w, i32_w]
          rfl
        refine one_ (i := 12) (N := some 28) #[true, true, true, true, true, true, true, true, true, true, true, true, true, false, false] rfl rfl (one_of HT_.out (by kernel_rfl)) (by decide) (fun K hK => ?_)
        refine Kd.R_append_rows_step (Kd.int .i64) (w0 := w) w.heap.size (by rfl) (.tmp 25) (.tmp 27) 22 3 (.int .i64 0) 8 rfl Try.underlying22 info3 rfl (by decide) (by omega) v736 y735 t722 _ _ _ (fun k_ => some k_ ≠ (.slice Ao18 t722.length co18 : Value).ownBlock ∧ some k_ ≠ (.slice Ao26 t728.length co26 : Value).ownBlock) (fun _ => False) rfl rfl ?aO ?aR (fun _ _ h => h) (fun _ h => h.elim) ?aF ?aB ?aS ?aL ?_
        (case aR => repeat (first | exact (Kd.R_reads' HO724.out).2.2 | (with_reducible refine Kd.C_alloc ?_ _) | (with_reducible refine Kd.C_drewN ?_ _) | (with_reducible refine Kd.C_drew ?_)))
        (case aB => exact (by repeat (first | (with_reducible first | exact HB.out | apply below_alloc | apply pw_below_drewN | apply below_drew1 | refine below_set ?_ (IsS81.ge HI720.out) | refine below_set ?_ GE716.out | refine below_set ?_ GE717.out | refine below_set ?_ GE726.out | refine below_set ?_ GE732.out) | exact HB.out)))
        (case aF => exact (fun k_ hk => ⟨Kd.fresh' (Kd.R_lt (zR HO724.out)) k_ hk, Kd.fresh' (Kd.R_lt (zR HO730.out)) k_ hk⟩))
        (case aO => exact (by (with_reducible repeat (first | apply Kd.R_alloc | apply Kd.R_drewN | apply Kd.R_drew)); exact Kd.R_mono HO737.out (fun _ hk => ⟨hk.1.2, hk.2⟩)))
        (case aS => exact (below_size (by repeat (first | (with_reducible first | exact HB.out | apply below_alloc | apply pw_below_drewN | apply below_drew1 | refine below_set ?_ (IsS81.ge HI720.out) | refine below_set ?_ GE716.out | refine below_set ?_ GE717.out | refine below_set ?_ GE726.out | refine below_set ?_ GE732.out) | exact HB.out))))
        (case aL => have := LMc8.out; omega)
        intro v739 w31 ho hb hg hat
        rw [← Ny738.out] at ho
        have n0_ := Aside0.mk (blk_grown (g := gb716) (o := .cells #[.bool false, .slice none 0 0] 27 (0, 0)) (zk BK716.out) hg (Kd.R_ne HO737.out BK716.out (by decide)))
        have n1_ := Aside0.mk (blk_grown (g := gb717) (o := .cells #[.bool false, .slice none 0 0] 27 (0, 0)) (zk BK717.out) hg (Kd.R_ne HO737.out BK717.out (by decide)))
        have n2_ := Aside0.mk (IsS81.grown (by repeat (first | (with_reducible first | exact HI720.out | apply IsS81.alloc | apply IsS81.drewN | apply IsS81.drew | apply IsS81.set_1 | refine IsS81.far ?_ NB720_716.out _ | refine IsS81.far ?_ NB720_717.out _ | refine IsS81.far ?_ NB720_726.out _ | refine IsS81.far ?_ NB720_732.out _) | exact HI720.out)) hg (IsS81.own_ne HI720.out HO737.out (by decide)))
        have n3_ := Aside0.mk (Kd.R_after (ok := (fun k_ => some k_ ≠ (.slice Ao26 t728.length co26 : Value).ownBlock)) (by (with_reducible repeat (first | apply Kd.R_alloc | apply Kd.R_drewN | apply Kd.R_drew)); exact Kd.R_mono HO724.out (fun _ hk => ⟨hk.1.2, hk.2⟩)) hg hat)
        have n4_ := Aside0.mk (blk_grown (g := gb726) (o := .cells #[.bool true, .slice Ao18 t722.length co18] 27 (0, 0)) (zk BK726.out) hg (Kd.R_ne HO737.out BK726.out (by decide)))
        have n5_ := Aside0.mk (Kd.R_after (ok := (fun k_ => some k_ ≠ (.slice Ao18 t722.length co18 : Value).ownBlock)) (by (with_reducible repeat (first | apply Kd.R_alloc | apply Kd.R_drewN | apply Kd.R_drew)); exact Kd.R_mono HO730.out (fun _ hk => ⟨hk.1.2, hk.2⟩)) hg hat)
        have n6_ := Aside0.mk (blk_grown (g := gb732) (o := .cells #[.bool t727, .slice Ao26 t728.length co26] 27 (0, 0)) (zk BK732.out) hg (Kd.R_ne HO737.out BK732.out (by decide)))
        have n7_ := Aside0.mk (hb)
        have n8_ := Aside0.mk (ho)
        clear BK716
        clear BK717
        clear HI720
        clear HO724
        clear BK726
        clear HO730
        clear BK732
        clear HB
        clear HO737
        have BK716 := n0_
        have BK717 := n1_
        have HI720 := n2_
        have HO724 := n3_
        have BK726 := n4_
        have HO730 := n5_
        have BK732 := n6_
        have HB := n7_
        have HO740 := n8_
        clear n0_ n1_ n2_ n3_ n4_ n5_ n6_ n7_ n8_
        clear ho hb hg hat
        obtain ⟨Ao32, co32, eo32⟩ := Kd.R_slice HO740.out
        (first | subst eo32 | (injection eo32 with f1_ f2_ f3_; have f4_ := f1_.symm; have f5_ := f3_.symm; clear f1_ f2_ f3_; subst f4_; subst f5_))
        refine hK.out _ _ ⟨(blk_cell BK726.out 0).trans rfl, (blk_cell BK726.out 1).trans rfl⟩ (fun hHeld => ?_)
        clear hK K
        refine norm_ (a' := ?_) ?_ ?_
        rotate_left
        · show Act.put _ (some 28) _ = _
          simp only [Act.put, List.setIfInBounds_toArray, List.set_cons_zero, List.set_cons_succ, i64_w, i32_w]
          rfl
        refine pure_ (i := 13) (N := some 29) (v := ?_) (a' := ?_) #[true, true, true, true, true, true, true, true, true, true, true, true, true, true, false] rfl rfl (any_of HT_.out (by kernel_rfl)) (fun _ _ _ h => h) (Or.inl ⟨by rfl, ?_⟩) ?_ ?_
        rotate_left
        · intro w'
          go_simp
          with_reducible rfl
        rotate_left
        · simp only [Act.put, List.setIfInBounds_toArray, List.set_cons_zero, List.set_cons_succ, i64_w, i32_w]
          rfl
        refine one_ (i := 14) (N := none) #[true, true, true, true, true, true, true, true, true, true, true, true, true, true, true] rfl rfl (one_of HT_.out (by kernel_rfl)) (by decide) (fun K hK => ?_)
        have hs33 : w31.cell? ⟨gb732, 0, none⟩ = some (.bool t727) := (blk_cell BK732.out 0).trans rfl
        have hfs33 := blk_frozen BK732.out 0
        have hns33_0 := NB716_732.out
        have hns33_1 := NB717_732.out
        have hns33_2 := NB726_732.out
        have hms33_0 := NB732_716.out
        have hms33_1 := NB732_717.out
        have hms33_2 := NB732_726.out
        have hs34 : w31.cell? ⟨gb732, 1, none⟩ = some (.slice Ao26 t728.length co26) := (blk_cell BK732.out 1).trans rfl
        have hfs34 := blk_frozen BK732.out 1
        have hns34_0 := NB716_732.out
        have hns34_1 := NB717_732.out
        have hns34_2 := NB726_732.out
        have hms34_0 := NB732_716.out
        have hms34_1 := NB732_717.out
        have hms34_2 := NB732_726.out
        refine skip_ (w1 := ?_) (by rfl) rfl ?_ ?_
        rotate_left
        · go_simp
          rfl
        refine hK.out _ _ ⟨((cell_far (p := ⟨gb732, _, none⟩) NB726_732.out _).trans (((cell_far (p := ⟨gb732, _, none⟩) NB726_732.out _).trans (hHeld.1)))), ((cell_far (p := ⟨gb732, _, none⟩) NB726_732.out _).trans (((cell_far (p := ⟨gb732, _, none⟩) NB726_732.out _).trans (hHeld.2))))⟩ (fun hHeld => ?_)
        clear hK K
        refine done_ (done_of HT_.out (by kernel_rfl)) ?_
        try go_wp2
        have n0_ : Aside0 (Kd.R (Kd.int .i64) 3 ((w31.setCell ⟨gb732, 0, none⟩ (.bool false)).setCell ⟨gb732, 1, none⟩ (.slice Ao32 y738.length co32)) w.heap.size (fun k_ => some k_ ≠ (.slice Ao26 t728.length co26 : Value).ownBlock ∧ some k_ ≠ (.slice Ao32 y738.length co32 : Value).ownBlock) (.slice Ao18 t722.length co18) t722) := ⟨by (with_reducible repeat (first | apply Kd.R_alloc | apply Kd.R_drewN | apply Kd.R_drew)); exact Kd.R_mono (Kd.R_far (p := ⟨gb732, 1, none⟩) (Kd.R_far (p := ⟨gb732, 0, none⟩) (Kd.R_types HO724.out BK732.out (by decide)) (fun _ hk => hk.2) (.bool false)) (fun _ hk => hk.2) (.slice Ao32 y738.length co32)) (fun _ hk => ⟨hk.1.1, hk.1.2⟩)⟩
        have n1_ : Aside0 (Kd.R (Kd.int .i64) 3 ((w31.setCell ⟨gb732, 0, none⟩ (.bool false)).setCell ⟨gb732, 1, none⟩ (.slice Ao32 y738.length co32)) w.heap.size (fun k_ => some k_ ≠ (.slice Ao18 t722.length co18 : Value).ownBlock ∧ some k_ ≠ (.slice Ao32 y738.length co32 : Value).ownBlock) (.slice Ao26 t728.length co26) t728) := ⟨by (with_reducible repeat (first | apply Kd.R_alloc | apply Kd.R_drewN | apply Kd.R_drew)); exact Kd.R_mono (Kd.R_far (p := ⟨gb732, 1, none⟩) (Kd.R_far (p := ⟨gb732, 0, none⟩) (Kd.R_types HO730.out BK732.out (by decide)) (fun _ hk => hk.2) (.bool false)) (fun _ hk => hk.2) (.slice Ao32 y738.length co32)) (fun _ hk => ⟨hk.1.1, hk.1.2⟩)⟩
        have n2_ : Aside0 (Kd.R (Kd.int .i64) 3 ((w31.setCell ⟨gb732, 0, none⟩ (.bool false)).setCell ⟨gb732, 1, none⟩ (.slice Ao32 y738.length co32)) w.heap.size (fun k_ => some k_ ≠ (.slice Ao18 t722.length co18 : Value).ownBlock ∧ some k_ ≠ (.slice Ao26 t728.length co26 : Value).ownBlock) (.slice Ao32 y738.length co32) y738) := ⟨by (with_reducible repeat (first | apply Kd.R_alloc | apply Kd.R_drewN | apply Kd.R_drew)); exact Kd.R_mono (Kd.R_far (p := ⟨gb732, 1, none⟩) (Kd.R_far (p := ⟨gb732, 0, none⟩) (Kd.R_types HO740.out BK732.out (by decide)) (fun _ hk => hk.2) (.bool false)) (fun _ hk => hk.2) (.slice Ao32 y738.length co32)) (fun _ hk => ⟨hk.1.1, hk.1.2⟩)⟩
        have n3_ : Aside0 (((w31.setCell ⟨gb732, 0, none⟩ (.bool false)).setCell ⟨gb732, 1, none⟩ (.slice Ao32 y738.length co32)).heap[gb716]? = some (.cells #[.bool false, .slice none 0 0] 27 (0, 0))) := ⟨by (with_reducible repeat (first | refine blk_drewN ?_ _ | refine blk_drew ?_ | refine blk_alloc ?_ _)); refine blk_far ?_ NB716_732.out _; (with_reducible repeat (first | refine blk_drewN ?_ _ | refine blk_drew ?_ | refine blk_alloc ?_ _)); refine blk_far ?_ NB716_732.out _; (with_reducible repeat (first | refine blk_drewN ?_ _ | refine blk_drew ?_ | refine blk_alloc ?_ _)); exact BK716.out⟩
        have n4_ : Aside0 (((w31.setCell ⟨gb732, 0, none⟩ (.bool false)).setCell ⟨gb732, 1, none⟩ (.slice Ao32 y738.length co32)).heap[gb717]? = some (.cells #[.bool false, .slice none 0 0] 27 (0, 0))) := ⟨by (with_reducible repeat (first | refine blk_drewN ?_ _ | refine blk_drew ?_ | refine blk_alloc ?_ _)); refine blk_far ?_ NB717_732.out _; (with_reducible repeat (first | refine blk_drewN ?_ _ | refine blk_drew ?_ | refine blk_alloc ?_ _)); refine blk_far ?_ NB717_732.out _; (with_reducible repeat (first | refine blk_drewN ?_ _ | refine blk_drew ?_ | refine blk_alloc ?_ _)); exact BK717.out⟩
        have n5_ : Aside0 (((w31.setCell ⟨gb732, 0, none⟩ (.bool false)).setCell ⟨gb732, 1, none⟩ (.slice Ao32 y738.length co32)).heap[gb726]? = some (.cells #[.bool true, .slice Ao18 t722.length co18] 27 (0, 0))) := ⟨by (with_reducible repeat (first | refine blk_drewN ?_ _ | refine blk_drew ?_ | refine blk_alloc ?_ _)); refine blk_far ?_ NB726_732.out _; (with_reducible repeat (first | refine blk_drewN ?_ _ | refine blk_drew ?_ | refine blk_alloc ?_ _)); refine blk_far ?_ NB726_732.out _; (with_reducible repeat (first | refine blk_drewN ?_ _ | refine blk_drew ?_ | refine blk_alloc ?_ _)); exact BK726.out⟩
        have n6_ : Aside0 (((w31.setCell ⟨gb732, 0, none⟩ (.bool false)).setCell ⟨gb732, 1, none⟩ (.slice Ao32 y738.length co32)).heap[gb732]? = some (.cells #[.bool false, .slice Ao32 y738.length co32] 27 (0, 0))) := ⟨by (with_reducible repeat (first | refine blk_drewN ?_ _ | refine blk_drew ?_ | refine blk_alloc ?_ _)); refine blk_put (cs := #[.bool false, .slice Ao26 t728.length co26]) ?_ 1 _ rfl; (with_reducible repeat (first | refine blk_drewN ?_ _ | refine blk_drew ?_ | refine blk_alloc ?_ _)); refine blk_put (cs := #[.bool t727, .slice Ao26 t728.length co26]) ?_ 0 _ rfl; (with_reducible repeat (first | refine blk_drewN ?_ _ | refine blk_drew ?_ | refine blk_alloc ?_ _)); exact BK732.out⟩
        have n7_ : Aside0 (IsS81 w ((w31.setCell ⟨gb732, 0, none⟩ (.bool false)).setCell ⟨gb732, 1, none⟩ (.slice Ao32 y738.length co32)) g720 t718 t734) := ⟨by repeat (first | (with_reducible first | exact HI720.out | apply IsS81.alloc | apply IsS81.drewN | apply IsS81.drew | apply IsS81.set_1 | refine IsS81.far ?_ NB720_716.out _ | refine IsS81.far ?_ NB720_717.out _ | refine IsS81.far ?_ NB720_726.out _ | refine IsS81.far ?_ NB720_732.out _) | exact HI720.out)⟩
        have n8_ : Aside0 (Below w.heap.size w ((w31.setCell ⟨gb732, 0, none⟩ (.bool false)).setCell ⟨gb732, 1, none⟩ (.slice Ao32 y738.length co32))) := ⟨by repeat (first | (with_reducible first | exact HB.out | apply below_alloc | apply pw_below_drewN | apply below_drew1 | refine below_set ?_ (IsS81.ge HI720.out) | refine below_set ?_ GE716.out | refine below_set ?_ GE717.out | refine below_set ?_ GE726.out | refine below_set ?_ GE732.out) | exact HB.out)⟩
        (try clear HO724)
        (try clear HO730)
        (try clear HO740)
        (try clear BK716)
        (try clear BK717)
        (try clear BK726)
        (try clear BK732)
        (try clear HI720)
        (try clear HB)
        generalize ((w31.setCell ⟨gb732, 0, none⟩ (.bool false)).setCell ⟨gb732, 1, none⟩ (.slice Ao32 y738.length co32)) = w35 at n0_ n1_ n2_ n3_ n4_ n5_ n6_ n7_ n8_ ⊢
        have HO724 := n0_
        have HO730 := n1_
        have HO740 := n2_
        have BK716 := n3_
        have BK717 := n4_
        have BK726 := n5_
        have BK732 := n6_
        have HI720 := n7_
        have HB := n8_
        clear n0_ n1_ n2_ n3_ n4_ n5_ n6_ n7_ n8_
        have n0_ := Aside0.mk (Kd.R_drew HO724.out)
        have n1_ := Aside0.mk (Kd.R_drew HO730.out)
        have n2_ := Aside0.mk (Kd.R_drew HO740.out)
        have n3_ := Aside0.mk (blk_drew BK716.out)
        have n4_ := Aside0.mk (blk_drew BK717.out)
        have n5_ := Aside0.mk (blk_drew BK726.out)
        have n6_ := Aside0.mk (blk_drew BK732.out)
        have n7_ := Aside0.mk (IsS81.drew HI720.out)
        have n8_ := Aside0.mk (below_drew1 HB.out)
        clear HO724
        clear HO730
        clear HO740
        clear BK716
        clear BK717
        clear BK726
        clear BK732
        clear HI720
        clear HB
        have HO724 := n0_
        have HO730 := n1_
        have HO740 := n2_
        have BK716 := n3_
        have BK717 := n4_
        have BK726 := n5_
        have BK732 := n6_
        have HI720 := n7_
        have HB := n8_
        clear n0_ n1_ n2_ n3_ n4_ n5_ n6_ n7_ n8_
        refine start_ (n := 4) (S := fun w' => w'.cell? ⟨gb726, 0, none⟩ = some (.bool true) ∧ w'.cell? ⟨gb726, 1, none⟩ = some (.slice Ao18 t722.length co18) ∧ w'.cell? ⟨gb732, 0, none⟩ = some (.bool false) ∧ w'.cell? ⟨gb732, 1, none⟩ = some (.slice Ao32 y738.length co32)) (ds := []) #[false, false, false, false] (by kernel_rfl) rfl rfl ⟨(blk_cell BK726.out 0).trans rfl, (blk_cell BK726.out 1).trans rfl, (blk_cell BK732.out 0).trans rfl, (blk_cell BK732.out 1).trans rfl⟩ (fun hHeld => ?_)
        generalize w35.drew = w36 at HO724 HO730 HO740 BK716 BK717 BK726 BK732 HI720 HB hHeld ⊢
        refine take_ (i := 0) (N := some 30) (v := ?_) (a' := ?_) #[true, false, false, false] rfl rfl (by kernel_rfl) (fun _ _ _ h => h) (Or.inl ⟨by rfl, ?_⟩) hHeld ?_ ?_
        rotate_left
        · rintro w' ⟨s0, s1, s2, s3⟩
          go_simp
          with_reducible rfl
        rotate_left
        · simp only [Act.put, List.setIfInBounds_toArray, List.set_cons_zero, List.set_cons_succ, i64_w, i32_w]
          rfl
        refine take_ (i := 1) (N := some 31) (v := ?_) (a' := ?_) #[true, true, false, false] rfl rfl (by kernel_rfl) (fun _ _ _ h => h) (Or.inl ⟨by rfl, ?_⟩) hHeld ?_ ?_
        rotate_left
        · rintro w' ⟨s0, s1, s2, s3⟩
          go_simp
          with_reducible rfl
        rotate_left
        · simp only [Act.put, List.setIfInBounds_toArray, List.set_cons_zero, List.set_cons_succ, i64_w, i32_w]
          rfl
        refine one_ (i := 2) (N := none) #[true, true, true, false] rfl rfl (by kernel_rfl) (by decide) (fun K hK => ?_)
        have hs37 : w36.cell? ⟨gb716, 0, none⟩ = some (.bool false) := (blk_cell BK716.out 0).trans rfl
        have hfs37 := blk_frozen BK716.out 0
        have hns37_1 := NB717_716.out
        have hns37_2 := NB726_716.out
        have hns37_3 := NB732_716.out
        have hms37_1 := NB716_717.out
        have hms37_2 := NB716_726.out
        have hms37_3 := NB716_732.out
        have hs38 : w36.cell? ⟨gb716, 1, none⟩ = some (.slice none 0 0) := (blk_cell BK716.out 1).trans rfl
        have hfs38 := blk_frozen BK716.out 1
        have hns38_1 := NB717_716.out
        have hns38_2 := NB726_716.out
        have hns38_3 := NB732_716.out
        have hms38_1 := NB716_717.out
        have hms38_2 := NB716_726.out
        have hms38_3 := NB716_732.out
        refine skip_ (w1 := ?_) (by rfl) rfl ?_ ?_
        rotate_left
        · go_simp
          rfl
        refine hK.out _ _ ⟨((cell_far (p := ⟨gb716, _, none⟩) NB726_716.out _).trans (((cell_far (p := ⟨gb716, _, none⟩) NB726_716.out _).trans (hHeld.1)))), ((cell_far (p := ⟨gb716, _, none⟩) NB726_716.out _).trans (((cell_far (p := ⟨gb716, _, none⟩) NB726_716.out _).trans (hHeld.2.1)))), ((cell_far (p := ⟨gb716, _, none⟩) NB732_716.out _).trans (((cell_far (p := ⟨gb716, _, none⟩) NB732_716.out _).trans (hHeld.2.2.1)))), ((cell_far (p := ⟨gb716, _, none⟩) NB732_716.out _).trans (((cell_far (p := ⟨gb716, _, none⟩) NB732_716.out _).trans (hHeld.2.2.2))))⟩ (fun hHeld => ?_)
        clear hK K
        refine one_ (i := 3) (N := none) #[true, true, true, true] rfl rfl (by kernel_rfl) (by decide) (fun K hK => ?_)
        have hs39 : w36.cell? ⟨gb717, 0, none⟩ = some (.bool false) := (blk_cell BK717.out 0).trans rfl
        have hfs39 := blk_frozen BK717.out 0
        have hns39_0 := NB716_717.out
        have hns39_2 := NB726_717.out
        have hns39_3 := NB732_717.out
        have hms39_0 := NB717_716.out
        have hms39_2 := NB717_726.out
        have hms39_3 := NB717_732.out
        have hs40 : w36.cell? ⟨gb717, 1, none⟩ = some (.slice none 0 0) := (blk_cell BK717.out 1).trans rfl
        have hfs40 := blk_frozen BK717.out 1
        have hns40_0 := NB716_717.out
        have hns40_2 := NB726_717.out
        have hns40_3 := NB732_717.out
        have hms40_0 := NB717_716.out
        have hms40_2 := NB717_726.out
        have hms40_3 := NB717_732.out
        refine skip_ (w1 := ?_) (by rfl) rfl ?_ ?_
        rotate_left
        · go_simp
          rfl
        refine hK.out _ _ ⟨((cell_far (p := ⟨gb717, _, none⟩) NB726_717.out _).trans (((cell_far (p := ⟨gb717, _, none⟩) NB726_717.out _).trans (hHeld.1)))), ((cell_far (p := ⟨gb717, _, none⟩) NB726_717.out _).trans (((cell_far (p := ⟨gb717, _, none⟩) NB726_717.out _).trans (hHeld.2.1)))), ((cell_far (p := ⟨gb717, _, none⟩) NB732_717.out _).trans (((cell_far (p := ⟨gb717, _, none⟩) NB732_717.out _).trans (hHeld.2.2.1)))), ((cell_far (p := ⟨gb717, _, none⟩) NB732_717.out _).trans (((cell_far (p := ⟨gb717, _, none⟩) NB732_717.out _).trans (hHeld.2.2.2))))⟩ (fun hHeld => ?_)
        clear hK K
        refine done_ (by kernel_rfl) ?_
        try go_wp2
        refine bodyPost_ret (results_cc rfl _ _ gb716 gb717 27 27 #[.bool true, .slice Ao18 t722.length co18] #[.bool false, .slice Ao32 y738.length co32] (0, 0) (0, 0) _ _ rfl (by (with_reducible repeat (first | refine blk_drewN ?_ _ | refine blk_drew ?_ | refine blk_alloc ?_ _)); refine blk_far ?_ NB716_717.out _; (with_reducible repeat (first | refine blk_drewN ?_ _ | refine blk_drew ?_ | refine blk_alloc ?_ _)); refine blk_far ?_ NB716_717.out _; (with_reducible repeat (first | refine blk_drewN ?_ _ | refine blk_drew ?_ | refine blk_alloc ?_ _)); refine blk_put (cs := #[.bool true, .slice none 0 0]) ?_ 1 _ rfl; (with_reducible repeat (first | refine blk_drewN ?_ _ | refine blk_drew ?_ | refine blk_alloc ?_ _)); refine blk_put (cs := #[.bool false, .slice none 0 0]) ?_ 0 _ rfl; (with_reducible repeat (first | refine blk_drewN ?_ _ | refine blk_drew ?_ | refine blk_alloc ?_ _)); exact BK716.out) Try.underlying27 rfl (by kernel_rfl) rfl (by (with_reducible repeat (first | refine blk_drewN ?_ _ | refine blk_drew ?_ | refine blk_alloc ?_ _)); refine blk_put (cs := #[.bool false, .slice none 0 0]) ?_ 1 _ rfl; (with_reducible repeat (first | refine blk_drewN ?_ _ | refine blk_drew ?_ | refine blk_alloc ?_ _)); refine blk_put (cs := #[.bool false, .slice none 0 0]) ?_ 0 _ rfl; (with_reducible repeat (first | refine blk_drewN ?_ _ | refine blk_drew ?_ | refine blk_alloc ?_ _)); refine blk_far ?_ NB717_716.out _; (with_reducible repeat (first | refine blk_drewN ?_ _ | refine blk_drew ?_ | refine blk_alloc ?_ _)); refine blk_far ?_ NB717_716.out _; (with_reducible repeat (first | refine blk_drewN ?_ _ | refine blk_drew ?_ | refine blk_alloc ?_ _)); exact BK717.out) Try.underlying27 rfl (by kernel_rfl)) rfl ?_
        exact ⟨_, _, by first | rfl | (simp [errW_none, errW_some] <;> rfl) | (simp [*, errW_none, errW_some] <;> rfl), by (with_reducible repeat (first | apply Kd.R_alloc | apply Kd.R_drewN | apply Kd.R_drew)); exact Kd.R_mono (Kd.R_far (p := ⟨gb717, 1, none⟩) (Kd.R_far (p := ⟨gb717, 0, none⟩) (Kd.R_far (p := ⟨gb716, 1, none⟩) (Kd.R_far (p := ⟨gb716, 0, none⟩) (Kd.R_types (Kd.R_types HO724.out BK716.out (by decide)) BK717.out (by decide)) (fun _ hk => hk.1.2) (.bool true)) (fun _ hk => hk.1.2) (.slice Ao18 t722.length co18)) (fun _ hk => hk.2) (.bool false)) (fun _ hk => hk.2) (.slice Ao32 y738.length co32)) (fun _ hk => hk.1.1.2), by (with_reducible repeat (first | apply Kd.R_alloc | apply Kd.R_drewN | apply Kd.R_drew)); exact Kd.R_mono (Kd.R_far (p := ⟨gb717, 1, none⟩) (Kd.R_far (p := ⟨gb717, 0, none⟩) (Kd.R_far (p := ⟨gb716, 1, none⟩) (Kd.R_far (p := ⟨gb716, 0, none⟩) (Kd.R_types (Kd.R_types HO740.out BK716.out (by decide)) BK717.out (by decide)) (fun _ hk => hk.1.2) (.bool true)) (fun _ hk => hk.1.2) (.slice Ao18 t722.length co18)) (fun _ hk => hk.2) (.bool false)) (fun _ hk => hk.2) (.slice Ao32 y738.length co32)) (fun _ hk => hk.1.1.1), by repeat (first | (with_reducible first | exact HB.out | apply below_alloc | apply pw_below_drewN | apply below_drew1 | refine below_set ?_ (IsS81.ge HI720.out) | refine below_set ?_ GE716.out | refine below_set ?_ GE717.out | refine below_set ?_ GE726.out | refine below_set ?_ GE732.out) | exact HB.out)⟩
      · rw [if_neg c8] at H
        exact absurd H (by simp)
    · replace c7 := Bool.eq_false_iff.mpr c7
      subst c7
      have H1 : ((some (([] : List Int) : List Int)).bind fun y741 => (if y741.length + t722.length < 17592186044416 then (some (false, t722, decide (0 < t722.length), (y741 ++ t722))) else (none))) = some (r1, r2, r3, r4) := by rw [if_neg (show ¬ (false = true) by decide)] at H; exact H
      clear H
      have H := H1
      clear H1
      obtain ⟨y741, hy741⟩ : ∃ y_ : List Int, y_ = (([] : List Int)) := ⟨_, rfl⟩
      replace H : (if y741.length + t722.length < 17592186044416 then (some (false, t722, decide (0 < t722.length), (y741 ++ t722))) else (none)) = some (r1, r2, r3, r4) := by first | (rw [hy741]; with_reducible exact H) | (have H2_ := (Option.bind_some _ _).symm.trans H; rw [hy741]; with_reducible exact H2_) | (have H2_ := (Option.bind_some _ _).symm.trans H; with_reducible exact H2_) | with_reducible exact H | (rw [hy741]; exact H) | exact H
      have Ny741 := Aside0.mk hy741
      clear hy741
      by_cases c41 : y741.length + t722.length < 17592186044416
      · rw [if_pos c41] at H
        have LMc41 := Aside0.mk c41
        clear c41
        obtain ⟨y744, hy744⟩ : ∃ y_ : List Int, y_ = (y741 ++ t722) := ⟨_, rfl⟩
        replace H : (some (false, t722, decide (0 < t722.length), y744)) = some (r1, r2, r3, r4) := by first | (rw [hy744]; with_reducible exact H) | (have H2_ := (Option.bind_some _ _).symm.trans H; rw [hy744]; with_reducible exact H2_) | (have H2_ := (Option.bind_some _ _).symm.trans H; with_reducible exact H2_) | with_reducible exact H | (rw [hy744]; exact H) | exact H
        have Ny744 := Aside0.mk hy744
        clear hy744
        simp only [Option.some.injEq, Prod.mk.injEq] at H
        obtain ⟨rfl, rfl, rfl, rfl⟩ := H
        go_enter Try.func75, Try.ntmps75
        try go_wp2_with (first | ((with_reducible refine gate_dst (N := 2) rfl ?_); (try (refine gate_guard (by rfl) ?_; dsimp only)); refine box_event ?hg (N := 2) ?hd (cs := #[.bool false, .slice none 0 0]) (t := 27) ?hr ?_; (case hd => rfl); (case hg => rfl); (case hr => first | (go_simp; done) | (go_simp; rfl)); intro gb716 hg w42 hbox hb; have n0_ := Aside0.mk (below_step zb hb); have n1_ := Aside0.mk (hbox); have n2_ := Aside0.mk ((by rw [hg]; exact (below_size zb) : w.heap.size ≤ gb716)); have n3_ := Aside0.mk ((by rw [hg]; exact (below_size zb) : w.heap.size ≤ gb716)); clear HB; have HB := n0_; have BK716 := n1_; have GW716 := n2_; have GE716 := n3_; clear n0_ n1_ n2_ n3_; clear hb hbox hg) | ((with_reducible refine gate_dst (N := 3) rfl ?_); (try (refine gate_guard (by rfl) ?_; dsimp only)); refine box_event ?hg (N := 3) ?hd (cs := #[.bool false, .slice none 0 0]) (t := 27) ?hr ?_; (case hd => rfl); (case hg => rfl); (case hr => first | (go_simp; done) | (go_simp; rfl)); intro gb717 hg w43 hbox hb; have n0_ := Aside0.mk (blk_below (g := gb716) (o := .cells #[.bool false, .slice none 0 0] 27 (0, 0)) (zk BK716.out) hb); have n1_ := Aside0.mk (below_step zb hb); have n2_ := Aside0.mk (hbox); have n3_ := Aside0.mk ((by rw [hg]; exact (below_size zb) : w.heap.size ≤ gb717)); have n4_ := Aside0.mk ((by rw [hg]; exact (below_size zb) : w.heap.size ≤ gb717)); have n5_ := Aside0.mk ((by rw [hg]; exact Nat.ne_of_lt (blk_lt (g := gb716) (o := .cells #[.bool false, .slice none 0 0] 27 (0, 0)) (zk BK716.out)) : gb716 ≠ gb717)); have n6_ := Aside0.mk ((by rw [hg]; exact Nat.ne_of_gt (blk_lt (g := gb716) (o := .cells #[.bool false, .slice none 0 0] 27 (0, 0)) (zk BK716.out)) : gb717 ≠ gb716)); clear BK716; clear HB; have BK716 := n0_; have HB := n1_; have BK717 := n2_; have GW717 := n3_; have GE717 := n4_; have NB716_717 := n5_; have NB717_716 := n6_; clear n0_ n1_ n2_ n3_ n4_ n5_ n6_; clear hb hbox hg) | ((with_reducible refine gate_callee (f := 63) rfl ?_); refine goesL_ (some 8) rfl rfl Try.func63 (by kernel_rfl) rfl #[.slice A0 l0.length c0] rfl za ?_; (with_reducible refine (spec_l1Open.calls _ _ l0 t718 t719 w _ ?side1 ?side2 ?side3 A2.out).mono ?_); (case side1 => repeat (first | (with_reducible first | exact HB.out | apply below_alloc | apply pw_below_drewN | apply below_drew1 | refine below_set ?_ GE716.out | refine below_set ?_ GE717.out) | exact HB.out)); (case side2 => exact HR0.out); (case side3 => exact HC0.out); rintro e w44 ⟨g720, rfl, hi, hb, hb2⟩; refine ⟨_, rfl, ?_⟩; have n0_ := Aside0.mk (blk_below (g := gb716) (o := .cells #[.bool false, .slice none 0 0] 27 (0, 0)) (zk BK716.out) hb2); have n1_ := Aside0.mk (blk_below (g := gb717) (o := .cells #[.bool false, .slice none 0 0] 27 (0, 0)) (zk BK717.out) hb2); have n2_ := Aside0.mk (hb); have n3_ := Aside0.mk (hi); have n4_ := Aside0.mk (IsS81.ne_blk hi (blk_below (g := gb716) (o := .cells #[.bool false, .slice none 0 0] 27 (0, 0)) (zk BK716.out) hb2) (by decide)); have n5_ := Aside0.mk (Ne.symm (IsS81.ne_blk hi (blk_below (g := gb716) (o := .cells #[.bool false, .slice none 0 0] 27 (0, 0)) (zk BK716.out) hb2) (by decide))); have n6_ := Aside0.mk (IsS81.ne_blk hi (blk_below (g := gb717) (o := .cells #[.bool false, .slice none 0 0] 27 (0, 0)) (zk BK717.out) hb2) (by decide)); have n7_ := Aside0.mk (Ne.symm (IsS81.ne_blk hi (blk_below (g := gb717) (o := .cells #[.bool false, .slice none 0 0] 27 (0, 0)) (zk BK717.out) hb2) (by decide))); clear BK716; clear BK717; clear HB; have BK716 := n0_; have BK717 := n1_; have HB := n2_; have HI720 := n3_; have NB720_716 := n4_; have NB716_720 := n5_; have NB720_717 := n6_; have NB717_720 := n7_; clear n0_ n1_ n2_ n3_ n4_ n5_ n6_ n7_; (try clear hb); (try clear hb2); (try clear hk); (try clear hi)) | ((with_reducible refine gate_callee (f := 80) rfl ?_); refine goesL_ (some 10) rfl rfl Try.func80 (by kernel_rfl) rfl #[.pointer (some ⟨g720, 0, none⟩)] rfl za ?_; (with_reducible refine (spec_l14AnyBig.calls k g720 t718 t719 false t722 t725 w _ ?side1 ?side2 A3.out).mono ?_); (case side1 => repeat (first | (with_reducible first | exact HI720.out | apply IsS81.alloc | apply IsS81.drewN | apply IsS81.drew | apply IsS81.set_1 | refine IsS81.far ?_ NB720_716.out _ | refine IsS81.far ?_ NB720_717.out _) | exact HI720.out)); (case side2 => repeat (first | (with_reducible first | exact HB.out | apply below_alloc | apply pw_below_drewN | apply below_drew1 | refine below_set ?_ (IsS81.ge HI720.out) | refine below_set ?_ GE716.out | refine below_set ?_ GE717.out) | exact HB.out)); rintro e w45 ⟨v723, rfl, ho0, hi, hb, hk⟩; refine ⟨_, rfl, ?_⟩; have n0_ := Aside0.mk (KeepBut.blk hk (g' := gb716) (o := .cells #[.bool false, .slice none 0 0] 27 (0, 0)) (zk BK716.out) NB716_720.out (by simp)); have n1_ := Aside0.mk (KeepBut.blk hk (g' := gb717) (o := .cells #[.bool false, .slice none 0 0] 27 (0, 0)) (zk BK717.out) NB717_720.out (by simp)); have n2_ := Aside0.mk (Kd.R_lower ho0 (below_size (by repeat (first | (with_reducible first | exact HB.out | apply below_alloc | apply pw_below_drewN | apply below_drew1 | refine below_set ?_ (IsS81.ge HI720.out) | refine below_set ?_ GE716.out | refine below_set ?_ GE717.out) | exact HB.out)))); have n3_ := Aside0.mk (hb); have n4_ := Aside0.mk (hi); clear BK716; clear BK717; clear HB; clear HI720; have BK716 := n0_; have BK717 := n1_; have HO724 := n2_; have HB := n3_; have HI720 := n4_; clear n0_ n1_ n2_ n3_ n4_; (try clear hb); (try clear hb2); (try clear hk); (try clear hi); (try clear ho0)) | ((with_reducible refine gate_dst (N := 5) rfl ?_); (try (refine gate_guard (by rfl) ?_; dsimp only)); refine box_event ?hg (N := 5) ?hd (cs := #[.bool false, .slice none 0 0]) (t := 27) ?hr ?_; (case hd => rfl); (case hg => rfl); (case hr => first | (go_simp; done) | (go_simp; rfl)); intro gb726 hg w46 hbox hb; have n0_ := Aside0.mk (Kd.R_below (zR HO724.out) hb); have n1_ := Aside0.mk (blk_below (g := gb716) (o := .cells #[.bool false, .slice none 0 0] 27 (0, 0)) (zk BK716.out) hb); have n2_ := Aside0.mk (blk_below (g := gb717) (o := .cells #[.bool false, .slice none 0 0] 27 (0, 0)) (zk BK717.out) hb); have n3_ := Aside0.mk (IsS81.below (by repeat (first | (with_reducible first | exact HI720.out | apply IsS81.alloc | apply IsS81.drewN | apply IsS81.drew | apply IsS81.set_1 | refine IsS81.far ?_ NB720_716.out _ | refine IsS81.far ?_ NB720_717.out _) | exact HI720.out)) hb); have n4_ := Aside0.mk (below_step (by repeat (first | (with_reducible first | exact HB.out | apply below_alloc | apply pw_below_drewN | apply below_drew1 | refine below_set ?_ (IsS81.ge HI720.out) | refine below_set ?_ GE716.out | refine below_set ?_ GE717.out) | exact HB.out)) hb); have n5_ := Aside0.mk (hbox); have n6_ := Aside0.mk ((by rw [hg]; exact (below_size (by repeat (first | (with_reducible first | exact HB.out | apply below_alloc | apply pw_below_drewN | apply below_drew1 | refine below_set ?_ (IsS81.ge HI720.out) | refine below_set ?_ GE716.out | refine below_set ?_ GE717.out) | exact HB.out))) : w.heap.size ≤ gb726)); have n7_ := Aside0.mk ((by rw [hg]; exact (below_size (by repeat (first | (with_reducible first | exact HB.out | apply below_alloc | apply pw_below_drewN | apply below_drew1 | refine below_set ?_ (IsS81.ge HI720.out) | refine below_set ?_ GE716.out | refine below_set ?_ GE717.out) | exact HB.out))) : w.heap.size ≤ gb726)); have n8_ := Aside0.mk ((by rw [hg]; exact Nat.ne_of_lt (blk_lt (g := gb716) (o := .cells #[.bool false, .slice none 0 0] 27 (0, 0)) (zk BK716.out)) : gb716 ≠ gb726)); have n9_ := Aside0.mk ((by rw [hg]; exact Nat.ne_of_gt (blk_lt (g := gb716) (o := .cells #[.bool false, .slice none 0 0] 27 (0, 0)) (zk BK716.out)) : gb726 ≠ gb716)); have n10_ := Aside0.mk ((by rw [hg]; exact Nat.ne_of_lt (blk_lt (g := gb717) (o := .cells #[.bool false, .slice none 0 0] 27 (0, 0)) (zk BK717.out)) : gb717 ≠ gb726)); have n11_ := Aside0.mk ((by rw [hg]; exact Nat.ne_of_gt (blk_lt (g := gb717) (o := .cells #[.bool false, .slice none 0 0] 27 (0, 0)) (zk BK717.out)) : gb726 ≠ gb717)); have n12_ := Aside0.mk ((by rw [hg]; exact Nat.ne_of_lt (IsS81.lt (show IsS81 w _ g720 t718 t725 from by repeat (first | (with_reducible first | exact HI720.out | apply IsS81.alloc | apply IsS81.drewN | apply IsS81.drew | apply IsS81.set_1 | refine IsS81.far ?_ NB720_716.out _ | refine IsS81.far ?_ NB720_717.out _) | exact HI720.out))) : g720 ≠ gb726)); have n13_ := Aside0.mk ((by rw [hg]; exact Nat.ne_of_gt (IsS81.lt (show IsS81 w _ g720 t718 t725 from by repeat (first | (with_reducible first | exact HI720.out | apply IsS81.alloc | apply IsS81.drewN | apply IsS81.drew | apply IsS81.set_1 | refine IsS81.far ?_ NB720_716.out _ | refine IsS81.far ?_ NB720_717.out _) | exact HI720.out))) : gb726 ≠ g720)); clear HO724; clear BK716; clear BK717; clear HI720; clear HB; have HO724 := n0_; have BK716 := n1_; have BK717 := n2_; have HI720 := n3_; have HB := n4_; have BK726 := n5_; have GW726 := n6_; have GE726 := n7_; have NB716_726 := n8_; have NB726_716 := n9_; have NB717_726 := n10_; have NB726_717 := n11_; have NB720_726 := n12_; have NB726_720 := n13_; clear n0_ n1_ n2_ n3_ n4_ n5_ n6_ n7_ n8_ n9_ n10_ n11_ n12_ n13_; clear hb hbox hg; have hnb47 := NB726_716.out; have hnc47 := NB716_726.out; have hnb48 := NB726_717.out; have hnc48 := NB717_726.out; have hnb49 := NB726_720.out; have hnc49 := NB720_726.out; have hcz50_0 : w46.cell? ⟨gb726, 0, none⟩ = some (.bool false) := (blk_cell BK726.out 0).trans rfl; have hcz50_1 : w46.cell? ⟨gb726, 1, none⟩ = some (.slice none 0 0) := (blk_cell BK726.out 1).trans rfl; have hfz50_0 := blk_frozen BK726.out 0; have hfz50_1 := blk_frozen BK726.out 1; obtain ⟨Ao51, co51, eo51⟩ := Kd.R_slice HO724.out; subst eo51) | ((with_reducible refine gate_callee (f := 80) rfl ?_); refine goesL_ (some 12) rfl rfl Try.func80 (by kernel_rfl) rfl #[.pointer (some ⟨g720, 0, none⟩)] rfl za ?_; (with_reducible refine (spec_l14AnyBig.calls k g720 t718 t725 t727 t728 t731 w _ ?side1 ?side2 A4.out).mono ?_); (case side1 => repeat (first | (with_reducible first | exact HI720.out | apply IsS81.alloc | apply IsS81.drewN | apply IsS81.drew | apply IsS81.set_1 | refine IsS81.far ?_ NB720_716.out _ | refine IsS81.far ?_ NB720_717.out _ | refine IsS81.far ?_ NB720_726.out _) | exact HI720.out)); (case side2 => repeat (first | (with_reducible first | exact HB.out | apply below_alloc | apply pw_below_drewN | apply below_drew1 | refine below_set ?_ (IsS81.ge HI720.out) | refine below_set ?_ GE716.out | refine below_set ?_ GE717.out | refine below_set ?_ GE726.out) | exact HB.out)); rintro e w52 ⟨v729, rfl, ho0, hi, hb, hk⟩; refine ⟨_, rfl, ?_⟩; have n0_ := Aside0.mk (KeepBut.blk hk (g' := gb716) (o := .cells #[.bool false, .slice none 0 0] 27 (0, 0)) (zk BK716.out) NB716_720.out (by simp)); have n1_ := Aside0.mk (KeepBut.blk hk (g' := gb717) (o := .cells #[.bool false, .slice none 0 0] 27 (0, 0)) (zk BK717.out) NB717_720.out (by simp)); have n2_ := Aside0.mk (Kd.R_mono (Kd.R_told (Kd.R_oldK (IsS81.apart (show IsS81 w _ g720 t718 t725 from by repeat (first | (with_reducible first | exact HI720.out | apply IsS81.alloc | apply IsS81.drewN | apply IsS81.drew | apply IsS81.set_1 | refine IsS81.far ?_ NB720_716.out _ | refine IsS81.far ?_ NB720_717.out _ | refine IsS81.far ?_ NB720_726.out _) | exact HI720.out)) (by (with_reducible repeat (first | apply Kd.R_alloc | apply Kd.R_drewN | apply Kd.R_drew)); exact (Kd.R_mono (Kd.R_far (p := ⟨gb726, 1, none⟩) (Kd.R_far (p := ⟨gb726, 0, none⟩) (Kd.R_types HO724.out BK726.out (by decide)) (fun _ hk => hk.2) (.bool false)) (fun _ hk => hk.2) (.slice Ao51 t722.length co51)) (fun _ h_ => h_.1))) (by decide)) hk) (Kd.R_base ho0)) (fun _ h_ => h_.1)); have n3_ := Aside0.mk (KeepBut.blk hk (g' := gb726) (o := .cells #[.bool false, .slice Ao51 t722.length co51] 27 (0, 0)) (by (with_reducible repeat (first | refine blk_drewN ?_ _ | refine blk_drew ?_ | refine blk_alloc ?_ _)); refine blk_put (cs := #[.bool false, .slice none 0 0]) ?_ 1 _ rfl; (with_reducible repeat (first | refine blk_drewN ?_ _ | refine blk_drew ?_ | refine blk_alloc ?_ _)); refine blk_put (cs := #[.bool false, .slice none 0 0]) ?_ 0 _ rfl; (with_reducible repeat (first | refine blk_drewN ?_ _ | refine blk_drew ?_ | refine blk_alloc ?_ _)); exact BK726.out) NB726_720.out (by simp)); have n4_ := Aside0.mk (Kd.R_lower (Kd.R_new' ho0 (Kd.R_lt (by (with_reducible repeat (first | apply Kd.R_alloc | apply Kd.R_drewN | apply Kd.R_drew)); exact (Kd.R_mono (Kd.R_far (p := ⟨gb726, 1, none⟩) (Kd.R_far (p := ⟨gb726, 0, none⟩) (Kd.R_types HO724.out BK726.out (by decide)) (fun _ hk => hk.2) (.bool false)) (fun _ hk => hk.2) (.slice Ao51 t722.length co51)) (fun _ h_ => h_.1))))) (below_size (by repeat (first | (with_reducible first | exact HB.out | apply below_alloc | apply pw_below_drewN | apply below_drew1 | refine below_set ?_ (IsS81.ge HI720.out) | refine below_set ?_ GE716.out | refine below_set ?_ GE717.out | refine below_set ?_ GE726.out) | exact HB.out)))); have n5_ := Aside0.mk (hb); have n6_ := Aside0.mk (hi); clear BK716; clear BK717; clear HO724; clear BK726; clear HB; clear HI720; have BK716 := n0_; have BK717 := n1_; have HO724 := n2_; have BK726 := n3_; have HO730 := n4_; have HB := n5_; have HI720 := n6_; clear n0_ n1_ n2_ n3_ n4_ n5_ n6_; (try clear hb); (try clear hb2); (try clear hk); (try clear hi); (try clear ho0)) | ((with_reducible refine gate_dst (N := 6) rfl ?_); (try (refine gate_guard (by rfl) ?_; dsimp only)); refine box_event ?hg (N := 6) ?hd (cs := #[.bool false, .slice none 0 0]) (t := 27) ?hr ?_; (case hd => rfl); (case hg => rfl); (case hr => first | (go_simp; done) | (go_simp; rfl)); intro gb732 hg w53 hbox hb; have n0_ := Aside0.mk (Kd.R_below (zR HO724.out) hb); have n1_ := Aside0.mk (Kd.R_below (zR HO730.out) hb); have n2_ := Aside0.mk (blk_below (g := gb716) (o := .cells #[.bool false, .slice none 0 0] 27 (0, 0)) (zk BK716.out) hb); have n3_ := Aside0.mk (blk_below (g := gb717) (o := .cells #[.bool false, .slice none 0 0] 27 (0, 0)) (zk BK717.out) hb); have n4_ := Aside0.mk (IsS81.below (by repeat (first | (with_reducible first | exact HI720.out | apply IsS81.alloc | apply IsS81.drewN | apply IsS81.drew | apply IsS81.set_1 | refine IsS81.far ?_ NB720_716.out _ | refine IsS81.far ?_ NB720_717.out _ | refine IsS81.far ?_ NB720_726.out _) | exact HI720.out)) hb); have n5_ := Aside0.mk (blk_below (g := gb726) (o := .cells #[.bool false, .slice Ao51 t722.length co51] 27 (0, 0)) (zk BK726.out) hb); have n6_ := Aside0.mk (below_step (by repeat (first | (with_reducible first | exact HB.out | apply below_alloc | apply pw_below_drewN | apply below_drew1 | refine below_set ?_ (IsS81.ge HI720.out) | refine below_set ?_ GE716.out | refine below_set ?_ GE717.out | refine below_set ?_ GE726.out) | exact HB.out)) hb); have n7_ := Aside0.mk (hbox); have n8_ := Aside0.mk ((by rw [hg]; exact (below_size (by repeat (first | (with_reducible first | exact HB.out | apply below_alloc | apply pw_below_drewN | apply below_drew1 | refine below_set ?_ (IsS81.ge HI720.out) | refine below_set ?_ GE716.out | refine below_set ?_ GE717.out | refine below_set ?_ GE726.out) | exact HB.out))) : w.heap.size ≤ gb732)); have n9_ := Aside0.mk ((by rw [hg]; exact (below_size (by repeat (first | (with_reducible first | exact HB.out | apply below_alloc | apply pw_below_drewN | apply below_drew1 | refine below_set ?_ (IsS81.ge HI720.out) | refine below_set ?_ GE716.out | refine below_set ?_ GE717.out | refine below_set ?_ GE726.out) | exact HB.out))) : w.heap.size ≤ gb732)); have n10_ := Aside0.mk ((by rw [hg]; exact Nat.ne_of_lt (blk_lt (g := gb716) (o := .cells #[.bool false, .slice none 0 0] 27 (0, 0)) (zk BK716.out)) : gb716 ≠ gb732)); have n11_ := Aside0.mk ((by rw [hg]; exact Nat.ne_of_gt (blk_lt (g := gb716) (o := .cells #[.bool false, .slice none 0 0] 27 (0, 0)) (zk BK716.out)) : gb732 ≠ gb716)); have n12_ := Aside0.mk ((by rw [hg]; exact Nat.ne_of_lt (blk_lt (g := gb717) (o := .cells #[.bool false, .slice none 0 0] 27 (0, 0)) (zk BK717.out)) : gb717 ≠ gb732)); have n13_ := Aside0.mk ((by rw [hg]; exact Nat.ne_of_gt (blk_lt (g := gb717) (o := .cells #[.bool false, .slice none 0 0] 27 (0, 0)) (zk BK717.out)) : gb732 ≠ gb717)); have n14_ := Aside0.mk ((by rw [hg]; exact Nat.ne_of_lt (blk_lt (g := gb726) (o := .cells #[.bool false, .slice Ao51 t722.length co51] 27 (0, 0)) (zk BK726.out)) : gb726 ≠ gb732)); have n15_ := Aside0.mk ((by rw [hg]; exact Nat.ne_of_gt (blk_lt (g := gb726) (o := .cells #[.bool false, .slice Ao51 t722.length co51] 27 (0, 0)) (zk BK726.out)) : gb732 ≠ gb726)); have n16_ := Aside0.mk ((by rw [hg]; exact Nat.ne_of_lt (IsS81.lt (show IsS81 w _ g720 t718 t731 from by repeat (first | (with_reducible first | exact HI720.out | apply IsS81.alloc | apply IsS81.drewN | apply IsS81.drew | apply IsS81.set_1 | refine IsS81.far ?_ NB720_716.out _ | refine IsS81.far ?_ NB720_717.out _ | refine IsS81.far ?_ NB720_726.out _) | exact HI720.out))) : g720 ≠ gb732)); have n17_ := Aside0.mk ((by rw [hg]; exact Nat.ne_of_gt (IsS81.lt (show IsS81 w _ g720 t718 t731 from by repeat (first | (with_reducible first | exact HI720.out | apply IsS81.alloc | apply IsS81.drewN | apply IsS81.drew | apply IsS81.set_1 | refine IsS81.far ?_ NB720_716.out _ | refine IsS81.far ?_ NB720_717.out _ | refine IsS81.far ?_ NB720_726.out _) | exact HI720.out))) : gb732 ≠ g720)); clear HO724; clear HO730; clear BK716; clear BK717; clear HI720; clear BK726; clear HB; have HO724 := n0_; have HO730 := n1_; have BK716 := n2_; have BK717 := n3_; have HI720 := n4_; have BK726 := n5_; have HB := n6_; have BK732 := n7_; have GW732 := n8_; have GE732 := n9_; have NB716_732 := n10_; have NB732_716 := n11_; have NB717_732 := n12_; have NB732_717 := n13_; have NB726_732 := n14_; have NB732_726 := n15_; have NB720_732 := n16_; have NB732_720 := n17_; clear n0_ n1_ n2_ n3_ n4_ n5_ n6_ n7_ n8_ n9_ n10_ n11_ n12_ n13_ n14_ n15_ n16_ n17_; clear hb hbox hg; have hnb54 := NB732_716.out; have hnc54 := NB716_732.out; have hnb55 := NB732_717.out; have hnc55 := NB717_732.out; have hnb56 := NB732_726.out; have hnc56 := NB726_732.out; have hnb57 := NB732_720.out; have hnc57 := NB720_732.out; have hcz58_0 : w53.cell? ⟨gb732, 0, none⟩ = some (.bool false) := (blk_cell BK732.out 0).trans rfl; have hcz58_1 : w53.cell? ⟨gb732, 1, none⟩ = some (.slice none 0 0) := (blk_cell BK732.out 1).trans rfl; have hfz58_0 := blk_frozen BK732.out 0; have hfz58_1 := blk_frozen BK732.out 1; obtain ⟨Ao59, co59, eo59⟩ := Kd.R_slice HO730.out; subst eo59) | ((with_reducible refine gate_callee (f := 64) rfl ?_); refine goesL_ (some 14) rfl rfl Try.func64 (by kernel_rfl) rfl #[.pointer (some ⟨g720, 0, none⟩), .int .i64 6] rfl za ?_; (with_reducible refine (spec_l1Rd_pick.calls k g720 t718 t731 6 t733 t734 w _ ?side1 ?side2 A5.out).mono ?_); (case side1 => repeat (first | (with_reducible first | exact HI720.out | apply IsS81.alloc | apply IsS81.drewN | apply IsS81.drew | apply IsS81.set_1 | refine IsS81.far ?_ NB720_716.out _ | refine IsS81.far ?_ NB720_717.out _ | refine IsS81.far ?_ NB720_726.out _ | refine IsS81.far ?_ NB720_732.out _) | exact HI720.out)); (case side2 => repeat (first | (with_reducible first | exact HB.out | apply below_alloc | apply pw_below_drewN | apply below_drew1 | refine below_set ?_ (IsS81.ge HI720.out) | refine below_set ?_ GE716.out | refine below_set ?_ GE717.out | refine below_set ?_ GE726.out | refine below_set ?_ GE732.out) | exact HB.out)); rintro e w60 ⟨rfl, hi, hb, hk⟩; refine ⟨_, rfl, ?_⟩; have n0_ := Aside0.mk (KeepBut.blk hk (g' := gb716) (o := .cells #[.bool false, .slice none 0 0] 27 (0, 0)) (zk BK716.out) NB716_720.out (by simp)); have n1_ := Aside0.mk (KeepBut.blk hk (g' := gb717) (o := .cells #[.bool false, .slice none 0 0] 27 (0, 0)) (zk BK717.out) NB717_720.out (by simp)); have n2_ := Aside0.mk (Kd.R_mono (Kd.R_keep (IsS81.apart (show IsS81 w _ g720 t718 t731 from by repeat (first | (with_reducible first | exact HI720.out | apply IsS81.alloc | apply IsS81.drewN | apply IsS81.drew | apply IsS81.set_1 | refine IsS81.far ?_ NB720_716.out _ | refine IsS81.far ?_ NB720_717.out _ | refine IsS81.far ?_ NB720_726.out _ | refine IsS81.far ?_ NB720_732.out _) | exact HI720.out)) (by (with_reducible repeat (first | apply Kd.R_alloc | apply Kd.R_drewN | apply Kd.R_drew)); exact (Kd.R_mono (Kd.R_far (p := ⟨gb732, 1, none⟩) (Kd.R_far (p := ⟨gb732, 0, none⟩) (Kd.R_types HO724.out BK732.out (by decide)) (fun _ hk => hk.2) (.bool t727)) (fun _ hk => hk.2) (.slice Ao59 t728.length co59)) (fun _ h_ => h_.1))) (by decide)) hk (fun _ h => h.2)) (fun _ h => h.1)); have n3_ := Aside0.mk (KeepBut.blk hk (g' := gb726) (o := .cells #[.bool false, .slice Ao51 t722.length co51] 27 (0, 0)) (zk BK726.out) NB726_720.out (by simp)); have n4_ := Aside0.mk (Kd.R_mono (Kd.R_keep (IsS81.apart (show IsS81 w _ g720 t718 t731 from by repeat (first | (with_reducible first | exact HI720.out | apply IsS81.alloc | apply IsS81.drewN | apply IsS81.drew | apply IsS81.set_1 | refine IsS81.far ?_ NB720_716.out _ | refine IsS81.far ?_ NB720_717.out _ | refine IsS81.far ?_ NB720_726.out _ | refine IsS81.far ?_ NB720_732.out _) | exact HI720.out)) (by (with_reducible repeat (first | apply Kd.R_alloc | apply Kd.R_drewN | apply Kd.R_drew)); exact (Kd.R_mono (Kd.R_far (p := ⟨gb732, 1, none⟩) (Kd.R_far (p := ⟨gb732, 0, none⟩) (Kd.R_types HO730.out BK732.out (by decide)) (fun _ hk => hk.2) (.bool t727)) (fun _ hk => hk.2) (.slice Ao59 t728.length co59)) (fun _ h_ => h_.1))) (by decide)) hk (fun _ h => h.2)) (fun _ h => h.1)); have n5_ := Aside0.mk (KeepBut.blk hk (g' := gb732) (o := .cells #[.bool t727, .slice Ao59 t728.length co59] 27 (0, 0)) (by (with_reducible repeat (first | refine blk_drewN ?_ _ | refine blk_drew ?_ | refine blk_alloc ?_ _)); refine blk_put (cs := #[.bool t727, .slice none 0 0]) ?_ 1 _ rfl; (with_reducible repeat (first | refine blk_drewN ?_ _ | refine blk_drew ?_ | refine blk_alloc ?_ _)); refine blk_put (cs := #[.bool false, .slice none 0 0]) ?_ 0 _ rfl; (with_reducible repeat (first | refine blk_drewN ?_ _ | refine blk_drew ?_ | refine blk_alloc ?_ _)); exact BK732.out) NB732_720.out (by simp)); have n6_ := Aside0.mk (hb); have n7_ := Aside0.mk (hi); clear BK716; clear BK717; clear HO724; clear BK726; clear HO730; clear BK732; clear HB; clear HI720; have BK716 := n0_; have BK717 := n1_; have HO724 := n2_; have BK726 := n3_; have HO730 := n4_; have BK732 := n5_; have HB := n6_; have HI720 := n7_; clear n0_ n1_ n2_ n3_ n4_ n5_ n6_ n7_; (try clear hb); (try clear hb2); (try clear hk); (try clear hi)))
        have n0_ := Aside0.mk (Kd.R_drew HO724.out)
        have n1_ := Aside0.mk (Kd.R_drew HO730.out)
        have n2_ := Aside0.mk (blk_drew BK716.out)
        have n3_ := Aside0.mk (blk_drew BK717.out)
        have n4_ := Aside0.mk (blk_drew BK726.out)
        have n5_ := Aside0.mk (blk_drew BK732.out)
        have n6_ := Aside0.mk (IsS81.drew HI720.out)
        have n7_ := Aside0.mk (below_drew1 HB.out)
        clear HO724
        clear HO730
        clear BK716
        clear BK717
        clear BK726
        clear BK732
        clear HI720
        clear HB
        have HO724 := n0_
        have HO730 := n1_
        have BK716 := n2_
        have BK717 := n3_
        have BK726 := n4_
        have BK732 := n5_
        have HI720 := n6_
        have HB := n7_
        clear n0_ n1_ n2_ n3_ n4_ n5_ n6_ n7_
        refine start_ (n := 15) (S := fun w' => w'.cell? ⟨gb726, 0, none⟩ = some (.bool false) ∧ w'.cell? ⟨gb726, 1, none⟩ = some (.slice Ao51 t722.length co51)) (ds := []) #[false, false, false, false, false, false, false, false, false, false, false, false, false, false, false] (by kernel_rfl) rfl rfl ⟨(blk_cell BK726.out 0).trans rfl, (blk_cell BK726.out 1).trans rfl⟩ (fun hHeld => ?_); refine with_tabW spec_l14TwoBigs.tab5 spec_l14TwoBigs.bits5 (fun HT_ HW_ => ?_)
        generalize w60.drew = w61 at HO724 HO730 BK716 BK717 BK726 BK732 HI720 HB hHeld ⊢
        refine pure_ (i := 0) (N := some 16) (v := ?_) (a' := ?_) #[true, false, false, false, false, false, false, false, false, false, false, false, false, false, false] rfl rfl (any_of HT_.out (by kernel_rfl)) (fun _ _ _ h => h) (Or.inl ⟨by rfl, ?_⟩) ?_ ?_
        rotate_left
        · intro w'
          go_simp
          with_reducible rfl
        rotate_left
        · simp only [Act.put, List.setIfInBounds_toArray, List.set_cons_zero, List.set_cons_succ, i64_w, i32_w]
          rfl
        refine pure_ (i := 10) (N := some 26) (v := ?_) (a' := ?_) #[true, false, false, false, false, false, false, false, false, false, true, false, false, false, false] rfl rfl (any_of HT_.out (by kernel_rfl)) (fun _ _ _ h => h) (Or.inl ⟨by rfl, ?_⟩) ?_ ?_
        rotate_left
        · intro w'
          go_simp
          with_reducible rfl
        rotate_left
        · simp only [Act.put, List.setIfInBounds_toArray, List.set_cons_zero, List.set_cons_succ, i64_w, i32_w]
          rfl
        refine take_ (i := 1) (N := some 17) (v := ?_) (a' := ?_) #[true, true, false, false, false, false, false, false, false, false, true, false, false, false, false] rfl rfl (take_ofW HT_.out HW_.out (by kernel_rfl)) (fun _ _ _ h => h) (Or.inl ⟨by rfl, ?_⟩) hHeld ?_ ?_
        rotate_left
        · rintro w' ⟨s0, s1⟩
          go_simp
          with_reducible rfl
        rotate_left
        · simp only [Act.put, List.setIfInBounds_toArray, List.set_cons_zero, List.set_cons_succ, i64_w, i32_w]
          rfl
        refine pure_ (i := 2) (N := some 18) (v := ?_) (a' := ?_) #[true, true, true, false, false, false, false, false, false, false, true, false, false, false, false] rfl rfl (any_of HT_.out (by kernel_rfl)) (fun _ _ _ h => h) (Or.inl ⟨by rfl, ?_⟩) ?_ ?_
        rotate_left
        · intro w'
          go_simp
          with_reducible rfl
        rotate_left
        · simp only [Act.put, List.setIfInBounds_toArray, List.set_cons_zero, List.set_cons_succ, i64_w, i32_w]
          rfl
        refine pure_ (i := 3) (N := some 19) (v := ?_) (a' := ?_) #[true, true, true, true, false, false, false, false, false, false, true, false, false, false, false] rfl rfl (any_of HT_.out (by kernel_rfl)) (fun _ _ _ h => h) (Or.inl ⟨by rfl, ?_⟩) ?_ ?_
        rotate_left
        · intro w'
          go_simp
          with_reducible rfl
        rotate_left
        · simp only [Act.put, List.setIfInBounds_toArray, List.set_cons_zero, List.set_cons_succ, i64_w, i32_w]
          rfl
        refine pure_ (i := 4) (N := some 20) (v := ?_) (a' := ?_) #[true, true, true, true, true, false, false, false, false, false, true, false, false, false, false] rfl rfl (any_of HT_.out (by kernel_rfl)) (fun _ _ _ h => h) (Or.inl ⟨by rfl, ?_⟩) ?_ ?_
        rotate_left
        · intro w'
          go_simp
          with_reducible rfl
        rotate_left
        · simp only [Act.put, List.setIfInBounds_toArray, List.set_cons_zero, List.set_cons_succ, i64_w, i32_w]
          rfl
        refine take_ (i := 5) (N := some 21) (v := ?_) (a' := ?_) #[true, true, true, true, true, true, false, false, false, false, true, false, false, false, false] rfl rfl (take_ofW HT_.out HW_.out (by kernel_rfl)) (fun _ _ _ h => h) (Or.inl ⟨by rfl, ?_⟩) hHeld ?_ ?_
        rotate_left
        · rintro w' ⟨s0, s1⟩
          go_simp
          with_reducible rfl
        rotate_left
        · simp only [Act.put, List.setIfInBounds_toArray, List.set_cons_zero, List.set_cons_succ, i64_w, i32_w]
          rfl
        refine pure_ (i := 6) (N := some 22) (v := ?_) (a' := ?_) #[true, true, true, true, true, true, true, false, false, false, true, false, false, false, false] rfl rfl (any_of HT_.out (by kernel_rfl)) (fun _ _ _ h => h) (Or.inl ⟨by rfl, ?_⟩) ?_ ?_
        rotate_left
        · intro w'
          go_simp
          with_reducible rfl
        rotate_left
        · simp only [Act.put, List.setIfInBounds_toArray, List.set_cons_zero, List.set_cons_succ, i64_w, i32_w]
          rfl
        refine pure_ (i := 7) (N := some 23) (v := ?_) (a' := ?_) #[true, true, true, true, true, true, true, true, false, false, true, false, false, false, false] rfl rfl (any_of HT_.out (by kernel_rfl)) (fun _ _ _ h => h) (Or.inl ⟨by rfl, ?_⟩) ?_ ?_
        rotate_left
        · intro w'
          go_simp
          with_reducible rfl
        rotate_left
        · simp only [Act.put, List.setIfInBounds_toArray, List.set_cons_zero, List.set_cons_succ, i64_w, i32_w]
          rfl
        refine pure_ (i := 8) (N := some 24) (v := ?_) (a' := ?_) #[true, true, true, true, true, true, true, true, true, false, true, false, false, false, false] rfl rfl (any_of HT_.out (by kernel_rfl)) (fun _ _ _ h => h) (Or.inl ⟨by rfl, ?_⟩) ?_ ?_
        rotate_left
        · intro w'
          go_simp
          with_reducible rfl
        rotate_left
        · simp only [Act.put, List.setIfInBounds_toArray, List.set_cons_zero, List.set_cons_succ, i64_w, i32_w]
          rfl
        refine take_ (i := 11) (N := some 27) (v := ?_) (a' := ?_) #[true, true, true, true, true, true, true, true, true, false, true, true, false, false, false] rfl rfl (take_ofW HT_.out HW_.out (by kernel_rfl)) (fun _ _ _ h => h) (Or.inl ⟨by rfl, ?_⟩) hHeld ?_ ?_
        rotate_left
        · rintro w' ⟨s0, s1⟩
          go_simp
          with_reducible rfl
        rotate_left
        · simp only [Act.put, List.setIfInBounds_toArray, List.set_cons_zero, List.set_cons_succ, i64_w, i32_w]
          rfl
        refine one_ (i := 9) (N := some 25) #[true, true, true, true, true, true, true, true, true, true, true, true, false, false, false] rfl rfl (one_of HT_.out (by kernel_rfl)) (by decide) (fun K hK => ?_)
        refine Kd.R_lit_step (Kd.int .i64) _ 3 ?hg (N := 25) ?hd (xs := ([] : List Int)) (inner := []) (ok := fun _ => True) (okp := fun _ => True) ?hr ?hp (fun _ hk => hk) trivial (Below.refl _ _) (Nat.le_refl _) (by simp) ?_; (case hd => rfl); (case hg => rfl); (case hr => first | (go_simp; done) | (go_simp; rfl)); (case hp => exact (Reps.none _ _))
        intro v742 w62 ho63 hb hg_ hnew_
        clear hg_ hnew_
        (first | rw [← Ny741.out] at ho63 | (simp only [Int.reduceToNat] at ho63; rw [← Ny741.out] at ho63))
        have n0_ := Aside0.mk (Kd.R_elder' (zR HO724.out) (Kd.R_base ho63) hb)
        have n1_ := Aside0.mk (Kd.R_elder' (zR HO730.out) (Kd.R_base ho63) hb)
        have n2_ := Aside0.mk (Kd.R_lower (Kd.R_new' (Kd.R_new' ho63 (Kd.R_lt (zR HO724.out))) (Kd.R_lt (zR HO730.out))) (below_size (by repeat (first | (with_reducible first | exact HB.out | apply below_alloc | apply pw_below_drewN | apply below_drew1 | refine below_set ?_ (IsS81.ge HI720.out) | refine below_set ?_ GE716.out | refine below_set ?_ GE717.out | refine below_set ?_ GE726.out | refine below_set ?_ GE732.out) | exact HB.out))))
        have n3_ := Aside0.mk (blk_below (g := gb716) (o := .cells #[.bool false, .slice none 0 0] 27 (0, 0)) (zk BK716.out) hb)
        have n4_ := Aside0.mk (blk_below (g := gb717) (o := .cells #[.bool false, .slice none 0 0] 27 (0, 0)) (zk BK717.out) hb)
        have n5_ := Aside0.mk (IsS81.below (by repeat (first | (with_reducible first | exact HI720.out | apply IsS81.alloc | apply IsS81.drewN | apply IsS81.drew | apply IsS81.set_1 | refine IsS81.far ?_ NB720_716.out _ | refine IsS81.far ?_ NB720_717.out _ | refine IsS81.far ?_ NB720_726.out _ | refine IsS81.far ?_ NB720_732.out _) | exact HI720.out)) hb)
        have n6_ := Aside0.mk (blk_below (g := gb726) (o := .cells #[.bool false, .slice Ao51 t722.length co51] 27 (0, 0)) (zk BK726.out) hb)
        have n7_ := Aside0.mk (blk_below (g := gb732) (o := .cells #[.bool t727, .slice Ao59 t728.length co59] 27 (0, 0)) (zk BK732.out) hb)
        have n8_ := Aside0.mk (below_step (by repeat (first | (with_reducible first | exact HB.out | apply below_alloc | apply pw_below_drewN | apply below_drew1 | refine below_set ?_ (IsS81.ge HI720.out) | refine below_set ?_ GE716.out | refine below_set ?_ GE717.out | refine below_set ?_ GE726.out | refine below_set ?_ GE732.out) | exact HB.out)) hb)
        clear HO724
        clear HO730
        clear BK716
        clear BK717
        clear HI720
        clear BK726
        clear BK732
        clear HB
        have HO724 := n0_
        have HO730 := n1_
        have HO743 := n2_
        have BK716 := n3_
        have BK717 := n4_
        have HI720 := n5_
        have BK726 := n6_
        have BK732 := n7_
        have HB := n8_
        clear n0_ n1_ n2_ n3_ n4_ n5_ n6_ n7_ n8_
        clear hb ho63
        refine hK.out _ _ ⟨(blk_cell BK726.out 0).trans rfl, (blk_cell BK726.out 1).trans rfl⟩ (fun hHeld => ?_)
        clear hK K
        refine norm_ (a' := ?_) ?_ ?_
        rotate_left
        · show Act.put _ (some 25) _ = _
          simp only [Act.put, List.setIfInBounds_toArray, List.set_cons_zero, List.set_cons_succ, i64_w, i32_w]
          rfl
        refine one_ (i := 12) (N := some 28) #[true, true, true, true, true, true, true, true, true, true, true, true, true, false, false] rfl rfl (one_of HT_.out (by kernel_rfl)) (by decide) (fun K hK => ?_)
        refine Kd.R_append_rows_step (Kd.int .i64) (w0 := w) w.heap.size (by rfl) (.tmp 25) (.tmp 27) 22 3 (.int .i64 0) 8 rfl Try.underlying22 info3 rfl (by decide) (by omega) v742 y741 t722 _ _ _ (fun k_ => some k_ ≠ (.slice Ao51 t722.length co51 : Value).ownBlock ∧ some k_ ≠ (.slice Ao59 t728.length co59 : Value).ownBlock) (fun _ => False) rfl rfl ?aO ?aR (fun _ _ h => h) (fun _ h => h.elim) ?aF ?aB ?aS ?aL ?_
        (case aR => repeat (first | exact (Kd.R_reads' HO724.out).2.2 | (with_reducible refine Kd.C_alloc ?_ _) | (with_reducible refine Kd.C_drewN ?_ _) | (with_reducible refine Kd.C_drew ?_)))
        (case aB => exact (by repeat (first | (with_reducible first | exact HB.out | apply below_alloc | apply pw_below_drewN | apply below_drew1 | refine below_set ?_ (IsS81.ge HI720.out) | refine below_set ?_ GE716.out | refine below_set ?_ GE717.out | refine below_set ?_ GE726.out | refine below_set ?_ GE732.out) | exact HB.out)))
        (case aF => exact (fun k_ hk => ⟨Kd.fresh' (Kd.R_lt (zR HO724.out)) k_ hk, Kd.fresh' (Kd.R_lt (zR HO730.out)) k_ hk⟩))
        (case aO => exact (by (with_reducible repeat (first | apply Kd.R_alloc | apply Kd.R_drewN | apply Kd.R_drew)); exact Kd.R_mono HO743.out (fun _ hk => ⟨hk.1.2, hk.2⟩)))
        (case aS => exact (below_size (by repeat (first | (with_reducible first | exact HB.out | apply below_alloc | apply pw_below_drewN | apply below_drew1 | refine below_set ?_ (IsS81.ge HI720.out) | refine below_set ?_ GE716.out | refine below_set ?_ GE717.out | refine below_set ?_ GE726.out | refine below_set ?_ GE732.out) | exact HB.out))))
        (case aL => have := LMc41.out; omega)
        intro v745 w64 ho hb hg hat
        rw [← Ny744.out] at ho
        have n0_ := Aside0.mk (blk_grown (g := gb716) (o := .cells #[.bool false, .slice none 0 0] 27 (0, 0)) (zk BK716.out) hg (Kd.R_ne HO743.out BK716.out (by decide)))
        have n1_ := Aside0.mk (blk_grown (g := gb717) (o := .cells #[.bool false, .slice none 0 0] 27 (0, 0)) (zk BK717.out) hg (Kd.R_ne HO743.out BK717.out (by decide)))
        have n2_ := Aside0.mk (IsS81.grown (by repeat (first | (with_reducible first | exact HI720.out | apply IsS81.alloc | apply IsS81.drewN | apply IsS81.drew | apply IsS81.set_1 | refine IsS81.far ?_ NB720_716.out _ | refine IsS81.far ?_ NB720_717.out _ | refine IsS81.far ?_ NB720_726.out _ | refine IsS81.far ?_ NB720_732.out _) | exact HI720.out)) hg (IsS81.own_ne HI720.out HO743.out (by decide)))
        have n3_ := Aside0.mk (Kd.R_after (ok := (fun k_ => some k_ ≠ (.slice Ao59 t728.length co59 : Value).ownBlock)) (by (with_reducible repeat (first | apply Kd.R_alloc | apply Kd.R_drewN | apply Kd.R_drew)); exact Kd.R_mono HO724.out (fun _ hk => ⟨hk.1.2, hk.2⟩)) hg hat)
        have n4_ := Aside0.mk (blk_grown (g := gb726) (o := .cells #[.bool false, .slice Ao51 t722.length co51] 27 (0, 0)) (zk BK726.out) hg (Kd.R_ne HO743.out BK726.out (by decide)))
        have n5_ := Aside0.mk (Kd.R_after (ok := (fun k_ => some k_ ≠ (.slice Ao51 t722.length co51 : Value).ownBlock)) (by (with_reducible repeat (first | apply Kd.R_alloc | apply Kd.R_drewN | apply Kd.R_drew)); exact Kd.R_mono HO730.out (fun _ hk => ⟨hk.1.2, hk.2⟩)) hg hat)
        have n6_ := Aside0.mk (blk_grown (g := gb732) (o := .cells #[.bool t727, .slice Ao59 t728.length co59] 27 (0, 0)) (zk BK732.out) hg (Kd.R_ne HO743.out BK732.out (by decide)))
        have n7_ := Aside0.mk (hb)
        have n8_ := Aside0.mk (ho)
        clear BK716
        clear BK717
        clear HI720
        clear HO724
        clear BK726
        clear HO730
        clear BK732
        clear HB
        clear HO743
        have BK716 := n0_
        have BK717 := n1_
        have HI720 := n2_
        have HO724 := n3_
        have BK726 := n4_
        have HO730 := n5_
        have BK732 := n6_
        have HB := n7_
        have HO746 := n8_
        clear n0_ n1_ n2_ n3_ n4_ n5_ n6_ n7_ n8_
        clear ho hb hg hat
        obtain ⟨Ao65, co65, eo65⟩ := Kd.R_slice HO746.out
        (first | subst eo65 | (injection eo65 with f1_ f2_ f3_; have f4_ := f1_.symm; have f5_ := f3_.symm; clear f1_ f2_ f3_; subst f4_; subst f5_))
        refine hK.out _ _ ⟨(blk_cell BK726.out 0).trans rfl, (blk_cell BK726.out 1).trans rfl⟩ (fun hHeld => ?_)
        clear hK K
        refine norm_ (a' := ?_) ?_ ?_
        rotate_left
        · show Act.put _ (some 28) _ = _
          simp only [Act.put, List.setIfInBounds_toArray, List.set_cons_zero, List.set_cons_succ, i64_w, i32_w]
          rfl
        refine pure_ (i := 13) (N := some 29) (v := ?_) (a' := ?_) #[true, true, true, true, true, true, true, true, true, true, true, true, true, true, false] rfl rfl (any_of HT_.out (by kernel_rfl)) (fun _ _ _ h => h) (Or.inl ⟨by rfl, ?_⟩) ?_ ?_
        rotate_left
        · intro w'
          go_simp
          with_reducible rfl
        rotate_left
        · simp only [Act.put, List.setIfInBounds_toArray, List.set_cons_zero, List.set_cons_succ, i64_w, i32_w]
          rfl
        refine one_ (i := 14) (N := none) #[true, true, true, true, true, true, true, true, true, true, true, true, true, true, true] rfl rfl (one_of HT_.out (by kernel_rfl)) (by decide) (fun K hK => ?_)
        have hs66 : w64.cell? ⟨gb732, 0, none⟩ = some (.bool t727) := (blk_cell BK732.out 0).trans rfl
        have hfs66 := blk_frozen BK732.out 0
        have hns66_0 := NB716_732.out
        have hns66_1 := NB717_732.out
        have hns66_2 := NB726_732.out
        have hms66_0 := NB732_716.out
        have hms66_1 := NB732_717.out
        have hms66_2 := NB732_726.out
        have hs67 : w64.cell? ⟨gb732, 1, none⟩ = some (.slice Ao59 t728.length co59) := (blk_cell BK732.out 1).trans rfl
        have hfs67 := blk_frozen BK732.out 1
        have hns67_0 := NB716_732.out
        have hns67_1 := NB717_732.out
        have hns67_2 := NB726_732.out
        have hms67_0 := NB732_716.out
        have hms67_1 := NB732_717.out
        have hms67_2 := NB732_726.out
        refine skip_ (w1 := ?_) (by rfl) rfl ?_ ?_
        rotate_left
        · go_simp
          rfl
        refine hK.out _ _ ⟨((cell_far (p := ⟨gb732, _, none⟩) NB726_732.out _).trans (((cell_far (p := ⟨gb732, _, none⟩) NB726_732.out _).trans (hHeld.1)))), ((cell_far (p := ⟨gb732, _, none⟩) NB726_732.out _).trans (((cell_far (p := ⟨gb732, _, none⟩) NB726_732.out _).trans (hHeld.2))))⟩ (fun hHeld => ?_)
        clear hK K
        refine done_ (done_of HT_.out (by kernel_rfl)) ?_
        try go_wp2
        have n0_ : Aside0 (Kd.R (Kd.int .i64) 3 ((w64.setCell ⟨gb732, 0, none⟩ (.bool (decide (0 < t722.length)))).setCell ⟨gb732, 1, none⟩ (.slice Ao65 y744.length co65)) w.heap.size (fun k_ => some k_ ≠ (.slice Ao59 t728.length co59 : Value).ownBlock ∧ some k_ ≠ (.slice Ao65 y744.length co65 : Value).ownBlock) (.slice Ao51 t722.length co51) t722) := ⟨by (with_reducible repeat (first | apply Kd.R_alloc | apply Kd.R_drewN | apply Kd.R_drew)); exact Kd.R_mono (Kd.R_far (p := ⟨gb732, 1, none⟩) (Kd.R_far (p := ⟨gb732, 0, none⟩) (Kd.R_types HO724.out BK732.out (by decide)) (fun _ hk => hk.2) (.bool (decide (0 < t722.length)))) (fun _ hk => hk.2) (.slice Ao65 y744.length co65)) (fun _ hk => ⟨hk.1.1, hk.1.2⟩)⟩
        have n1_ : Aside0 (Kd.R (Kd.int .i64) 3 ((w64.setCell ⟨gb732, 0, none⟩ (.bool (decide (0 < t722.length)))).setCell ⟨gb732, 1, none⟩ (.slice Ao65 y744.length co65)) w.heap.size (fun k_ => some k_ ≠ (.slice Ao51 t722.length co51 : Value).ownBlock ∧ some k_ ≠ (.slice Ao65 y744.length co65 : Value).ownBlock) (.slice Ao59 t728.length co59) t728) := ⟨by (with_reducible repeat (first | apply Kd.R_alloc | apply Kd.R_drewN | apply Kd.R_drew)); exact Kd.R_mono (Kd.R_far (p := ⟨gb732, 1, none⟩) (Kd.R_far (p := ⟨gb732, 0, none⟩) (Kd.R_types HO730.out BK732.out (by decide)) (fun _ hk => hk.2) (.bool (decide (0 < t722.length)))) (fun _ hk => hk.2) (.slice Ao65 y744.length co65)) (fun _ hk => ⟨hk.1.1, hk.1.2⟩)⟩
        have n2_ : Aside0 (Kd.R (Kd.int .i64) 3 ((w64.setCell ⟨gb732, 0, none⟩ (.bool (decide (0 < t722.length)))).setCell ⟨gb732, 1, none⟩ (.slice Ao65 y744.length co65)) w.heap.size (fun k_ => some k_ ≠ (.slice Ao51 t722.length co51 : Value).ownBlock ∧ some k_ ≠ (.slice Ao59 t728.length co59 : Value).ownBlock) (.slice Ao65 y744.length co65) y744) := ⟨by (with_reducible repeat (first | apply Kd.R_alloc | apply Kd.R_drewN | apply Kd.R_drew)); exact Kd.R_mono (Kd.R_far (p := ⟨gb732, 1, none⟩) (Kd.R_far (p := ⟨gb732, 0, none⟩) (Kd.R_types HO746.out BK732.out (by decide)) (fun _ hk => hk.2) (.bool (decide (0 < t722.length)))) (fun _ hk => hk.2) (.slice Ao65 y744.length co65)) (fun _ hk => ⟨hk.1.1, hk.1.2⟩)⟩
        have n3_ : Aside0 (((w64.setCell ⟨gb732, 0, none⟩ (.bool (decide (0 < t722.length)))).setCell ⟨gb732, 1, none⟩ (.slice Ao65 y744.length co65)).heap[gb716]? = some (.cells #[.bool false, .slice none 0 0] 27 (0, 0))) := ⟨by (with_reducible repeat (first | refine blk_drewN ?_ _ | refine blk_drew ?_ | refine blk_alloc ?_ _)); refine blk_far ?_ NB716_732.out _; (with_reducible repeat (first | refine blk_drewN ?_ _ | refine blk_drew ?_ | refine blk_alloc ?_ _)); refine blk_far ?_ NB716_732.out _; (with_reducible repeat (first | refine blk_drewN ?_ _ | refine blk_drew ?_ | refine blk_alloc ?_ _)); exact BK716.out⟩
        have n4_ : Aside0 (((w64.setCell ⟨gb732, 0, none⟩ (.bool (decide (0 < t722.length)))).setCell ⟨gb732, 1, none⟩ (.slice Ao65 y744.length co65)).heap[gb717]? = some (.cells #[.bool false, .slice none 0 0] 27 (0, 0))) := ⟨by (with_reducible repeat (first | refine blk_drewN ?_ _ | refine blk_drew ?_ | refine blk_alloc ?_ _)); refine blk_far ?_ NB717_732.out _; (with_reducible repeat (first | refine blk_drewN ?_ _ | refine blk_drew ?_ | refine blk_alloc ?_ _)); refine blk_far ?_ NB717_732.out _; (with_reducible repeat (first | refine blk_drewN ?_ _ | refine blk_drew ?_ | refine blk_alloc ?_ _)); exact BK717.out⟩
        have n5_ : Aside0 (((w64.setCell ⟨gb732, 0, none⟩ (.bool (decide (0 < t722.length)))).setCell ⟨gb732, 1, none⟩ (.slice Ao65 y744.length co65)).heap[gb726]? = some (.cells #[.bool false, .slice Ao51 t722.length co51] 27 (0, 0))) := ⟨by (with_reducible repeat (first | refine blk_drewN ?_ _ | refine blk_drew ?_ | refine blk_alloc ?_ _)); refine blk_far ?_ NB726_732.out _; (with_reducible repeat (first | refine blk_drewN ?_ _ | refine blk_drew ?_ | refine blk_alloc ?_ _)); refine blk_far ?_ NB726_732.out _; (with_reducible repeat (first | refine blk_drewN ?_ _ | refine blk_drew ?_ | refine blk_alloc ?_ _)); exact BK726.out⟩
        have n6_ : Aside0 (((w64.setCell ⟨gb732, 0, none⟩ (.bool (decide (0 < t722.length)))).setCell ⟨gb732, 1, none⟩ (.slice Ao65 y744.length co65)).heap[gb732]? = some (.cells #[.bool (decide (0 < t722.length)), .slice Ao65 y744.length co65] 27 (0, 0))) := ⟨by (with_reducible repeat (first | refine blk_drewN ?_ _ | refine blk_drew ?_ | refine blk_alloc ?_ _)); refine blk_put (cs := #[.bool (decide (0 < t722.length)), .slice Ao59 t728.length co59]) ?_ 1 _ rfl; (with_reducible repeat (first | refine blk_drewN ?_ _ | refine blk_drew ?_ | refine blk_alloc ?_ _)); refine blk_put (cs := #[.bool t727, .slice Ao59 t728.length co59]) ?_ 0 _ rfl; (with_reducible repeat (first | refine blk_drewN ?_ _ | refine blk_drew ?_ | refine blk_alloc ?_ _)); exact BK732.out⟩
        have n7_ : Aside0 (IsS81 w ((w64.setCell ⟨gb732, 0, none⟩ (.bool (decide (0 < t722.length)))).setCell ⟨gb732, 1, none⟩ (.slice Ao65 y744.length co65)) g720 t718 t734) := ⟨by repeat (first | (with_reducible first | exact HI720.out | apply IsS81.alloc | apply IsS81.drewN | apply IsS81.drew | apply IsS81.set_1 | refine IsS81.far ?_ NB720_716.out _ | refine IsS81.far ?_ NB720_717.out _ | refine IsS81.far ?_ NB720_726.out _ | refine IsS81.far ?_ NB720_732.out _) | exact HI720.out)⟩
        have n8_ : Aside0 (Below w.heap.size w ((w64.setCell ⟨gb732, 0, none⟩ (.bool (decide (0 < t722.length)))).setCell ⟨gb732, 1, none⟩ (.slice Ao65 y744.length co65))) := ⟨by repeat (first | (with_reducible first | exact HB.out | apply below_alloc | apply pw_below_drewN | apply below_drew1 | refine below_set ?_ (IsS81.ge HI720.out) | refine below_set ?_ GE716.out | refine below_set ?_ GE717.out | refine below_set ?_ GE726.out | refine below_set ?_ GE732.out) | exact HB.out)⟩
        (try clear HO724)
        (try clear HO730)
        (try clear HO746)
        (try clear BK716)
        (try clear BK717)
        (try clear BK726)
        (try clear BK732)
        (try clear HI720)
        (try clear HB)
        generalize ((w64.setCell ⟨gb732, 0, none⟩ (.bool (decide (0 < t722.length)))).setCell ⟨gb732, 1, none⟩ (.slice Ao65 y744.length co65)) = w68 at n0_ n1_ n2_ n3_ n4_ n5_ n6_ n7_ n8_ ⊢
        have HO724 := n0_
        have HO730 := n1_
        have HO746 := n2_
        have BK716 := n3_
        have BK717 := n4_
        have BK726 := n5_
        have BK732 := n6_
        have HI720 := n7_
        have HB := n8_
        clear n0_ n1_ n2_ n3_ n4_ n5_ n6_ n7_ n8_
        have n0_ := Aside0.mk (Kd.R_drew HO724.out)
        have n1_ := Aside0.mk (Kd.R_drew HO730.out)
        have n2_ := Aside0.mk (Kd.R_drew HO746.out)
        have n3_ := Aside0.mk (blk_drew BK716.out)
        have n4_ := Aside0.mk (blk_drew BK717.out)
        have n5_ := Aside0.mk (blk_drew BK726.out)
        have n6_ := Aside0.mk (blk_drew BK732.out)
        have n7_ := Aside0.mk (IsS81.drew HI720.out)
        have n8_ := Aside0.mk (below_drew1 HB.out)
        clear HO724
        clear HO730
        clear HO746
        clear BK716
        clear BK717
        clear BK726
        clear BK732
        clear HI720
        clear HB
        have HO724 := n0_
        have HO730 := n1_
        have HO746 := n2_
        have BK716 := n3_
        have BK717 := n4_
        have BK726 := n5_
        have BK732 := n6_
        have HI720 := n7_
        have HB := n8_
        clear n0_ n1_ n2_ n3_ n4_ n5_ n6_ n7_ n8_
        refine start_ (n := 4) (S := fun w' => w'.cell? ⟨gb726, 0, none⟩ = some (.bool false) ∧ w'.cell? ⟨gb726, 1, none⟩ = some (.slice Ao51 t722.length co51) ∧ w'.cell? ⟨gb732, 0, none⟩ = some (.bool (decide (0 < t722.length))) ∧ w'.cell? ⟨gb732, 1, none⟩ = some (.slice Ao65 y744.length co65)) (ds := []) #[false, false, false, false] (by kernel_rfl) rfl rfl ⟨(blk_cell BK726.out 0).trans rfl, (blk_cell BK726.out 1).trans rfl, (blk_cell BK732.out 0).trans rfl, (blk_cell BK732.out 1).trans rfl⟩ (fun hHeld => ?_)
        generalize w68.drew = w69 at HO724 HO730 HO746 BK716 BK717 BK726 BK732 HI720 HB hHeld ⊢
        refine take_ (i := 0) (N := some 30) (v := ?_) (a' := ?_) #[true, false, false, false] rfl rfl (by kernel_rfl) (fun _ _ _ h => h) (Or.inl ⟨by rfl, ?_⟩) hHeld ?_ ?_
        rotate_left
        · rintro w' ⟨s0, s1, s2, s3⟩
          go_simp
          with_reducible rfl
        rotate_left
        · simp only [Act.put, List.setIfInBounds_toArray, List.set_cons_zero, List.set_cons_succ, i64_w, i32_w]
          rfl
        refine take_ (i := 1) (N := some 31) (v := ?_) (a' := ?_) #[true, true, false, false] rfl rfl (by kernel_rfl) (fun _ _ _ h => h) (Or.inl ⟨by rfl, ?_⟩) hHeld ?_ ?_
        rotate_left
        · rintro w' ⟨s0, s1, s2, s3⟩
          go_simp
          with_reducible rfl
        rotate_left
        · simp only [Act.put, List.setIfInBounds_toArray, List.set_cons_zero, List.set_cons_succ, i64_w, i32_w]
          rfl
        refine one_ (i := 2) (N := none) #[true, true, true, false] rfl rfl (by kernel_rfl) (by decide) (fun K hK => ?_)
        have hs70 : w69.cell? ⟨gb716, 0, none⟩ = some (.bool false) := (blk_cell BK716.out 0).trans rfl
        have hfs70 := blk_frozen BK716.out 0
        have hns70_1 := NB717_716.out
        have hns70_2 := NB726_716.out
        have hns70_3 := NB732_716.out
        have hms70_1 := NB716_717.out
        have hms70_2 := NB716_726.out
        have hms70_3 := NB716_732.out
        have hs71 : w69.cell? ⟨gb716, 1, none⟩ = some (.slice none 0 0) := (blk_cell BK716.out 1).trans rfl
        have hfs71 := blk_frozen BK716.out 1
        have hns71_1 := NB717_716.out
        have hns71_2 := NB726_716.out
        have hns71_3 := NB732_716.out
        have hms71_1 := NB716_717.out
        have hms71_2 := NB716_726.out
        have hms71_3 := NB716_732.out
        refine skip_ (w1 := ?_) (by rfl) rfl ?_ ?_
        rotate_left
        · go_simp
          rfl
        refine hK.out _ _ ⟨((cell_far (p := ⟨gb716, _, none⟩) NB726_716.out _).trans (((cell_far (p := ⟨gb716, _, none⟩) NB726_716.out _).trans (hHeld.1)))), ((cell_far (p := ⟨gb716, _, none⟩) NB726_716.out _).trans (((cell_far (p := ⟨gb716, _, none⟩) NB726_716.out _).trans (hHeld.2.1)))), ((cell_far (p := ⟨gb716, _, none⟩) NB732_716.out _).trans (((cell_far (p := ⟨gb716, _, none⟩) NB732_716.out _).trans (hHeld.2.2.1)))), ((cell_far (p := ⟨gb716, _, none⟩) NB732_716.out _).trans (((cell_far (p := ⟨gb716, _, none⟩) NB732_716.out _).trans (hHeld.2.2.2))))⟩ (fun hHeld => ?_)
        clear hK K
        refine one_ (i := 3) (N := none) #[true, true, true, true] rfl rfl (by kernel_rfl) (by decide) (fun K hK => ?_)
        have hs72 : w69.cell? ⟨gb717, 0, none⟩ = some (.bool false) := (blk_cell BK717.out 0).trans rfl
        have hfs72 := blk_frozen BK717.out 0
        have hns72_0 := NB716_717.out
        have hns72_2 := NB726_717.out
        have hns72_3 := NB732_717.out
        have hms72_0 := NB717_716.out
        have hms72_2 := NB717_726.out
        have hms72_3 := NB717_732.out
        have hs73 : w69.cell? ⟨gb717, 1, none⟩ = some (.slice none 0 0) := (blk_cell BK717.out 1).trans rfl
        have hfs73 := blk_frozen BK717.out 1
        have hns73_0 := NB716_717.out
        have hns73_2 := NB726_717.out
        have hns73_3 := NB732_717.out
        have hms73_0 := NB717_716.out
        have hms73_2 := NB717_726.out
        have hms73_3 := NB717_732.out
        refine skip_ (w1 := ?_) (by rfl) rfl ?_ ?_
        rotate_left
        · go_simp
          rfl
        refine hK.out _ _ ⟨((cell_far (p := ⟨gb717, _, none⟩) NB726_717.out _).trans (((cell_far (p := ⟨gb717, _, none⟩) NB726_717.out _).trans (hHeld.1)))), ((cell_far (p := ⟨gb717, _, none⟩) NB726_717.out _).trans (((cell_far (p := ⟨gb717, _, none⟩) NB726_717.out _).trans (hHeld.2.1)))), ((cell_far (p := ⟨gb717, _, none⟩) NB732_717.out _).trans (((cell_far (p := ⟨gb717, _, none⟩) NB732_717.out _).trans (hHeld.2.2.1)))), ((cell_far (p := ⟨gb717, _, none⟩) NB732_717.out _).trans (((cell_far (p := ⟨gb717, _, none⟩) NB732_717.out _).trans (hHeld.2.2.2))))⟩ (fun hHeld => ?_)
        clear hK K
        refine done_ (by kernel_rfl) ?_
        try go_wp2
        refine bodyPost_ret (results_cc rfl _ _ gb716 gb717 27 27 #[.bool false, .slice Ao51 t722.length co51] #[.bool (decide (0 < t722.length)), .slice Ao65 y744.length co65] (0, 0) (0, 0) _ _ rfl (by (with_reducible repeat (first | refine blk_drewN ?_ _ | refine blk_drew ?_ | refine blk_alloc ?_ _)); refine blk_far ?_ NB716_717.out _; (with_reducible repeat (first | refine blk_drewN ?_ _ | refine blk_drew ?_ | refine blk_alloc ?_ _)); refine blk_far ?_ NB716_717.out _; (with_reducible repeat (first | refine blk_drewN ?_ _ | refine blk_drew ?_ | refine blk_alloc ?_ _)); refine blk_put (cs := #[.bool false, .slice none 0 0]) ?_ 1 _ rfl; (with_reducible repeat (first | refine blk_drewN ?_ _ | refine blk_drew ?_ | refine blk_alloc ?_ _)); refine blk_put (cs := #[.bool false, .slice none 0 0]) ?_ 0 _ rfl; (with_reducible repeat (first | refine blk_drewN ?_ _ | refine blk_drew ?_ | refine blk_alloc ?_ _)); exact BK716.out) Try.underlying27 rfl (by kernel_rfl) rfl (by (with_reducible repeat (first | refine blk_drewN ?_ _ | refine blk_drew ?_ | refine blk_alloc ?_ _)); refine blk_put (cs := #[.bool (decide (0 < t722.length)), .slice none 0 0]) ?_ 1 _ rfl; (with_reducible repeat (first | refine blk_drewN ?_ _ | refine blk_drew ?_ | refine blk_alloc ?_ _)); refine blk_put (cs := #[.bool false, .slice none 0 0]) ?_ 0 _ rfl; (with_reducible repeat (first | refine blk_drewN ?_ _ | refine blk_drew ?_ | refine blk_alloc ?_ _)); refine blk_far ?_ NB717_716.out _; (with_reducible repeat (first | refine blk_drewN ?_ _ | refine blk_drew ?_ | refine blk_alloc ?_ _)); refine blk_far ?_ NB717_716.out _; (with_reducible repeat (first | refine blk_drewN ?_ _ | refine blk_drew ?_ | refine blk_alloc ?_ _)); exact BK717.out) Try.underlying27 rfl (by kernel_rfl)) rfl ?_
        exact ⟨_, _, by first | rfl | (simp [errW_none, errW_some] <;> rfl) | (simp [*, errW_none, errW_some] <;> rfl), by (with_reducible repeat (first | apply Kd.R_alloc | apply Kd.R_drewN | apply Kd.R_drew)); exact Kd.R_mono (Kd.R_far (p := ⟨gb717, 1, none⟩) (Kd.R_far (p := ⟨gb717, 0, none⟩) (Kd.R_far (p := ⟨gb716, 1, none⟩) (Kd.R_far (p := ⟨gb716, 0, none⟩) (Kd.R_types (Kd.R_types HO724.out BK716.out (by decide)) BK717.out (by decide)) (fun _ hk => hk.1.2) (.bool false)) (fun _ hk => hk.1.2) (.slice Ao51 t722.length co51)) (fun _ hk => hk.2) (.bool (decide (0 < t722.length)))) (fun _ hk => hk.2) (.slice Ao65 y744.length co65)) (fun _ hk => hk.1.1.2), by (with_reducible repeat (first | apply Kd.R_alloc | apply Kd.R_drewN | apply Kd.R_drew)); exact Kd.R_mono (Kd.R_far (p := ⟨gb717, 1, none⟩) (Kd.R_far (p := ⟨gb717, 0, none⟩) (Kd.R_far (p := ⟨gb716, 1, none⟩) (Kd.R_far (p := ⟨gb716, 0, none⟩) (Kd.R_types (Kd.R_types HO746.out BK716.out (by decide)) BK717.out (by decide)) (fun _ hk => hk.1.2) (.bool false)) (fun _ hk => hk.1.2) (.slice Ao51 t722.length co51)) (fun _ hk => hk.2) (.bool (decide (0 < t722.length)))) (fun _ hk => hk.2) (.slice Ao65 y744.length co65)) (fun _ hk => hk.1.1.1), by repeat (first | (with_reducible first | exact HB.out | apply below_alloc | apply pw_below_drewN | apply below_drew1 | refine below_set ?_ (IsS81.ge HI720.out) | refine below_set ?_ GE716.out | refine below_set ?_ GE717.out | refine below_set ?_ GE726.out | refine below_set ?_ GE732.out) | exact HB.out)⟩
      · rw [if_neg c41] at H
        exact absurd H (by simp)
  · rw [if_neg c6] at H
    have c6b0 : (t733 == 0) = false := beq_eq_false_iff_ne.mpr c6
    have c6b1 : (t733 != 0) = true := bne_iff_ne.mpr c6
    simp only [Option.some.injEq, Prod.mk.injEq] at H
    obtain ⟨rfl, rfl, rfl, rfl⟩ := H
    go_enter Try.func75, Try.ntmps75
    try go_wp2_with (first | ((with_reducible refine gate_dst (N := 2) rfl ?_); (try (refine gate_guard (by rfl) ?_; dsimp only)); refine box_event ?hg (N := 2) ?hd (cs := #[.bool false, .slice none 0 0]) (t := 27) ?hr ?_; (case hd => rfl); (case hg => rfl); (case hr => first | (go_simp; done) | (go_simp; rfl)); intro gb716 hg w74 hbox hb; have n0_ := Aside0.mk (below_step zb hb); have n1_ := Aside0.mk (hbox); have n2_ := Aside0.mk ((by rw [hg]; exact (below_size zb) : w.heap.size ≤ gb716)); have n3_ := Aside0.mk ((by rw [hg]; exact (below_size zb) : w.heap.size ≤ gb716)); clear HB; have HB := n0_; have BK716 := n1_; have GW716 := n2_; have GE716 := n3_; clear n0_ n1_ n2_ n3_; clear hb hbox hg) | ((with_reducible refine gate_dst (N := 3) rfl ?_); (try (refine gate_guard (by rfl) ?_; dsimp only)); refine box_event ?hg (N := 3) ?hd (cs := #[.bool false, .slice none 0 0]) (t := 27) ?hr ?_; (case hd => rfl); (case hg => rfl); (case hr => first | (go_simp; done) | (go_simp; rfl)); intro gb717 hg w75 hbox hb; have n0_ := Aside0.mk (blk_below (g := gb716) (o := .cells #[.bool false, .slice none 0 0] 27 (0, 0)) (zk BK716.out) hb); have n1_ := Aside0.mk (below_step zb hb); have n2_ := Aside0.mk (hbox); have n3_ := Aside0.mk ((by rw [hg]; exact (below_size zb) : w.heap.size ≤ gb717)); have n4_ := Aside0.mk ((by rw [hg]; exact (below_size zb) : w.heap.size ≤ gb717)); have n5_ := Aside0.mk ((by rw [hg]; exact Nat.ne_of_lt (blk_lt (g := gb716) (o := .cells #[.bool false, .slice none 0 0] 27 (0, 0)) (zk BK716.out)) : gb716 ≠ gb717)); have n6_ := Aside0.mk ((by rw [hg]; exact Nat.ne_of_gt (blk_lt (g := gb716) (o := .cells #[.bool false, .slice none 0 0] 27 (0, 0)) (zk BK716.out)) : gb717 ≠ gb716)); clear BK716; clear HB; have BK716 := n0_; have HB := n1_; have BK717 := n2_; have GW717 := n3_; have GE717 := n4_; have NB716_717 := n5_; have NB717_716 := n6_; clear n0_ n1_ n2_ n3_ n4_ n5_ n6_; clear hb hbox hg) | ((with_reducible refine gate_callee (f := 63) rfl ?_); refine goesL_ (some 8) rfl rfl Try.func63 (by kernel_rfl) rfl #[.slice A0 l0.length c0] rfl za ?_; (with_reducible refine (spec_l1Open.calls _ _ l0 t718 t719 w _ ?side1 ?side2 ?side3 A2.out).mono ?_); (case side1 => repeat (first | (with_reducible first | exact HB.out | apply below_alloc | apply pw_below_drewN | apply below_drew1 | refine below_set ?_ GE716.out | refine below_set ?_ GE717.out) | exact HB.out)); (case side2 => exact HR0.out); (case side3 => exact HC0.out); rintro e w76 ⟨g720, rfl, hi, hb, hb2⟩; refine ⟨_, rfl, ?_⟩; have n0_ := Aside0.mk (blk_below (g := gb716) (o := .cells #[.bool false, .slice none 0 0] 27 (0, 0)) (zk BK716.out) hb2); have n1_ := Aside0.mk (blk_below (g := gb717) (o := .cells #[.bool false, .slice none 0 0] 27 (0, 0)) (zk BK717.out) hb2); have n2_ := Aside0.mk (hb); have n3_ := Aside0.mk (hi); have n4_ := Aside0.mk (IsS81.ne_blk hi (blk_below (g := gb716) (o := .cells #[.bool false, .slice none 0 0] 27 (0, 0)) (zk BK716.out) hb2) (by decide)); have n5_ := Aside0.mk (Ne.symm (IsS81.ne_blk hi (blk_below (g := gb716) (o := .cells #[.bool false, .slice none 0 0] 27 (0, 0)) (zk BK716.out) hb2) (by decide))); have n6_ := Aside0.mk (IsS81.ne_blk hi (blk_below (g := gb717) (o := .cells #[.bool false, .slice none 0 0] 27 (0, 0)) (zk BK717.out) hb2) (by decide)); have n7_ := Aside0.mk (Ne.symm (IsS81.ne_blk hi (blk_below (g := gb717) (o := .cells #[.bool false, .slice none 0 0] 27 (0, 0)) (zk BK717.out) hb2) (by decide))); clear BK716; clear BK717; clear HB; have BK716 := n0_; have BK717 := n1_; have HB := n2_; have HI720 := n3_; have NB720_716 := n4_; have NB716_720 := n5_; have NB720_717 := n6_; have NB717_720 := n7_; clear n0_ n1_ n2_ n3_ n4_ n5_ n6_ n7_; (try clear hb); (try clear hb2); (try clear hk); (try clear hi)) | ((with_reducible refine gate_callee (f := 80) rfl ?_); refine goesL_ (some 10) rfl rfl Try.func80 (by kernel_rfl) rfl #[.pointer (some ⟨g720, 0, none⟩)] rfl za ?_; (with_reducible refine (spec_l14AnyBig.calls k g720 t718 t719 t721 t722 t725 w _ ?side1 ?side2 A3.out).mono ?_); (case side1 => repeat (first | (with_reducible first | exact HI720.out | apply IsS81.alloc | apply IsS81.drewN | apply IsS81.drew | apply IsS81.set_1 | refine IsS81.far ?_ NB720_716.out _ | refine IsS81.far ?_ NB720_717.out _) | exact HI720.out)); (case side2 => repeat (first | (with_reducible first | exact HB.out | apply below_alloc | apply pw_below_drewN | apply below_drew1 | refine below_set ?_ (IsS81.ge HI720.out) | refine below_set ?_ GE716.out | refine below_set ?_ GE717.out) | exact HB.out)); rintro e w77 ⟨v723, rfl, ho0, hi, hb, hk⟩; refine ⟨_, rfl, ?_⟩; have n0_ := Aside0.mk (KeepBut.blk hk (g' := gb716) (o := .cells #[.bool false, .slice none 0 0] 27 (0, 0)) (zk BK716.out) NB716_720.out (by simp)); have n1_ := Aside0.mk (KeepBut.blk hk (g' := gb717) (o := .cells #[.bool false, .slice none 0 0] 27 (0, 0)) (zk BK717.out) NB717_720.out (by simp)); have n2_ := Aside0.mk (Kd.R_lower ho0 (below_size (by repeat (first | (with_reducible first | exact HB.out | apply below_alloc | apply pw_below_drewN | apply below_drew1 | refine below_set ?_ (IsS81.ge HI720.out) | refine below_set ?_ GE716.out | refine below_set ?_ GE717.out) | exact HB.out)))); have n3_ := Aside0.mk (hb); have n4_ := Aside0.mk (hi); clear BK716; clear BK717; clear HB; clear HI720; have BK716 := n0_; have BK717 := n1_; have HO724 := n2_; have HB := n3_; have HI720 := n4_; clear n0_ n1_ n2_ n3_ n4_; (try clear hb); (try clear hb2); (try clear hk); (try clear hi); (try clear ho0)) | ((with_reducible refine gate_dst (N := 5) rfl ?_); (try (refine gate_guard (by rfl) ?_; dsimp only)); refine box_event ?hg (N := 5) ?hd (cs := #[.bool false, .slice none 0 0]) (t := 27) ?hr ?_; (case hd => rfl); (case hg => rfl); (case hr => first | (go_simp; done) | (go_simp; rfl)); intro gb726 hg w78 hbox hb; have n0_ := Aside0.mk (Kd.R_below (zR HO724.out) hb); have n1_ := Aside0.mk (blk_below (g := gb716) (o := .cells #[.bool false, .slice none 0 0] 27 (0, 0)) (zk BK716.out) hb); have n2_ := Aside0.mk (blk_below (g := gb717) (o := .cells #[.bool false, .slice none 0 0] 27 (0, 0)) (zk BK717.out) hb); have n3_ := Aside0.mk (IsS81.below (by repeat (first | (with_reducible first | exact HI720.out | apply IsS81.alloc | apply IsS81.drewN | apply IsS81.drew | apply IsS81.set_1 | refine IsS81.far ?_ NB720_716.out _ | refine IsS81.far ?_ NB720_717.out _) | exact HI720.out)) hb); have n4_ := Aside0.mk (below_step (by repeat (first | (with_reducible first | exact HB.out | apply below_alloc | apply pw_below_drewN | apply below_drew1 | refine below_set ?_ (IsS81.ge HI720.out) | refine below_set ?_ GE716.out | refine below_set ?_ GE717.out) | exact HB.out)) hb); have n5_ := Aside0.mk (hbox); have n6_ := Aside0.mk ((by rw [hg]; exact (below_size (by repeat (first | (with_reducible first | exact HB.out | apply below_alloc | apply pw_below_drewN | apply below_drew1 | refine below_set ?_ (IsS81.ge HI720.out) | refine below_set ?_ GE716.out | refine below_set ?_ GE717.out) | exact HB.out))) : w.heap.size ≤ gb726)); have n7_ := Aside0.mk ((by rw [hg]; exact (below_size (by repeat (first | (with_reducible first | exact HB.out | apply below_alloc | apply pw_below_drewN | apply below_drew1 | refine below_set ?_ (IsS81.ge HI720.out) | refine below_set ?_ GE716.out | refine below_set ?_ GE717.out) | exact HB.out))) : w.heap.size ≤ gb726)); have n8_ := Aside0.mk ((by rw [hg]; exact Nat.ne_of_lt (blk_lt (g := gb716) (o := .cells #[.bool false, .slice none 0 0] 27 (0, 0)) (zk BK716.out)) : gb716 ≠ gb726)); have n9_ := Aside0.mk ((by rw [hg]; exact Nat.ne_of_gt (blk_lt (g := gb716) (o := .cells #[.bool false, .slice none 0 0] 27 (0, 0)) (zk BK716.out)) : gb726 ≠ gb716)); have n10_ := Aside0.mk ((by rw [hg]; exact Nat.ne_of_lt (blk_lt (g := gb717) (o := .cells #[.bool false, .slice none 0 0] 27 (0, 0)) (zk BK717.out)) : gb717 ≠ gb726)); have n11_ := Aside0.mk ((by rw [hg]; exact Nat.ne_of_gt (blk_lt (g := gb717) (o := .cells #[.bool false, .slice none 0 0] 27 (0, 0)) (zk BK717.out)) : gb726 ≠ gb717)); have n12_ := Aside0.mk ((by rw [hg]; exact Nat.ne_of_lt (IsS81.lt (show IsS81 w _ g720 t718 t725 from by repeat (first | (with_reducible first | exact HI720.out | apply IsS81.alloc | apply IsS81.drewN | apply IsS81.drew | apply IsS81.set_1 | refine IsS81.far ?_ NB720_716.out _ | refine IsS81.far ?_ NB720_717.out _) | exact HI720.out))) : g720 ≠ gb726)); have n13_ := Aside0.mk ((by rw [hg]; exact Nat.ne_of_gt (IsS81.lt (show IsS81 w _ g720 t718 t725 from by repeat (first | (with_reducible first | exact HI720.out | apply IsS81.alloc | apply IsS81.drewN | apply IsS81.drew | apply IsS81.set_1 | refine IsS81.far ?_ NB720_716.out _ | refine IsS81.far ?_ NB720_717.out _) | exact HI720.out))) : gb726 ≠ g720)); clear HO724; clear BK716; clear BK717; clear HI720; clear HB; have HO724 := n0_; have BK716 := n1_; have BK717 := n2_; have HI720 := n3_; have HB := n4_; have BK726 := n5_; have GW726 := n6_; have GE726 := n7_; have NB716_726 := n8_; have NB726_716 := n9_; have NB717_726 := n10_; have NB726_717 := n11_; have NB720_726 := n12_; have NB726_720 := n13_; clear n0_ n1_ n2_ n3_ n4_ n5_ n6_ n7_ n8_ n9_ n10_ n11_ n12_ n13_; clear hb hbox hg; have hnb79 := NB726_716.out; have hnc79 := NB716_726.out; have hnb80 := NB726_717.out; have hnc80 := NB717_726.out; have hnb81 := NB726_720.out; have hnc81 := NB720_726.out; have hcz82_0 : w78.cell? ⟨gb726, 0, none⟩ = some (.bool false) := (blk_cell BK726.out 0).trans rfl; have hcz82_1 : w78.cell? ⟨gb726, 1, none⟩ = some (.slice none 0 0) := (blk_cell BK726.out 1).trans rfl; have hfz82_0 := blk_frozen BK726.out 0; have hfz82_1 := blk_frozen BK726.out 1; obtain ⟨Ao83, co83, eo83⟩ := Kd.R_slice HO724.out; subst eo83) | ((with_reducible refine gate_callee (f := 80) rfl ?_); refine goesL_ (some 12) rfl rfl Try.func80 (by kernel_rfl) rfl #[.pointer (some ⟨g720, 0, none⟩)] rfl za ?_; (with_reducible refine (spec_l14AnyBig.calls k g720 t718 t725 t727 t728 t731 w _ ?side1 ?side2 A4.out).mono ?_); (case side1 => repeat (first | (with_reducible first | exact HI720.out | apply IsS81.alloc | apply IsS81.drewN | apply IsS81.drew | apply IsS81.set_1 | refine IsS81.far ?_ NB720_716.out _ | refine IsS81.far ?_ NB720_717.out _ | refine IsS81.far ?_ NB720_726.out _) | exact HI720.out)); (case side2 => repeat (first | (with_reducible first | exact HB.out | apply below_alloc | apply pw_below_drewN | apply below_drew1 | refine below_set ?_ (IsS81.ge HI720.out) | refine below_set ?_ GE716.out | refine below_set ?_ GE717.out | refine below_set ?_ GE726.out) | exact HB.out)); rintro e w84 ⟨v729, rfl, ho0, hi, hb, hk⟩; refine ⟨_, rfl, ?_⟩; have n0_ := Aside0.mk (KeepBut.blk hk (g' := gb716) (o := .cells #[.bool false, .slice none 0 0] 27 (0, 0)) (zk BK716.out) NB716_720.out (by simp)); have n1_ := Aside0.mk (KeepBut.blk hk (g' := gb717) (o := .cells #[.bool false, .slice none 0 0] 27 (0, 0)) (zk BK717.out) NB717_720.out (by simp)); have n2_ := Aside0.mk (Kd.R_mono (Kd.R_told (Kd.R_oldK (IsS81.apart (show IsS81 w _ g720 t718 t725 from by repeat (first | (with_reducible first | exact HI720.out | apply IsS81.alloc | apply IsS81.drewN | apply IsS81.drew | apply IsS81.set_1 | refine IsS81.far ?_ NB720_716.out _ | refine IsS81.far ?_ NB720_717.out _ | refine IsS81.far ?_ NB720_726.out _) | exact HI720.out)) (by (with_reducible repeat (first | apply Kd.R_alloc | apply Kd.R_drewN | apply Kd.R_drew)); exact (Kd.R_mono (Kd.R_far (p := ⟨gb726, 1, none⟩) (Kd.R_far (p := ⟨gb726, 0, none⟩) (Kd.R_types HO724.out BK726.out (by decide)) (fun _ hk => hk.2) (.bool t721)) (fun _ hk => hk.2) (.slice Ao83 t722.length co83)) (fun _ h_ => h_.1))) (by decide)) hk) (Kd.R_base ho0)) (fun _ h_ => h_.1)); have n3_ := Aside0.mk (KeepBut.blk hk (g' := gb726) (o := .cells #[.bool t721, .slice Ao83 t722.length co83] 27 (0, 0)) (by (with_reducible repeat (first | refine blk_drewN ?_ _ | refine blk_drew ?_ | refine blk_alloc ?_ _)); refine blk_put (cs := #[.bool t721, .slice none 0 0]) ?_ 1 _ rfl; (with_reducible repeat (first | refine blk_drewN ?_ _ | refine blk_drew ?_ | refine blk_alloc ?_ _)); refine blk_put (cs := #[.bool false, .slice none 0 0]) ?_ 0 _ rfl; (with_reducible repeat (first | refine blk_drewN ?_ _ | refine blk_drew ?_ | refine blk_alloc ?_ _)); exact BK726.out) NB726_720.out (by simp)); have n4_ := Aside0.mk (Kd.R_lower (Kd.R_new' ho0 (Kd.R_lt (by (with_reducible repeat (first | apply Kd.R_alloc | apply Kd.R_drewN | apply Kd.R_drew)); exact (Kd.R_mono (Kd.R_far (p := ⟨gb726, 1, none⟩) (Kd.R_far (p := ⟨gb726, 0, none⟩) (Kd.R_types HO724.out BK726.out (by decide)) (fun _ hk => hk.2) (.bool t721)) (fun _ hk => hk.2) (.slice Ao83 t722.length co83)) (fun _ h_ => h_.1))))) (below_size (by repeat (first | (with_reducible first | exact HB.out | apply below_alloc | apply pw_below_drewN | apply below_drew1 | refine below_set ?_ (IsS81.ge HI720.out) | refine below_set ?_ GE716.out | refine below_set ?_ GE717.out | refine below_set ?_ GE726.out) | exact HB.out)))); have n5_ := Aside0.mk (hb); have n6_ := Aside0.mk (hi); clear BK716; clear BK717; clear HO724; clear BK726; clear HB; clear HI720; have BK716 := n0_; have BK717 := n1_; have HO724 := n2_; have BK726 := n3_; have HO730 := n4_; have HB := n5_; have HI720 := n6_; clear n0_ n1_ n2_ n3_ n4_ n5_ n6_; (try clear hb); (try clear hb2); (try clear hk); (try clear hi); (try clear ho0)) | ((with_reducible refine gate_dst (N := 6) rfl ?_); (try (refine gate_guard (by rfl) ?_; dsimp only)); refine box_event ?hg (N := 6) ?hd (cs := #[.bool false, .slice none 0 0]) (t := 27) ?hr ?_; (case hd => rfl); (case hg => rfl); (case hr => first | (go_simp; done) | (go_simp; rfl)); intro gb732 hg w85 hbox hb; have n0_ := Aside0.mk (Kd.R_below (zR HO724.out) hb); have n1_ := Aside0.mk (Kd.R_below (zR HO730.out) hb); have n2_ := Aside0.mk (blk_below (g := gb716) (o := .cells #[.bool false, .slice none 0 0] 27 (0, 0)) (zk BK716.out) hb); have n3_ := Aside0.mk (blk_below (g := gb717) (o := .cells #[.bool false, .slice none 0 0] 27 (0, 0)) (zk BK717.out) hb); have n4_ := Aside0.mk (IsS81.below (by repeat (first | (with_reducible first | exact HI720.out | apply IsS81.alloc | apply IsS81.drewN | apply IsS81.drew | apply IsS81.set_1 | refine IsS81.far ?_ NB720_716.out _ | refine IsS81.far ?_ NB720_717.out _ | refine IsS81.far ?_ NB720_726.out _) | exact HI720.out)) hb); have n5_ := Aside0.mk (blk_below (g := gb726) (o := .cells #[.bool t721, .slice Ao83 t722.length co83] 27 (0, 0)) (zk BK726.out) hb); have n6_ := Aside0.mk (below_step (by repeat (first | (with_reducible first | exact HB.out | apply below_alloc | apply pw_below_drewN | apply below_drew1 | refine below_set ?_ (IsS81.ge HI720.out) | refine below_set ?_ GE716.out | refine below_set ?_ GE717.out | refine below_set ?_ GE726.out) | exact HB.out)) hb); have n7_ := Aside0.mk (hbox); have n8_ := Aside0.mk ((by rw [hg]; exact (below_size (by repeat (first | (with_reducible first | exact HB.out | apply below_alloc | apply pw_below_drewN | apply below_drew1 | refine below_set ?_ (IsS81.ge HI720.out) | refine below_set ?_ GE716.out | refine below_set ?_ GE717.out | refine below_set ?_ GE726.out) | exact HB.out))) : w.heap.size ≤ gb732)); have n9_ := Aside0.mk ((by rw [hg]; exact (below_size (by repeat (first | (with_reducible first | exact HB.out | apply below_alloc | apply pw_below_drewN | apply below_drew1 | refine below_set ?_ (IsS81.ge HI720.out) | refine below_set ?_ GE716.out | refine below_set ?_ GE717.out | refine below_set ?_ GE726.out) | exact HB.out))) : w.heap.size ≤ gb732)); have n10_ := Aside0.mk ((by rw [hg]; exact Nat.ne_of_lt (blk_lt (g := gb716) (o := .cells #[.bool false, .slice none 0 0] 27 (0, 0)) (zk BK716.out)) : gb716 ≠ gb732)); have n11_ := Aside0.mk ((by rw [hg]; exact Nat.ne_of_gt (blk_lt (g := gb716) (o := .cells #[.bool false, .slice none 0 0] 27 (0, 0)) (zk BK716.out)) : gb732 ≠ gb716)); have n12_ := Aside0.mk ((by rw [hg]; exact Nat.ne_of_lt (blk_lt (g := gb717) (o := .cells #[.bool false, .slice none 0 0] 27 (0, 0)) (zk BK717.out)) : gb717 ≠ gb732)); have n13_ := Aside0.mk ((by rw [hg]; exact Nat.ne_of_gt (blk_lt (g := gb717) (o := .cells #[.bool false, .slice none 0 0] 27 (0, 0)) (zk BK717.out)) : gb732 ≠ gb717)); have n14_ := Aside0.mk ((by rw [hg]; exact Nat.ne_of_lt (blk_lt (g := gb726) (o := .cells #[.bool t721, .slice Ao83 t722.length co83] 27 (0, 0)) (zk BK726.out)) : gb726 ≠ gb732)); have n15_ := Aside0.mk ((by rw [hg]; exact Nat.ne_of_gt (blk_lt (g := gb726) (o := .cells #[.bool t721, .slice Ao83 t722.length co83] 27 (0, 0)) (zk BK726.out)) : gb732 ≠ gb726)); have n16_ := Aside0.mk ((by rw [hg]; exact Nat.ne_of_lt (IsS81.lt (show IsS81 w _ g720 t718 t731 from by repeat (first | (with_reducible first | exact HI720.out | apply IsS81.alloc | apply IsS81.drewN | apply IsS81.drew | apply IsS81.set_1 | refine IsS81.far ?_ NB720_716.out _ | refine IsS81.far ?_ NB720_717.out _ | refine IsS81.far ?_ NB720_726.out _) | exact HI720.out))) : g720 ≠ gb732)); have n17_ := Aside0.mk ((by rw [hg]; exact Nat.ne_of_gt (IsS81.lt (show IsS81 w _ g720 t718 t731 from by repeat (first | (with_reducible first | exact HI720.out | apply IsS81.alloc | apply IsS81.drewN | apply IsS81.drew | apply IsS81.set_1 | refine IsS81.far ?_ NB720_716.out _ | refine IsS81.far ?_ NB720_717.out _ | refine IsS81.far ?_ NB720_726.out _) | exact HI720.out))) : gb732 ≠ g720)); clear HO724; clear HO730; clear BK716; clear BK717; clear HI720; clear BK726; clear HB; have HO724 := n0_; have HO730 := n1_; have BK716 := n2_; have BK717 := n3_; have HI720 := n4_; have BK726 := n5_; have HB := n6_; have BK732 := n7_; have GW732 := n8_; have GE732 := n9_; have NB716_732 := n10_; have NB732_716 := n11_; have NB717_732 := n12_; have NB732_717 := n13_; have NB726_732 := n14_; have NB732_726 := n15_; have NB720_732 := n16_; have NB732_720 := n17_; clear n0_ n1_ n2_ n3_ n4_ n5_ n6_ n7_ n8_ n9_ n10_ n11_ n12_ n13_ n14_ n15_ n16_ n17_; clear hb hbox hg; have hnb86 := NB732_716.out; have hnc86 := NB716_732.out; have hnb87 := NB732_717.out; have hnc87 := NB717_732.out; have hnb88 := NB732_726.out; have hnc88 := NB726_732.out; have hnb89 := NB732_720.out; have hnc89 := NB720_732.out; have hcz90_0 : w85.cell? ⟨gb732, 0, none⟩ = some (.bool false) := (blk_cell BK732.out 0).trans rfl; have hcz90_1 : w85.cell? ⟨gb732, 1, none⟩ = some (.slice none 0 0) := (blk_cell BK732.out 1).trans rfl; have hfz90_0 := blk_frozen BK732.out 0; have hfz90_1 := blk_frozen BK732.out 1; obtain ⟨Ao91, co91, eo91⟩ := Kd.R_slice HO730.out; subst eo91) | ((with_reducible refine gate_callee (f := 64) rfl ?_); refine goesL_ (some 14) rfl rfl Try.func64 (by kernel_rfl) rfl #[.pointer (some ⟨g720, 0, none⟩), .int .i64 6] rfl za ?_; (with_reducible refine (spec_l1Rd_pick.calls k g720 t718 t731 6 t733 t734 w _ ?side1 ?side2 A5.out).mono ?_); (case side1 => repeat (first | (with_reducible first | exact HI720.out | apply IsS81.alloc | apply IsS81.drewN | apply IsS81.drew | apply IsS81.set_1 | refine IsS81.far ?_ NB720_716.out _ | refine IsS81.far ?_ NB720_717.out _ | refine IsS81.far ?_ NB720_726.out _ | refine IsS81.far ?_ NB720_732.out _) | exact HI720.out)); (case side2 => repeat (first | (with_reducible first | exact HB.out | apply below_alloc | apply pw_below_drewN | apply below_drew1 | refine below_set ?_ (IsS81.ge HI720.out) | refine below_set ?_ GE716.out | refine below_set ?_ GE717.out | refine below_set ?_ GE726.out | refine below_set ?_ GE732.out) | exact HB.out)); rintro e w92 ⟨rfl, hi, hb, hk⟩; refine ⟨_, rfl, ?_⟩; have n0_ := Aside0.mk (KeepBut.blk hk (g' := gb716) (o := .cells #[.bool false, .slice none 0 0] 27 (0, 0)) (zk BK716.out) NB716_720.out (by simp)); have n1_ := Aside0.mk (KeepBut.blk hk (g' := gb717) (o := .cells #[.bool false, .slice none 0 0] 27 (0, 0)) (zk BK717.out) NB717_720.out (by simp)); have n2_ := Aside0.mk (Kd.R_mono (Kd.R_keep (IsS81.apart (show IsS81 w _ g720 t718 t731 from by repeat (first | (with_reducible first | exact HI720.out | apply IsS81.alloc | apply IsS81.drewN | apply IsS81.drew | apply IsS81.set_1 | refine IsS81.far ?_ NB720_716.out _ | refine IsS81.far ?_ NB720_717.out _ | refine IsS81.far ?_ NB720_726.out _ | refine IsS81.far ?_ NB720_732.out _) | exact HI720.out)) (by (with_reducible repeat (first | apply Kd.R_alloc | apply Kd.R_drewN | apply Kd.R_drew)); exact (Kd.R_mono (Kd.R_far (p := ⟨gb732, 1, none⟩) (Kd.R_far (p := ⟨gb732, 0, none⟩) (Kd.R_types HO724.out BK732.out (by decide)) (fun _ hk => hk.2) (.bool t727)) (fun _ hk => hk.2) (.slice Ao91 t728.length co91)) (fun _ h_ => h_.1))) (by decide)) hk (fun _ h => h.2)) (fun _ h => h.1)); have n3_ := Aside0.mk (KeepBut.blk hk (g' := gb726) (o := .cells #[.bool t721, .slice Ao83 t722.length co83] 27 (0, 0)) (zk BK726.out) NB726_720.out (by simp)); have n4_ := Aside0.mk (Kd.R_mono (Kd.R_keep (IsS81.apart (show IsS81 w _ g720 t718 t731 from by repeat (first | (with_reducible first | exact HI720.out | apply IsS81.alloc | apply IsS81.drewN | apply IsS81.drew | apply IsS81.set_1 | refine IsS81.far ?_ NB720_716.out _ | refine IsS81.far ?_ NB720_717.out _ | refine IsS81.far ?_ NB720_726.out _ | refine IsS81.far ?_ NB720_732.out _) | exact HI720.out)) (by (with_reducible repeat (first | apply Kd.R_alloc | apply Kd.R_drewN | apply Kd.R_drew)); exact (Kd.R_mono (Kd.R_far (p := ⟨gb732, 1, none⟩) (Kd.R_far (p := ⟨gb732, 0, none⟩) (Kd.R_types HO730.out BK732.out (by decide)) (fun _ hk => hk.2) (.bool t727)) (fun _ hk => hk.2) (.slice Ao91 t728.length co91)) (fun _ h_ => h_.1))) (by decide)) hk (fun _ h => h.2)) (fun _ h => h.1)); have n5_ := Aside0.mk (KeepBut.blk hk (g' := gb732) (o := .cells #[.bool t727, .slice Ao91 t728.length co91] 27 (0, 0)) (by (with_reducible repeat (first | refine blk_drewN ?_ _ | refine blk_drew ?_ | refine blk_alloc ?_ _)); refine blk_put (cs := #[.bool t727, .slice none 0 0]) ?_ 1 _ rfl; (with_reducible repeat (first | refine blk_drewN ?_ _ | refine blk_drew ?_ | refine blk_alloc ?_ _)); refine blk_put (cs := #[.bool false, .slice none 0 0]) ?_ 0 _ rfl; (with_reducible repeat (first | refine blk_drewN ?_ _ | refine blk_drew ?_ | refine blk_alloc ?_ _)); exact BK732.out) NB732_720.out (by simp)); have n6_ := Aside0.mk (hb); have n7_ := Aside0.mk (hi); clear BK716; clear BK717; clear HO724; clear BK726; clear HO730; clear BK732; clear HB; clear HI720; have BK716 := n0_; have BK717 := n1_; have HO724 := n2_; have BK726 := n3_; have HO730 := n4_; have BK732 := n5_; have HB := n6_; have HI720 := n7_; clear n0_ n1_ n2_ n3_ n4_ n5_ n6_ n7_; (try clear hb); (try clear hb2); (try clear hk); (try clear hi)))
    have n0_ := Aside0.mk (Kd.R_drew HO724.out)
    have n1_ := Aside0.mk (Kd.R_drew HO730.out)
    have n2_ := Aside0.mk (blk_drew BK716.out)
    have n3_ := Aside0.mk (blk_drew BK717.out)
    have n4_ := Aside0.mk (blk_drew BK726.out)
    have n5_ := Aside0.mk (blk_drew BK732.out)
    have n6_ := Aside0.mk (IsS81.drew HI720.out)
    have n7_ := Aside0.mk (below_drew1 HB.out)
    clear HO724
    clear HO730
    clear BK716
    clear BK717
    clear BK726
    clear BK732
    clear HI720
    clear HB
    have HO724 := n0_
    have HO730 := n1_
    have BK716 := n2_
    have BK717 := n3_
    have BK726 := n4_
    have BK732 := n5_
    have HI720 := n6_
    have HB := n7_
    clear n0_ n1_ n2_ n3_ n4_ n5_ n6_ n7_
    refine start_ (n := 4) (S := fun w' => w'.cell? ⟨gb726, 0, none⟩ = some (.bool t721) ∧ w'.cell? ⟨gb726, 1, none⟩ = some (.slice Ao83 t722.length co83) ∧ w'.cell? ⟨gb732, 0, none⟩ = some (.bool t727) ∧ w'.cell? ⟨gb732, 1, none⟩ = some (.slice Ao91 t728.length co91)) (ds := []) #[false, false, false, false] (by kernel_rfl) rfl rfl ⟨(blk_cell BK726.out 0).trans rfl, (blk_cell BK726.out 1).trans rfl, (blk_cell BK732.out 0).trans rfl, (blk_cell BK732.out 1).trans rfl⟩ (fun hHeld => ?_)
    generalize w92.drew = w93 at HO724 HO730 BK716 BK717 BK726 BK732 HI720 HB hHeld ⊢
    refine take_ (i := 0) (N := some 30) (v := ?_) (a' := ?_) #[true, false, false, false] rfl rfl (by kernel_rfl) (fun _ _ _ h => h) (Or.inl ⟨by rfl, ?_⟩) hHeld ?_ ?_
    rotate_left
    · rintro w' ⟨s0, s1, s2, s3⟩
      go_simp
      with_reducible rfl
    rotate_left
    · simp only [Act.put, List.setIfInBounds_toArray, List.set_cons_zero, List.set_cons_succ, i64_w, i32_w]
      rfl
    refine take_ (i := 1) (N := some 31) (v := ?_) (a' := ?_) #[true, true, false, false] rfl rfl (by kernel_rfl) (fun _ _ _ h => h) (Or.inl ⟨by rfl, ?_⟩) hHeld ?_ ?_
    rotate_left
    · rintro w' ⟨s0, s1, s2, s3⟩
      go_simp
      with_reducible rfl
    rotate_left
    · simp only [Act.put, List.setIfInBounds_toArray, List.set_cons_zero, List.set_cons_succ, i64_w, i32_w]
      rfl
    refine one_ (i := 2) (N := none) #[true, true, true, false] rfl rfl (by kernel_rfl) (by decide) (fun K hK => ?_)
    have hs94 : w93.cell? ⟨gb716, 0, none⟩ = some (.bool false) := (blk_cell BK716.out 0).trans rfl
    have hfs94 := blk_frozen BK716.out 0
    have hns94_1 := NB717_716.out
    have hns94_2 := NB726_716.out
    have hns94_3 := NB732_716.out
    have hms94_1 := NB716_717.out
    have hms94_2 := NB716_726.out
    have hms94_3 := NB716_732.out
    have hs95 : w93.cell? ⟨gb716, 1, none⟩ = some (.slice none 0 0) := (blk_cell BK716.out 1).trans rfl
    have hfs95 := blk_frozen BK716.out 1
    have hns95_1 := NB717_716.out
    have hns95_2 := NB726_716.out
    have hns95_3 := NB732_716.out
    have hms95_1 := NB716_717.out
    have hms95_2 := NB716_726.out
    have hms95_3 := NB716_732.out
    refine skip_ (w1 := ?_) (by rfl) rfl ?_ ?_
    rotate_left
    · go_simp
      rfl
    refine hK.out _ _ ⟨((cell_far (p := ⟨gb716, _, none⟩) NB726_716.out _).trans (((cell_far (p := ⟨gb716, _, none⟩) NB726_716.out _).trans (hHeld.1)))), ((cell_far (p := ⟨gb716, _, none⟩) NB726_716.out _).trans (((cell_far (p := ⟨gb716, _, none⟩) NB726_716.out _).trans (hHeld.2.1)))), ((cell_far (p := ⟨gb716, _, none⟩) NB732_716.out _).trans (((cell_far (p := ⟨gb716, _, none⟩) NB732_716.out _).trans (hHeld.2.2.1)))), ((cell_far (p := ⟨gb716, _, none⟩) NB732_716.out _).trans (((cell_far (p := ⟨gb716, _, none⟩) NB732_716.out _).trans (hHeld.2.2.2))))⟩ (fun hHeld => ?_)
    clear hK K
    refine one_ (i := 3) (N := none) #[true, true, true, true] rfl rfl (by kernel_rfl) (by decide) (fun K hK => ?_)
    have hs96 : w93.cell? ⟨gb717, 0, none⟩ = some (.bool false) := (blk_cell BK717.out 0).trans rfl
    have hfs96 := blk_frozen BK717.out 0
    have hns96_0 := NB716_717.out
    have hns96_2 := NB726_717.out
    have hns96_3 := NB732_717.out
    have hms96_0 := NB717_716.out
    have hms96_2 := NB717_726.out
    have hms96_3 := NB717_732.out
    have hs97 : w93.cell? ⟨gb717, 1, none⟩ = some (.slice none 0 0) := (blk_cell BK717.out 1).trans rfl
    have hfs97 := blk_frozen BK717.out 1
    have hns97_0 := NB716_717.out
    have hns97_2 := NB726_717.out
    have hns97_3 := NB732_717.out
    have hms97_0 := NB717_716.out
    have hms97_2 := NB717_726.out
    have hms97_3 := NB717_732.out
    refine skip_ (w1 := ?_) (by rfl) rfl ?_ ?_
    rotate_left
    · go_simp
      rfl
    refine hK.out _ _ ⟨((cell_far (p := ⟨gb717, _, none⟩) NB726_717.out _).trans (((cell_far (p := ⟨gb717, _, none⟩) NB726_717.out _).trans (hHeld.1)))), ((cell_far (p := ⟨gb717, _, none⟩) NB726_717.out _).trans (((cell_far (p := ⟨gb717, _, none⟩) NB726_717.out _).trans (hHeld.2.1)))), ((cell_far (p := ⟨gb717, _, none⟩) NB732_717.out _).trans (((cell_far (p := ⟨gb717, _, none⟩) NB732_717.out _).trans (hHeld.2.2.1)))), ((cell_far (p := ⟨gb717, _, none⟩) NB732_717.out _).trans (((cell_far (p := ⟨gb717, _, none⟩) NB732_717.out _).trans (hHeld.2.2.2))))⟩ (fun hHeld => ?_)
    clear hK K
    refine done_ (by kernel_rfl) ?_
    try go_wp2
    refine bodyPost_ret (results_cc rfl _ _ gb716 gb717 27 27 #[.bool t721, .slice Ao83 t722.length co83] #[.bool t727, .slice Ao91 t728.length co91] (0, 0) (0, 0) _ _ rfl (by (with_reducible repeat (first | refine blk_drewN ?_ _ | refine blk_drew ?_ | refine blk_alloc ?_ _)); refine blk_far ?_ NB716_717.out _; (with_reducible repeat (first | refine blk_drewN ?_ _ | refine blk_drew ?_ | refine blk_alloc ?_ _)); refine blk_far ?_ NB716_717.out _; (with_reducible repeat (first | refine blk_drewN ?_ _ | refine blk_drew ?_ | refine blk_alloc ?_ _)); refine blk_put (cs := #[.bool t721, .slice none 0 0]) ?_ 1 _ rfl; (with_reducible repeat (first | refine blk_drewN ?_ _ | refine blk_drew ?_ | refine blk_alloc ?_ _)); refine blk_put (cs := #[.bool false, .slice none 0 0]) ?_ 0 _ rfl; (with_reducible repeat (first | refine blk_drewN ?_ _ | refine blk_drew ?_ | refine blk_alloc ?_ _)); exact BK716.out) Try.underlying27 rfl (by kernel_rfl) rfl (by (with_reducible repeat (first | refine blk_drewN ?_ _ | refine blk_drew ?_ | refine blk_alloc ?_ _)); refine blk_put (cs := #[.bool t727, .slice none 0 0]) ?_ 1 _ rfl; (with_reducible repeat (first | refine blk_drewN ?_ _ | refine blk_drew ?_ | refine blk_alloc ?_ _)); refine blk_put (cs := #[.bool false, .slice none 0 0]) ?_ 0 _ rfl; (with_reducible repeat (first | refine blk_drewN ?_ _ | refine blk_drew ?_ | refine blk_alloc ?_ _)); refine blk_far ?_ NB717_716.out _; (with_reducible repeat (first | refine blk_drewN ?_ _ | refine blk_drew ?_ | refine blk_alloc ?_ _)); refine blk_far ?_ NB717_716.out _; (with_reducible repeat (first | refine blk_drewN ?_ _ | refine blk_drew ?_ | refine blk_alloc ?_ _)); exact BK717.out) Try.underlying27 rfl (by kernel_rfl)) rfl ?_
    exact ⟨_, _, by first | rfl | (simp [errW_none, errW_some] <;> rfl) | (simp [*, errW_none, errW_some] <;> rfl), by (with_reducible repeat (first | apply Kd.R_alloc | apply Kd.R_drewN | apply Kd.R_drew)); exact Kd.R_mono (Kd.R_far (p := ⟨gb717, 1, none⟩) (Kd.R_far (p := ⟨gb717, 0, none⟩) (Kd.R_far (p := ⟨gb716, 1, none⟩) (Kd.R_far (p := ⟨gb716, 0, none⟩) (Kd.R_types (Kd.R_types HO724.out BK716.out (by decide)) BK717.out (by decide)) (fun _ hk => hk.1.2) (.bool t721)) (fun _ hk => hk.1.2) (.slice Ao83 t722.length co83)) (fun _ hk => hk.2) (.bool t727)) (fun _ hk => hk.2) (.slice Ao91 t728.length co91)) (fun _ hk => hk.1.1.2), by (with_reducible repeat (first | apply Kd.R_alloc | apply Kd.R_drewN | apply Kd.R_drew)); exact Kd.R_mono (Kd.R_far (p := ⟨gb717, 1, none⟩) (Kd.R_far (p := ⟨gb717, 0, none⟩) (Kd.R_far (p := ⟨gb716, 1, none⟩) (Kd.R_far (p := ⟨gb716, 0, none⟩) (Kd.R_types (Kd.R_types HO730.out BK716.out (by decide)) BK717.out (by decide)) (fun _ hk => hk.1.2) (.bool t721)) (fun _ hk => hk.1.2) (.slice Ao83 t722.length co83)) (fun _ hk => hk.2) (.bool t727)) (fun _ hk => hk.2) (.slice Ao91 t728.length co91)) (fun _ hk => hk.1.1.2), by repeat (first | (with_reducible first | exact HB.out | apply below_alloc | apply pw_below_drewN | apply below_drew1 | refine below_set ?_ (IsS81.ge HI720.out) | refine below_set ?_ GE716.out | refine below_set ?_ GE717.out | refine below_set ?_ GE726.out | refine below_set ?_ GE732.out) | exact HB.out)⟩
def spec_DrawBigCmp.f (k : Nat) (l0 : List Int) : Option (Bool × List Int × Bool × List Int) := (spec_l14TwoBigs.f k l0).bind fun bt749 => (some (bt749.1, bt749.2.1, bt749.2.2.1, bt749.2.2.2))
def spec_DrawBigMul.f (k : Nat) (l0 : List Int) : Option (Bool × List Int × Bool × List Int) := (spec_l1Open.f l0).bind fun bt788 => ((spec_l1Rd_pick.f k bt788.1 bt788.2 3).bind fun bt791 => (if bt791.1 = 0 then ((spec_l14Big.f k bt788.1 bt791.2 64).bind fun bt793 => ((spec_l14Big.f k bt788.1 bt793.2.2 64).bind fun bt798 => (some (bt793.1, bt793.2.1, bt798.1, bt798.2.1)))) else ((spec_l14Big.f k bt788.1 bt791.2 33).bind fun bt803 => ((spec_l14Big.f k bt788.1 bt803.2.2 33).bind fun bt808 => (some (bt803.1, bt803.2.1, bt808.1, bt808.2.1))))))
def spec_DrawBigAdd.f (k : Nat) (l0 : List Int) : Option (Bool × List Int × Bool × List Int) := (spec_l14TwoBigs.f k l0).bind fun bt1218 => (some (bt1218.1, bt1218.2.1, bt1218.2.2.1, bt1218.2.2.2))
def spec_DrawBigSub.f (k : Nat) (l0 : List Int) : Option (Bool × List Int × Bool × List Int) := (spec_l14TwoBigs.f k l0).bind fun bt1266 => (some (bt1266.1, bt1266.2.1, bt1266.2.2.1, bt1266.2.2.2))
set_option maxHeartbeats 8000000 in
set_option maxRecDepth 100000 in
theorem spec_DrawBigSub.calls (k : Nat) (A0 : Option Addr) (c0 : Nat) (l0 : List Int) (r1 : Bool) (r2 : List Int) (r3 : Bool) (r4 : List Int) (w : World) (hr0 : Kd.C (Kd.int .u8) w A0 l0.length l0) (hc0 : l0.length ≤ c0) (h : spec_DrawBigSub.f k l0 = some (r1, r2, r3, r4)) :
    Calls Try.prog 46 #[.slice A0 l0.length c0] w fun e w' => ∃ v1_ v3_ : Value, e = .returned (.tuple #[.agg #[.bool r1, v1_], .agg #[.bool r3, v3_]]) ∧ Kd.R (Kd.int .i64) 3 w' w.heap.size (fun k_ => some k_ ≠ (v3_ : Value).ownBlock) v1_ r2 ∧ Kd.R (Kd.int .i64) 3 w' w.heap.size (fun k_ => some k_ ≠ (v1_ : Value).ownBlock) v3_ r4 ∧ Below w.heap.size w w' := by
  have hu27 := Try.underlying27
  have HR0 := Aside0.mk hr0
  have HC0 := Aside0.mk hc0
  clear hr0 hc0
  have HB := Aside0.mk (Below.refl w.heap.size w)
  have H : ((spec_l14TwoBigs.f k l0).bind fun bt1266 => (some (bt1266.1, bt1266.2.1, bt1266.2.2.1, bt1266.2.2.2))) = some (r1, r2, r3, r4) := h
  clear h
  replace H := Option.bind_eq_some_iff.mp H
  obtain ⟨⟨t1266, t1267, t1270, t1271⟩, A20, H⟩ := H
  replace H : (some (t1266, t1267, t1270, t1271)) = some (r1, r2, r3, r4) := H
  have A2 := Aside0.mk A20
  clear A20
  simp only [Option.some.injEq, Prod.mk.injEq] at H
  obtain ⟨rfl, rfl, rfl, rfl⟩ := H
  go_enter Try.func46, Try.ntmps46
  go_wp2_with (first | ((with_reducible refine gate_dst (N := 2) rfl ?_); refine box_event ?hg (N := 2) ?hd (cs := #[.bool false, .slice none 0 0]) (t := 27) ?hr ?_; (case hd => rfl); (case hg => rfl); (case hr => first | (go_simp; done) | (go_simp; rfl)); intro gb1264 hg w3 hbox hb; have n0_ := Aside0.mk (below_step zb hb); have n1_ := Aside0.mk (hbox); have n2_ := Aside0.mk ((by rw [hg]; exact (below_size zb) : w.heap.size ≤ gb1264)); have n3_ := Aside0.mk ((by rw [hg]; exact (below_size zb) : w.heap.size ≤ gb1264)); clear HB; have HB := n0_; have BK1264 := n1_; have GW1264 := n2_; have GE1264 := n3_; clear n0_ n1_ n2_ n3_; clear hb hbox hg) | ((with_reducible refine gate_dst (N := 3) rfl ?_); refine box_event ?hg (N := 3) ?hd (cs := #[.bool false, .slice none 0 0]) (t := 27) ?hr ?_; (case hd => rfl); (case hg => rfl); (case hr => first | (go_simp; done) | (go_simp; rfl)); intro gb1265 hg w4 hbox hb; have n0_ := Aside0.mk (blk_below (g := gb1264) (o := .cells #[.bool false, .slice none 0 0] 27 (0, 0)) (zk BK1264.out) hb); have n1_ := Aside0.mk (below_step zb hb); have n2_ := Aside0.mk (hbox); have n3_ := Aside0.mk ((by rw [hg]; exact (below_size zb) : w.heap.size ≤ gb1265)); have n4_ := Aside0.mk ((by rw [hg]; exact (below_size zb) : w.heap.size ≤ gb1265)); have n5_ := Aside0.mk ((by rw [hg]; exact Nat.ne_of_lt (blk_lt (g := gb1264) (o := .cells #[.bool false, .slice none 0 0] 27 (0, 0)) (zk BK1264.out)) : gb1264 ≠ gb1265)); have n6_ := Aside0.mk ((by rw [hg]; exact Nat.ne_of_gt (blk_lt (g := gb1264) (o := .cells #[.bool false, .slice none 0 0] 27 (0, 0)) (zk BK1264.out)) : gb1265 ≠ gb1264)); clear BK1264; clear HB; have BK1264 := n0_; have HB := n1_; have BK1265 := n2_; have GW1265 := n3_; have GE1265 := n4_; have NB1264_1265 := n5_; have NB1265_1264 := n6_; clear n0_ n1_ n2_ n3_ n4_ n5_ n6_; clear hb hbox hg) | ((with_reducible refine gate_callee (f := 75) rfl ?_); refine goesL_ (some 5) rfl rfl Try.func75 (by kernel_rfl) rfl #[.slice A0 l0.length c0] rfl za ?_; (with_reducible refine (spec_l14TwoBigs.calls k _ _ l0 t1266 t1267 t1270 t1271 _ ?side1 ?side2 A2.out).mono ?_); (case side1 => repeat (first | exact (Kd.C_below HR0.out HB.out) | (with_reducible refine Kd.C_alloc ?_ _) | (with_reducible refine Kd.C_drewN ?_ _) | (with_reducible refine Kd.C_drew ?_))); (case side2 => exact HC0.out); rintro e w5 ⟨v1268, v1272, rfl, ho0, ho1, hb⟩; refine ⟨_, rfl, ?_⟩; have n0_ := Aside0.mk (Kd.R_lower ho0 (below_size zb)); have n1_ := Aside0.mk (Kd.R_lower ho1 (below_size zb)); have n2_ := Aside0.mk (blk_below (g := gb1264) (o := .cells #[.bool false, .slice none 0 0] 27 (0, 0)) (zk BK1264.out) hb); have n3_ := Aside0.mk (blk_below (g := gb1265) (o := .cells #[.bool false, .slice none 0 0] 27 (0, 0)) (zk BK1265.out) hb); have n4_ := Aside0.mk (below_step zb hb); clear BK1264; clear BK1265; clear HB; have HO1269 := n0_; have HO1273 := n1_; have BK1264 := n2_; have BK1265 := n3_; have HB := n4_; clear n0_ n1_ n2_ n3_ n4_; (try clear hb); (try clear hb2); (try clear hk); (try clear hi); (try clear ho0); (try clear ho1); have hnb6 := NB1264_1265.out; have hnc6 := NB1265_1264.out; have hcz7_0 : w5.cell? ⟨gb1264, 0, none⟩ = some (.bool false) := (blk_cell BK1264.out 0).trans rfl; have hcz7_1 : w5.cell? ⟨gb1264, 1, none⟩ = some (.slice none 0 0) := (blk_cell BK1264.out 1).trans rfl; have hfz7_0 := blk_frozen BK1264.out 0; have hfz7_1 := blk_frozen BK1264.out 1; obtain ⟨Ao8, co8, eo8⟩ := Kd.R_slice HO1269.out; subst eo8; have hcz9_0 : w5.cell? ⟨gb1265, 0, none⟩ = some (.bool false) := (blk_cell BK1265.out 0).trans rfl; have hcz9_1 : w5.cell? ⟨gb1265, 1, none⟩ = some (.slice none 0 0) := (blk_cell BK1265.out 1).trans rfl; have hfz9_0 := blk_frozen BK1265.out 0; have hfz9_1 := blk_frozen BK1265.out 1; obtain ⟨Ao10, co10, eo10⟩ := Kd.R_slice HO1273.out; subst eo10))
  refine bodyPost_ret (results_cc rfl _ _ gb1264 gb1265 27 27 #[.bool t1266, .slice Ao8 t1267.length co8] #[.bool t1270, .slice Ao10 t1271.length co10] (0, 0) (0, 0) _ _ rfl (by (with_reducible repeat (first | refine blk_drewN ?_ _ | refine blk_drew ?_ | refine blk_alloc ?_ _)); refine blk_far ?_ NB1264_1265.out _; (with_reducible repeat (first | refine blk_drewN ?_ _ | refine blk_drew ?_ | refine blk_alloc ?_ _)); refine blk_far ?_ NB1264_1265.out _; (with_reducible repeat (first | refine blk_drewN ?_ _ | refine blk_drew ?_ | refine blk_alloc ?_ _)); refine blk_put (cs := #[.bool t1266, .slice none 0 0]) ?_ 1 _ rfl; (with_reducible repeat (first | refine blk_drewN ?_ _ | refine blk_drew ?_ | refine blk_alloc ?_ _)); refine blk_put (cs := #[.bool false, .slice none 0 0]) ?_ 0 _ rfl; (with_reducible repeat (first | refine blk_drewN ?_ _ | refine blk_drew ?_ | refine blk_alloc ?_ _)); exact BK1264.out) Try.underlying27 rfl (by kernel_rfl) rfl (by (with_reducible repeat (first | refine blk_drewN ?_ _ | refine blk_drew ?_ | refine blk_alloc ?_ _)); refine blk_put (cs := #[.bool t1270, .slice none 0 0]) ?_ 1 _ rfl; (with_reducible repeat (first | refine blk_drewN ?_ _ | refine blk_drew ?_ | refine blk_alloc ?_ _)); refine blk_put (cs := #[.bool false, .slice none 0 0]) ?_ 0 _ rfl; (with_reducible repeat (first | refine blk_drewN ?_ _ | refine blk_drew ?_ | refine blk_alloc ?_ _)); refine blk_far ?_ NB1265_1264.out _; (with_reducible repeat (first | refine blk_drewN ?_ _ | refine blk_drew ?_ | refine blk_alloc ?_ _)); refine blk_far ?_ NB1265_1264.out _; (with_reducible repeat (first | refine blk_drewN ?_ _ | refine blk_drew ?_ | refine blk_alloc ?_ _)); exact BK1265.out) Try.underlying27 rfl (by kernel_rfl)) rfl ?_
  exact ⟨_, _, by first | rfl | (simp [errW_none, errW_some] <;> rfl) | (simp [*, errW_none, errW_some] <;> rfl), by (with_reducible repeat (first | apply Kd.R_alloc | apply Kd.R_drewN | apply Kd.R_drew)); exact Kd.R_mono (Kd.R_far (p := ⟨gb1265, 1, none⟩) (Kd.R_far (p := ⟨gb1265, 0, none⟩) (Kd.R_far (p := ⟨gb1264, 1, none⟩) (Kd.R_far (p := ⟨gb1264, 0, none⟩) (Kd.R_types (Kd.R_types HO1269.out BK1264.out (by decide)) BK1265.out (by decide)) (fun _ hk => hk.1.2) (.bool t1266)) (fun _ hk => hk.1.2) (.slice Ao8 t1267.length co8)) (fun _ hk => hk.2) (.bool t1270)) (fun _ hk => hk.2) (.slice Ao10 t1271.length co10)) (fun _ hk => hk.1.1), by (with_reducible repeat (first | apply Kd.R_alloc | apply Kd.R_drewN | apply Kd.R_drew)); exact Kd.R_mono (Kd.R_far (p := ⟨gb1265, 1, none⟩) (Kd.R_far (p := ⟨gb1265, 0, none⟩) (Kd.R_far (p := ⟨gb1264, 1, none⟩) (Kd.R_far (p := ⟨gb1264, 0, none⟩) (Kd.R_types (Kd.R_types HO1273.out BK1264.out (by decide)) BK1265.out (by decide)) (fun _ hk => hk.1.2) (.bool t1266)) (fun _ hk => hk.1.2) (.slice Ao8 t1267.length co8)) (fun _ hk => hk.2) (.bool t1270)) (fun _ hk => hk.2) (.slice Ao10 t1271.length co10)) (fun _ hk => hk.1.1), zb⟩
end Go.Proofs.Ytdemeoncjcbojaa.Pr
end
