/- What the claim's row needs of the contracts and words below it, and no more. -/
import Derived.Test.YtdemeoncjcbojaaQOf1
section
namespace Go.Proofs.Ytdemeoncjcbojaa.Pr
open Go.RowKit Go.Proofs.YtdemeoncjcbojaaW.PrintWords Go.Proofs.YtdemeoncjcbojaaW.PrintLast Go.Proofs.Ytdemeoncjcbojaa.Ext Go.Proofs.YtdemeoncjcbojaaW.PrintMore
attribute [local go_sem] max2_int min2_int max_two min_two max_three min_three max_four min_four
set_option linter.unusedVariables false
set_option linter.unusedSimpArgs false
def impl_BigOf.f (k : Nat) (a0 : Int) : Option (Bool × List Int) := if a0 < 0 then ((impl_limbsOf.f k (IntKind.u64.wrap (-(IntKind.u64.wrap (a0))))).bind fun t179 => ((impl_big.f k (decide (a0 < 0)) t179).bind fun bt182 => (some (bt182.1, bt182.2.1)))) else ((impl_limbsOf.f k (IntKind.u64.wrap (a0))).bind fun t188 => ((impl_big.f k (decide (a0 < 0)) t188).bind fun bt191 => (some (bt191.1, bt191.2.1))))
set_option maxHeartbeats 8000000 in
set_option maxRecDepth 100000 in
theorem impl_BigOf.calls (k : Nat) (a0 : Int) (r1 : Bool) (r2 : List Int) (w : World) (h : impl_BigOf.f k a0 = some (r1, r2)) :
    Calls Try.prog 25 #[.int .i64 a0] w fun e w' => ∃ v1_ : Value, e = .returned (.agg #[.bool r1, v1_]) ∧ Kd.V (Kd.int .i64) 3 w' w.heap.size (fun k_ => (w.heap.size ≤ k_)) v1_ r2 ∧ Below w.heap.size w w' := by
  have hu27 := Try.underlying27
  have HB := Aside0.mk (Below.refl w.heap.size w)
  have H : (if a0 < 0 then ((impl_limbsOf.f k (IntKind.u64.wrap (-(IntKind.u64.wrap (a0))))).bind fun t179 => ((impl_big.f k (decide (a0 < 0)) t179).bind fun bt182 => (some (bt182.1, bt182.2.1)))) else ((impl_limbsOf.f k (IntKind.u64.wrap (a0))).bind fun t188 => ((impl_big.f k (decide (a0 < 0)) t188).bind fun bt191 => (some (bt191.1, bt191.2.1))))) = some (r1, r2) := h
  clear h
  by_cases c2 : a0 < 0
  · rw [if_pos c2, decide_eq_true c2] at H
    have c2b0 : decide (a0 < 0) = true := decide_eq_true c2
    clear c2
    replace H := Option.bind_eq_some_iff.mp H
    obtain ⟨t179, A30, H⟩ := H
    replace H : ((impl_big.f k true t179).bind fun bt182 => (some (bt182.1, bt182.2.1))) = some (r1, r2) := H
    have A3 := Aside0.mk A30
    clear A30
    replace H := Option.bind_eq_some_iff.mp H
    obtain ⟨⟨t182, t183, t186⟩, A40, H⟩ := H
    replace H : (some (t182, t183)) = some (r1, r2) := H
    have A4 := Aside0.mk A40
    clear A40
    simp only [Option.some.injEq, Prod.mk.injEq] at H
    obtain ⟨rfl, rfl⟩ := H
    go_enter Try.func25, Try.ntmps25
    go_wp2_with (first | ((with_reducible refine gate_dst (N := 2) rfl ?_); refine box_event ?hg (N := 2) ?hd (cs := #[.bool false, .slice none 0 0]) (t := 27) ?hr ?_; (case hd => rfl); (case hg => rfl); (case hr => first | (go_simp; done) | (go_simp; rfl)); intro gb178 hg w5 hbox hb; have n0_ := Aside0.mk (below_step zb hb); have n1_ := Aside0.mk (hbox); have n2_ := Aside0.mk ((by rw [hg]; exact (below_size zb) : w.heap.size ≤ gb178)); have n3_ := Aside0.mk ((by rw [hg]; exact (below_size zb) : w.heap.size ≤ gb178)); clear HB; have HB := n0_; have BK178 := n1_; have GW178 := n2_; have GE178 := n3_; clear n0_ n1_ n2_ n3_; clear hb hbox hg) | ((with_reducible refine gate_callee (f := 56) rfl ?_); refine goesL_ (some 16) rfl rfl Try.func56 (by kernel_rfl) rfl #[.int .u64 (IntKind.u64.wrap (-(IntKind.u64.wrap (a0))))] rfl za ?_; (with_reducible refine (impl_limbsOf.calls k (IntKind.u64.wrap (-(IntKind.u64.wrap (a0)))) t179 _ A3.out).mono ?_); rintro e w6 ⟨v180, rfl, ho0, hb⟩; refine ⟨_, rfl, ?_⟩; have n0_ := Aside0.mk (Kd.R_lower (Kd.R_newM (M := fun k_ => (w.heap.size ≤ k_)) ho0 (below_size zb) (fun k_ h_ => h_)) (below_size zb)); have n1_ := Aside0.mk (blk_below (g := gb178) (o := .cells #[.bool false, .slice none 0 0] 27 (0, 0)) (zk BK178.out) hb); have n2_ := Aside0.mk (below_step zb hb); clear BK178; clear HB; have HO181 := n0_; have BK178 := n1_; have HB := n2_; clear n0_ n1_ n2_; (try clear hb); (try clear hb2); (try clear hk); (try clear hi); (try clear ho0); obtain ⟨Ao7, co7, eo7⟩ := Kd.R_slice HO181.out; subst eo7) | ((with_reducible refine gate_callee (f := 55) rfl ?_); refine goesL_ (some 17) rfl rfl Try.func55 (by kernel_rfl) rfl #[.bool true, .slice Ao7 t179.length co7] rfl za ?_; (with_reducible refine (impl_big.calls k true (fun k_ => some k_ = (.slice Ao7 t179.length co7 : Value).ownBlock) _ _ t179 t182 t183 t186 _ ?side1 A4.out).mono ?_); (case side1 => exact Kd.R_V (Kd.R_tight rfl (Kd.R_types (HO181.out) BK178.out (by decide)))); rintro e w8 ⟨v184, rfl, ho0, hb⟩; refine ⟨_, rfl, ?_⟩; have n0_ := Aside0.mk (Kd.R_below (zR HO181.out) hb); have n1_ := Aside0.mk (Kd.V_lower (Kd.V_mono (ok' := fun k_ => (w.heap.size ≤ k_) ∧ k_ ≠ gb178) ho0 (fun k_ hk_ => ⟨Or.elim hk_ (fun hs_ => ((Kd.R_types (HO181.out) BK178.out (by decide)).1 k_ hs_.symm).1.1) (fun hn_ => (Nat.le_trans (below_size zb) hn_)), Or.elim hk_ (fun hs_ => ((Kd.R_types (HO181.out) BK178.out (by decide)).1 k_ hs_.symm).2) (fun hn_ => (Kd.freshB (g := gb178) (o := .cells #[.bool false, .slice none 0 0] 27 (0, 0)) (zk BK178.out) k_ hn_))⟩)) (below_size zb)); have n2_ := Aside0.mk (blk_below (g := gb178) (o := .cells #[.bool false, .slice none 0 0] 27 (0, 0)) (zk BK178.out) hb); have n3_ := Aside0.mk (below_step zb hb); clear HO181; clear BK178; clear HB; have HO181 := n0_; have HO185 := n1_; have BK178 := n2_; have HB := n3_; clear n0_ n1_ n2_ n3_; (try clear hb); (try clear hb2); (try clear hk); (try clear hi); (try clear ho0)) | ((with_reducible refine gate_dst (N := 4) rfl ?_); refine box_event ?hg (N := 4) ?hd (cs := #[.bool false, .slice none 0 0]) (t := 27) ?hr ?_; (case hd => rfl); (case hg => rfl); (case hr => first | (go_simp; done) | (go_simp; rfl)); intro gb187 hg w9 hbox hb; have n0_ := Aside0.mk (Kd.R_below (zR HO181.out) hb); have n1_ := Aside0.mk (Kd.V_below (Kd.V_elderB (zV HO185.out) gb187 (Nat.le_of_eq hg.symm)) hb); have n2_ := Aside0.mk (blk_below (g := gb178) (o := .cells #[.bool false, .slice none 0 0] 27 (0, 0)) (zk BK178.out) hb); have n3_ := Aside0.mk (below_step zb hb); have n4_ := Aside0.mk (hbox); have n5_ := Aside0.mk ((by rw [hg]; exact (below_size zb) : w.heap.size ≤ gb187)); have n6_ := Aside0.mk ((by rw [hg]; exact (below_size zb) : w.heap.size ≤ gb187)); have n7_ := Aside0.mk ((by rw [hg]; exact Nat.ne_of_lt (blk_lt (g := gb178) (o := .cells #[.bool false, .slice none 0 0] 27 (0, 0)) (zk BK178.out)) : gb178 ≠ gb187)); have n8_ := Aside0.mk ((by rw [hg]; exact Nat.ne_of_gt (blk_lt (g := gb178) (o := .cells #[.bool false, .slice none 0 0] 27 (0, 0)) (zk BK178.out)) : gb187 ≠ gb178)); clear HO181; clear HO185; clear BK178; clear HB; have HO181 := n0_; have HO185 := n1_; have BK178 := n2_; have HB := n3_; have BK187 := n4_; have GW187 := n5_; have GE187 := n6_; have NB178_187 := n7_; have NB187_178 := n8_; clear n0_ n1_ n2_ n3_ n4_ n5_ n6_ n7_ n8_; clear hb hbox hg; have hnb10 := NB187_178.out; have hnc10 := NB178_187.out; have hcz11_0 : w9.cell? ⟨gb187, 0, none⟩ = some (.bool false) := (blk_cell BK187.out 0).trans rfl; have hcz11_1 : w9.cell? ⟨gb187, 1, none⟩ = some (.slice none 0 0) := (blk_cell BK187.out 1).trans rfl; have hfz11_0 := blk_frozen BK187.out 0; have hfz11_1 := blk_frozen BK187.out 1; obtain ⟨Ao12, co12, eo12⟩ := Kd.V_slice HO185.out; subst eo12; have hcz13_0 : w9.cell? ⟨gb178, 0, none⟩ = some (.bool false) := (blk_cell BK178.out 0).trans rfl; have hcz13_1 : w9.cell? ⟨gb178, 1, none⟩ = some (.slice none 0 0) := (blk_cell BK178.out 1).trans rfl; have hfz13_0 := blk_frozen BK178.out 0; have hfz13_1 := blk_frozen BK178.out 1))
    refine bodyPost_ret (results_cell_row rfl _ _ gb178 27 #[.bool t182, .slice Ao12 t183.length co12] (0, 0) _ rfl (by (with_reducible repeat (first | refine blk_drewN ?_ _ | refine blk_drew ?_ | refine blk_alloc ?_ _)); refine blk_put (cs := #[.bool t182, .slice none 0 0]) ?_ 1 _ rfl; (with_reducible repeat (first | refine blk_drewN ?_ _ | refine blk_drew ?_ | refine blk_alloc ?_ _)); refine blk_put (cs := #[.bool false, .slice none 0 0]) ?_ 0 _ rfl; (with_reducible repeat (first | refine blk_drewN ?_ _ | refine blk_drew ?_ | refine blk_alloc ?_ _)); refine blk_far ?_ NB178_187.out _; (with_reducible repeat (first | refine blk_drewN ?_ _ | refine blk_drew ?_ | refine blk_alloc ?_ _)); refine blk_far ?_ NB178_187.out _; (with_reducible repeat (first | refine blk_drewN ?_ _ | refine blk_drew ?_ | refine blk_alloc ?_ _)); exact BK178.out) Try.underlying27 rfl (by kernel_rfl)) rfl ?_
    exact ⟨_, by first | rfl | (simp [errW_none, errW_some] <;> rfl) | (simp [*, errW_none, errW_some] <;> rfl), by (with_reducible repeat (first | apply Kd.V_alloc | apply Kd.V_drewN | apply Kd.V_drew)); exact Kd.V_mono (Kd.V_far (p := ⟨gb178, 1, none⟩) (Kd.V_far (p := ⟨gb178, 0, none⟩) (Kd.V_far (p := ⟨gb187, 1, none⟩) (Kd.V_far (p := ⟨gb187, 0, none⟩) (Kd.V_mono (Kd.V_mono HO185.out (fun k_ hk => (⟨hk, hk.2⟩ : _ ∧ k_ ≠ gb187))) (fun k_ hk => (⟨hk, hk.1.1.2⟩ : _ ∧ k_ ≠ gb178))) (fun _ hk => hk.1.2) (.bool t182)) (fun _ hk => hk.1.2) (.slice Ao12 t183.length co12)) (fun _ hk => hk.2) (.bool t182)) (fun _ hk => hk.2) (.slice Ao12 t183.length co12)) (fun _ hk => hk.1.1.1.1), zb⟩
  · rw [if_neg c2, decide_eq_false c2] at H
    have c2b0 : decide (a0 < 0) = false := decide_eq_false c2
    clear c2
    replace H := Option.bind_eq_some_iff.mp H
    obtain ⟨t188, A140, H⟩ := H
    replace H : ((impl_big.f k false t188).bind fun bt191 => (some (bt191.1, bt191.2.1))) = some (r1, r2) := H
    have A14 := Aside0.mk A140
    clear A140
    replace H := Option.bind_eq_some_iff.mp H
    obtain ⟨⟨t191, t192, t195⟩, A150, H⟩ := H
    replace H : (some (t191, t192)) = some (r1, r2) := H
    have A15 := Aside0.mk A150
    clear A150
    simp only [Option.some.injEq, Prod.mk.injEq] at H
    obtain ⟨rfl, rfl⟩ := H
    go_enter Try.func25, Try.ntmps25
    go_wp2_with (first | ((with_reducible refine gate_dst (N := 2) rfl ?_); refine box_event ?hg (N := 2) ?hd (cs := #[.bool false, .slice none 0 0]) (t := 27) ?hr ?_; (case hd => rfl); (case hg => rfl); (case hr => first | (go_simp; done) | (go_simp; rfl)); intro gb178 hg w16 hbox hb; have n0_ := Aside0.mk (below_step zb hb); have n1_ := Aside0.mk (hbox); have n2_ := Aside0.mk ((by rw [hg]; exact (below_size zb) : w.heap.size ≤ gb178)); have n3_ := Aside0.mk ((by rw [hg]; exact (below_size zb) : w.heap.size ≤ gb178)); clear HB; have HB := n0_; have BK178 := n1_; have GW178 := n2_; have GE178 := n3_; clear n0_ n1_ n2_ n3_; clear hb hbox hg) | ((with_reducible refine gate_callee (f := 56) rfl ?_); refine goesL_ (some 16) rfl rfl Try.func56 (by kernel_rfl) rfl #[.int .u64 (IntKind.u64.wrap (a0))] rfl za ?_; (with_reducible refine (impl_limbsOf.calls k (IntKind.u64.wrap (a0)) t188 _ A14.out).mono ?_); rintro e w17 ⟨v189, rfl, ho0, hb⟩; refine ⟨_, rfl, ?_⟩; have n0_ := Aside0.mk (Kd.R_lower (Kd.R_newM (M := fun k_ => (w.heap.size ≤ k_)) ho0 (below_size zb) (fun k_ h_ => h_)) (below_size zb)); have n1_ := Aside0.mk (blk_below (g := gb178) (o := .cells #[.bool false, .slice none 0 0] 27 (0, 0)) (zk BK178.out) hb); have n2_ := Aside0.mk (below_step zb hb); clear BK178; clear HB; have HO190 := n0_; have BK178 := n1_; have HB := n2_; clear n0_ n1_ n2_; (try clear hb); (try clear hb2); (try clear hk); (try clear hi); (try clear ho0); obtain ⟨Ao18, co18, eo18⟩ := Kd.R_slice HO190.out; subst eo18) | ((with_reducible refine gate_callee (f := 55) rfl ?_); refine goesL_ (some 17) rfl rfl Try.func55 (by kernel_rfl) rfl #[.bool false, .slice Ao18 t188.length co18] rfl za ?_; (with_reducible refine (impl_big.calls k false (fun k_ => some k_ = (.slice Ao18 t188.length co18 : Value).ownBlock) _ _ t188 t191 t192 t195 _ ?side1 A15.out).mono ?_); (case side1 => exact Kd.R_V (Kd.R_tight rfl (Kd.R_types (HO190.out) BK178.out (by decide)))); rintro e w19 ⟨v193, rfl, ho0, hb⟩; refine ⟨_, rfl, ?_⟩; have n0_ := Aside0.mk (Kd.R_below (zR HO190.out) hb); have n1_ := Aside0.mk (Kd.V_lower (Kd.V_mono (ok' := fun k_ => (w.heap.size ≤ k_) ∧ k_ ≠ gb178) ho0 (fun k_ hk_ => ⟨Or.elim hk_ (fun hs_ => ((Kd.R_types (HO190.out) BK178.out (by decide)).1 k_ hs_.symm).1.1) (fun hn_ => (Nat.le_trans (below_size zb) hn_)), Or.elim hk_ (fun hs_ => ((Kd.R_types (HO190.out) BK178.out (by decide)).1 k_ hs_.symm).2) (fun hn_ => (Kd.freshB (g := gb178) (o := .cells #[.bool false, .slice none 0 0] 27 (0, 0)) (zk BK178.out) k_ hn_))⟩)) (below_size zb)); have n2_ := Aside0.mk (blk_below (g := gb178) (o := .cells #[.bool false, .slice none 0 0] 27 (0, 0)) (zk BK178.out) hb); have n3_ := Aside0.mk (below_step zb hb); clear HO190; clear BK178; clear HB; have HO190 := n0_; have HO194 := n1_; have BK178 := n2_; have HB := n3_; clear n0_ n1_ n2_ n3_; (try clear hb); (try clear hb2); (try clear hk); (try clear hi); (try clear ho0)) | ((with_reducible refine gate_dst (N := 4) rfl ?_); refine box_event ?hg (N := 4) ?hd (cs := #[.bool false, .slice none 0 0]) (t := 27) ?hr ?_; (case hd => rfl); (case hg => rfl); (case hr => first | (go_simp; done) | (go_simp; rfl)); intro gb196 hg w20 hbox hb; have n0_ := Aside0.mk (Kd.R_below (zR HO190.out) hb); have n1_ := Aside0.mk (Kd.V_below (Kd.V_elderB (zV HO194.out) gb196 (Nat.le_of_eq hg.symm)) hb); have n2_ := Aside0.mk (blk_below (g := gb178) (o := .cells #[.bool false, .slice none 0 0] 27 (0, 0)) (zk BK178.out) hb); have n3_ := Aside0.mk (below_step zb hb); have n4_ := Aside0.mk (hbox); have n5_ := Aside0.mk ((by rw [hg]; exact (below_size zb) : w.heap.size ≤ gb196)); have n6_ := Aside0.mk ((by rw [hg]; exact (below_size zb) : w.heap.size ≤ gb196)); have n7_ := Aside0.mk ((by rw [hg]; exact Nat.ne_of_lt (blk_lt (g := gb178) (o := .cells #[.bool false, .slice none 0 0] 27 (0, 0)) (zk BK178.out)) : gb178 ≠ gb196)); have n8_ := Aside0.mk ((by rw [hg]; exact Nat.ne_of_gt (blk_lt (g := gb178) (o := .cells #[.bool false, .slice none 0 0] 27 (0, 0)) (zk BK178.out)) : gb196 ≠ gb178)); clear HO190; clear HO194; clear BK178; clear HB; have HO190 := n0_; have HO194 := n1_; have BK178 := n2_; have HB := n3_; have BK196 := n4_; have GW196 := n5_; have GE196 := n6_; have NB178_196 := n7_; have NB196_178 := n8_; clear n0_ n1_ n2_ n3_ n4_ n5_ n6_ n7_ n8_; clear hb hbox hg; have hnb21 := NB196_178.out; have hnc21 := NB178_196.out; have hcz22_0 : w20.cell? ⟨gb196, 0, none⟩ = some (.bool false) := (blk_cell BK196.out 0).trans rfl; have hcz22_1 : w20.cell? ⟨gb196, 1, none⟩ = some (.slice none 0 0) := (blk_cell BK196.out 1).trans rfl; have hfz22_0 := blk_frozen BK196.out 0; have hfz22_1 := blk_frozen BK196.out 1; obtain ⟨Ao23, co23, eo23⟩ := Kd.V_slice HO194.out; subst eo23; have hcz24_0 : w20.cell? ⟨gb178, 0, none⟩ = some (.bool false) := (blk_cell BK178.out 0).trans rfl; have hcz24_1 : w20.cell? ⟨gb178, 1, none⟩ = some (.slice none 0 0) := (blk_cell BK178.out 1).trans rfl; have hfz24_0 := blk_frozen BK178.out 0; have hfz24_1 := blk_frozen BK178.out 1))
    refine bodyPost_ret (results_cell_row rfl _ _ gb178 27 #[.bool t191, .slice Ao23 t192.length co23] (0, 0) _ rfl (by (with_reducible repeat (first | refine blk_drewN ?_ _ | refine blk_drew ?_ | refine blk_alloc ?_ _)); refine blk_put (cs := #[.bool t191, .slice none 0 0]) ?_ 1 _ rfl; (with_reducible repeat (first | refine blk_drewN ?_ _ | refine blk_drew ?_ | refine blk_alloc ?_ _)); refine blk_put (cs := #[.bool false, .slice none 0 0]) ?_ 0 _ rfl; (with_reducible repeat (first | refine blk_drewN ?_ _ | refine blk_drew ?_ | refine blk_alloc ?_ _)); refine blk_far ?_ NB178_196.out _; (with_reducible repeat (first | refine blk_drewN ?_ _ | refine blk_drew ?_ | refine blk_alloc ?_ _)); refine blk_far ?_ NB178_196.out _; (with_reducible repeat (first | refine blk_drewN ?_ _ | refine blk_drew ?_ | refine blk_alloc ?_ _)); exact BK178.out) Try.underlying27 rfl (by kernel_rfl)) rfl ?_
    exact ⟨_, by first | rfl | (simp [errW_none, errW_some] <;> rfl) | (simp [*, errW_none, errW_some] <;> rfl), by (with_reducible repeat (first | apply Kd.V_alloc | apply Kd.V_drewN | apply Kd.V_drew)); exact Kd.V_mono (Kd.V_far (p := ⟨gb178, 1, none⟩) (Kd.V_far (p := ⟨gb178, 0, none⟩) (Kd.V_far (p := ⟨gb196, 1, none⟩) (Kd.V_far (p := ⟨gb196, 0, none⟩) (Kd.V_mono (Kd.V_mono HO194.out (fun k_ hk => (⟨hk, hk.2⟩ : _ ∧ k_ ≠ gb196))) (fun k_ hk => (⟨hk, hk.1.1.2⟩ : _ ∧ k_ ≠ gb178))) (fun _ hk => hk.1.2) (.bool t191)) (fun _ hk => hk.1.2) (.slice Ao23 t192.length co23)) (fun _ hk => hk.2) (.bool t191)) (fun _ hk => hk.2) (.slice Ao23 t192.length co23)) (fun _ hk => hk.1.1.1.1), zb⟩
def impl_Big_signed.f (a0_0 : Bool) (l0_1 : List Int) : Option (Bool × List Int) := some (a0_0, l0_1)
set_option maxHeartbeats 8000000 in
set_option maxRecDepth 100000 in
theorem impl_Big_signed.calls (a0_0 : Bool) (P0_1_ : Nat → Prop) (A0_1 : Option Addr) (c0_1 : Nat) (l0_1 : List Int) (r1 : Bool) (r2 : List Int) (w : World) (hs0_1 : Kd.V (Kd.int .i64) 3 w w.heap.size (fun k_ => P0_1_ k_) (.slice A0_1 l0_1.length c0_1) l0_1) (h : impl_Big_signed.f a0_0 l0_1 = some (r1, r2)) :
    Calls Try.prog 68 #[.agg #[.bool a0_0, .slice A0_1 l0_1.length c0_1]] w fun e w' => ∃ v1_ : Value, e = .returned (.agg #[.bool r1, v1_]) ∧ Kd.V (Kd.int .i64) 3 w' w.heap.size (fun k_ => (P0_1_ k_ ∨ w.heap.size ≤ k_)) v1_ r2 ∧ Below w.heap.size w w' := by
  have hu27 := Try.underlying27
  have hu64 := Try.underlying64
  have HO0_1 := Aside0.mk (show Kd.V (Kd.int .i64) 3 w w.heap.size (fun k_ => (P0_1_ k_ ∨ w.heap.size ≤ k_)) (.slice A0_1 l0_1.length c0_1) l0_1 from Kd.V_mono hs0_1 (fun k_ hk => .inl hk))
  have HB := Aside0.mk (Below.refl w.heap.size w)
  have H : (some (a0_0, l0_1)) = some (r1, r2) := h
  clear h
  simp only [Option.some.injEq, Prod.mk.injEq] at H
  obtain ⟨rfl, rfl⟩ := H
  go_enter Try.func68, Try.ntmps68
  go_wp2_with (first | ((with_reducible refine gate_dst (N := 1) rfl ?_); refine box_event ?hg (N := 1) ?hd (cs := #[.bool a0_0, .slice A0_1 l0_1.length c0_1]) (t := 27) ?hr ?_; (case hd => rfl); (case hg => rfl); (case hr => first | (go_simp; done) | (go_simp; rfl)); intro gb333 hg w2 hbox hb; have n0_ := Aside0.mk (Kd.V_below (Kd.V_elderB (zV HO0_1.out) gb333 (Nat.le_of_eq hg.symm)) hb); have n1_ := Aside0.mk (below_step zb hb); have n2_ := Aside0.mk (hbox); have n3_ := Aside0.mk ((by rw [hg]; exact (below_size zb) : w.heap.size ≤ gb333)); have n4_ := Aside0.mk ((by rw [hg]; exact (below_size zb) : w.heap.size ≤ gb333)); clear HO0_1; clear HB; have HO0_1 := n0_; have HB := n1_; have BK333 := n2_; have GW333 := n3_; have GE333 := n4_; clear n0_ n1_ n2_ n3_ n4_; clear hb hbox hg) | ((with_reducible refine gate_dst (N := 2) rfl ?_); refine box_event ?hg (N := 2) ?hd (cs := #[.bool false, .slice none 0 0]) (t := 64) ?hr ?_; (case hd => rfl); (case hg => rfl); (case hr => first | (go_simp; done) | (go_simp; rfl)); intro gb334 hg w3 hbox hb; have n0_ := Aside0.mk (Kd.V_below (Kd.V_elderB (zV HO0_1.out) gb334 (Nat.le_of_eq hg.symm)) hb); have n1_ := Aside0.mk (blk_below (g := gb333) (o := .cells #[.bool a0_0, .slice A0_1 l0_1.length c0_1] 27 (0, 0)) (zk BK333.out) hb); have n2_ := Aside0.mk (below_step zb hb); have n3_ := Aside0.mk (hbox); have n4_ := Aside0.mk ((by rw [hg]; exact (below_size zb) : w.heap.size ≤ gb334)); have n5_ := Aside0.mk ((by rw [hg]; exact (below_size zb) : w.heap.size ≤ gb334)); have n6_ := Aside0.mk ((by rw [hg]; exact Nat.ne_of_lt (blk_lt (g := gb333) (o := .cells #[.bool a0_0, .slice A0_1 l0_1.length c0_1] 27 (0, 0)) (zk BK333.out)) : gb333 ≠ gb334)); have n7_ := Aside0.mk ((by rw [hg]; exact Nat.ne_of_gt (blk_lt (g := gb333) (o := .cells #[.bool a0_0, .slice A0_1 l0_1.length c0_1] 27 (0, 0)) (zk BK333.out)) : gb334 ≠ gb333)); clear HO0_1; clear BK333; clear HB; have HO0_1 := n0_; have BK333 := n1_; have HB := n2_; have BK334 := n3_; have GW334 := n4_; have GE334 := n5_; have NB333_334 := n6_; have NB334_333 := n7_; clear n0_ n1_ n2_ n3_ n4_ n5_ n6_ n7_; clear hb hbox hg; have hnb4 := NB333_334.out; have hnc4 := NB334_333.out; have hcz5_0 : w3.cell? ⟨gb333, 0, none⟩ = some (.bool a0_0) := (blk_cell BK333.out 0).trans rfl; have hcz5_1 : w3.cell? ⟨gb333, 1, none⟩ = some (.slice A0_1 l0_1.length c0_1) := (blk_cell BK333.out 1).trans rfl; have hfz5_0 := blk_frozen BK333.out 0; have hfz5_1 := blk_frozen BK333.out 1; have hcz6_0 : w3.cell? ⟨gb334, 0, none⟩ = some (.bool false) := (blk_cell BK334.out 0).trans rfl; have hcz6_1 : w3.cell? ⟨gb334, 1, none⟩ = some (.slice none 0 0) := (blk_cell BK334.out 1).trans rfl; have hfz6_0 := blk_frozen BK334.out 0; have hfz6_1 := blk_frozen BK334.out 1))
  refine bodyPost_ret (results_cell_row rfl _ _ gb334 64 #[.bool a0_0, .slice A0_1 l0_1.length c0_1] (0, 0) _ rfl (by (with_reducible repeat (first | refine blk_drewN ?_ _ | refine blk_drew ?_ | refine blk_alloc ?_ _)); refine blk_put (cs := #[.bool a0_0, .slice none 0 0]) ?_ 1 _ rfl; (with_reducible repeat (first | refine blk_drewN ?_ _ | refine blk_drew ?_ | refine blk_alloc ?_ _)); refine blk_put (cs := #[.bool false, .slice none 0 0]) ?_ 0 _ rfl; (with_reducible repeat (first | refine blk_drewN ?_ _ | refine blk_drew ?_ | refine blk_alloc ?_ _)); exact BK334.out) Try.underlying64 rfl (by kernel_rfl)) rfl ?_
  exact ⟨_, by first | rfl | (simp [errW_none, errW_some] <;> rfl) | (simp [*, errW_none, errW_some] <;> rfl), by (with_reducible repeat (first | apply Kd.V_alloc | apply Kd.V_drewN | apply Kd.V_drew)); exact Kd.V_mono (Kd.V_far (p := ⟨gb334, 1, none⟩) (Kd.V_far (p := ⟨gb334, 0, none⟩) (Kd.V_mono HO0_1.out (fun k_ hk => (⟨hk, hk.2⟩ : _ ∧ k_ ≠ gb334))) (fun _ hk => hk.2) (.bool a0_0)) (fun _ hk => hk.2) (.slice A0_1 l0_1.length c0_1)) (fun _ hk => hk.1.1.1), zb⟩
def impl_signed_add.f (k : Nat) (a0_0 : Bool) (l0_1 : List Int) (a1_0 : Bool) (l1_1 : List Int) : Option (Bool × List Int) := if (a0_0 == a1_0) = true then ((impl_limbs_add.f k l0_1 l1_1).bind fun t370 => (some (a0_0, t370))) else ((impl_limbs_cmp.f k l0_1 l1_1).bind fun t373 => (if t373 ≥ 0 then ((impl_limbs_sub.f k l0_1 l1_1).bind fun t374 => (some (a0_0, t374))) else ((impl_limbs_sub.f k l1_1 l0_1).bind fun t377 => (some (a1_0, t377)))))
def impl_signed_add.T2 : Bool × List (List Nat × List Nat) := (true, [([], []), ([0], [0]), ([], []), ([2], [2]), ([], []), ([4], [4]), ([3, 5], [3, 5]), ([1, 6], [1, 6]), ([7, 6, 0, 1, 2, 3, 4, 5, 6, 7], [7])])
def impl_signed_add.B2 : List Nat := [0, 1, 0, 4, 0, 16, 60, 127, 255]
theorem impl_signed_add.tab2 : rtab .any (opsOf Try.f69 2) = impl_signed_add.T2 := by kernel_rfl
theorem impl_signed_add.bits2 : waitsOk impl_signed_add.T2.2 impl_signed_add.B2 = true := by kernel_rfl
def impl_signed_add.T4 : Bool × List (List Nat × List Nat) := (true, [([], []), ([0], [0]), ([], []), ([2], [2]), ([], []), ([4], [4]), ([3, 5], [3, 5]), ([1, 6], [1, 6]), ([7, 6, 0, 1, 2, 3, 4, 5, 6, 7], [7])])
def impl_signed_add.B4 : List Nat := [0, 1, 0, 4, 0, 16, 60, 127, 255]
theorem impl_signed_add.tab4 : rtab .any (opsOf Try.f69 4) = impl_signed_add.T4 := by kernel_rfl
theorem impl_signed_add.bits4 : waitsOk impl_signed_add.T4.2 impl_signed_add.B4 = true := by kernel_rfl
def impl_signed_add.T5 : Bool × List (List Nat × List Nat) := (true, [([], []), ([0], [0]), ([], []), ([2], [2]), ([], []), ([4], [4]), ([3, 5], [3, 5]), ([1, 6], [1, 6]), ([7, 6, 0, 1, 2, 3, 4, 5, 6, 7], [7])])
def impl_signed_add.B5 : List Nat := [0, 1, 0, 4, 0, 16, 60, 127, 255]
theorem impl_signed_add.tab5 : rtab .any (opsOf Try.f69 5) = impl_signed_add.T5 := by kernel_rfl
theorem impl_signed_add.bits5 : waitsOk impl_signed_add.T5.2 impl_signed_add.B5 = true := by kernel_rfl
set_option maxHeartbeats 8000000 in
set_option maxRecDepth 100000 in
theorem impl_signed_add.calls (k : Nat) (a0_0 : Bool) (A0_1 : Option Addr) (c0_1 : Nat) (l0_1 : List Int) (a1_0 : Bool) (A1_1 : Option Addr) (c1_1 : Nat) (l1_1 : List Int) (r1 : Bool) (r2 : List Int) (w : World) (hr0_1 : Kd.C (Kd.int .i64) w A0_1 l0_1.length l0_1) (hc0_1 : l0_1.length ≤ c0_1) (hr1_1 : Kd.C (Kd.int .i64) w A1_1 l1_1.length l1_1) (hc1_1 : l1_1.length ≤ c1_1) (h : impl_signed_add.f k a0_0 l0_1 a1_0 l1_1 = some (r1, r2)) :
    Calls Try.prog 69 #[.agg #[.bool a0_0, .slice A0_1 l0_1.length c0_1], .agg #[.bool a1_0, .slice A1_1 l1_1.length c1_1]] w fun e w' => ∃ v1_ : Value, e = .returned (.agg #[.bool r1, v1_]) ∧ Kd.V (Kd.int .i64) 3 w' w.heap.size (fun k_ => (w.heap.size ≤ k_)) v1_ r2 ∧ Below w.heap.size w w' := by
  have hu64 := Try.underlying64
  have HR0_1 := Aside0.mk hr0_1
  have HC0_1 := Aside0.mk hc0_1
  clear hr0_1 hc0_1
  have HR1_1 := Aside0.mk hr1_1
  have HC1_1 := Aside0.mk hc1_1
  clear hr1_1 hc1_1
  have HB := Aside0.mk (Below.refl w.heap.size w)
  have H : (if (a0_0 == a1_0) = true then ((impl_limbs_add.f k l0_1 l1_1).bind fun t370 => (some (a0_0, t370))) else ((impl_limbs_cmp.f k l0_1 l1_1).bind fun t373 => (if t373 ≥ 0 then ((impl_limbs_sub.f k l0_1 l1_1).bind fun t374 => (some (a0_0, t374))) else ((impl_limbs_sub.f k l1_1 l0_1).bind fun t377 => (some (a1_0, t377)))))) = some (r1, r2) := h
  clear h
  by_cases c3 : (a0_0 == a1_0) = true
  · rw [if_pos c3] at H
    have c3b0 : (a0_0 == a1_0) = true := c3
    (try (have c3b1 : decide (a0_0 = a1_0) = true := by simpa using c3))
    (try (have c3b2 : (a0_0 == a1_0) = true := by simpa using c3))
    clear c3
    replace H := Option.bind_eq_some_iff.mp H
    obtain ⟨t370, A40, H⟩ := H
    replace H : (some (a0_0, t370)) = some (r1, r2) := H
    have A4 := Aside0.mk A40
    clear A40
    simp only [Option.some.injEq, Prod.mk.injEq] at H
    obtain ⟨rfl, rfl⟩ := H
    go_enter Try.func69, Try.ntmps69
    try go_wp2_with (first | ((with_reducible refine gate_dst (N := 2) rfl ?_); refine box_event ?hg (N := 2) ?hd (cs := #[.bool a0_0, .slice A0_1 l0_1.length c0_1]) (t := 64) ?hr ?_; (case hd => rfl); (case hg => rfl); (case hr => first | (go_simp; done) | (go_simp; rfl)); intro gb367 hg w5 hbox hb; have n0_ := Aside0.mk (below_step zb hb); have n1_ := Aside0.mk (hbox); have n2_ := Aside0.mk ((by rw [hg]; exact (below_size zb) : w.heap.size ≤ gb367)); have n3_ := Aside0.mk ((by rw [hg]; exact (below_size zb) : w.heap.size ≤ gb367)); clear HB; have HB := n0_; have BK367 := n1_; have GW367 := n2_; have GE367 := n3_; clear n0_ n1_ n2_ n3_; clear hb hbox hg) | ((with_reducible refine gate_dst (N := 3) rfl ?_); refine box_event ?hg (N := 3) ?hd (cs := #[.bool a1_0, .slice A1_1 l1_1.length c1_1]) (t := 64) ?hr ?_; (case hd => rfl); (case hg => rfl); (case hr => first | (go_simp; done) | (go_simp; rfl)); intro gb368 hg w6 hbox hb; have n0_ := Aside0.mk (blk_below (g := gb367) (o := .cells #[.bool a0_0, .slice A0_1 l0_1.length c0_1] 64 (0, 0)) (zk BK367.out) hb); have n1_ := Aside0.mk (below_step zb hb); have n2_ := Aside0.mk (hbox); have n3_ := Aside0.mk ((by rw [hg]; exact (below_size zb) : w.heap.size ≤ gb368)); have n4_ := Aside0.mk ((by rw [hg]; exact (below_size zb) : w.heap.size ≤ gb368)); have n5_ := Aside0.mk ((by rw [hg]; exact Nat.ne_of_lt (blk_lt (g := gb367) (o := .cells #[.bool a0_0, .slice A0_1 l0_1.length c0_1] 64 (0, 0)) (zk BK367.out)) : gb367 ≠ gb368)); have n6_ := Aside0.mk ((by rw [hg]; exact Nat.ne_of_gt (blk_lt (g := gb367) (o := .cells #[.bool a0_0, .slice A0_1 l0_1.length c0_1] 64 (0, 0)) (zk BK367.out)) : gb368 ≠ gb367)); clear BK367; clear HB; have BK367 := n0_; have HB := n1_; have BK368 := n2_; have GW368 := n3_; have GE368 := n4_; have NB367_368 := n5_; have NB368_367 := n6_; clear n0_ n1_ n2_ n3_ n4_ n5_ n6_; clear hb hbox hg) | ((with_reducible refine gate_dst (N := 4) rfl ?_); refine box_event ?hg (N := 4) ?hd (cs := #[.bool false, .slice none 0 0]) (t := 64) ?hr ?_; (case hd => rfl); (case hg => rfl); (case hr => first | (go_simp; done) | (go_simp; rfl)); intro gb369 hg w7 hbox hb; have n0_ := Aside0.mk (blk_below (g := gb367) (o := .cells #[.bool a0_0, .slice A0_1 l0_1.length c0_1] 64 (0, 0)) (zk BK367.out) hb); have n1_ := Aside0.mk (blk_below (g := gb368) (o := .cells #[.bool a1_0, .slice A1_1 l1_1.length c1_1] 64 (0, 0)) (zk BK368.out) hb); have n2_ := Aside0.mk (below_step zb hb); have n3_ := Aside0.mk (hbox); have n4_ := Aside0.mk ((by rw [hg]; exact (below_size zb) : w.heap.size ≤ gb369)); have n5_ := Aside0.mk ((by rw [hg]; exact (below_size zb) : w.heap.size ≤ gb369)); have n6_ := Aside0.mk ((by rw [hg]; exact Nat.ne_of_lt (blk_lt (g := gb367) (o := .cells #[.bool a0_0, .slice A0_1 l0_1.length c0_1] 64 (0, 0)) (zk BK367.out)) : gb367 ≠ gb369)); have n7_ := Aside0.mk ((by rw [hg]; exact Nat.ne_of_gt (blk_lt (g := gb367) (o := .cells #[.bool a0_0, .slice A0_1 l0_1.length c0_1] 64 (0, 0)) (zk BK367.out)) : gb369 ≠ gb367)); have n8_ := Aside0.mk ((by rw [hg]; exact Nat.ne_of_lt (blk_lt (g := gb368) (o := .cells #[.bool a1_0, .slice A1_1 l1_1.length c1_1] 64 (0, 0)) (zk BK368.out)) : gb368 ≠ gb369)); have n9_ := Aside0.mk ((by rw [hg]; exact Nat.ne_of_gt (blk_lt (g := gb368) (o := .cells #[.bool a1_0, .slice A1_1 l1_1.length c1_1] 64 (0, 0)) (zk BK368.out)) : gb369 ≠ gb368)); clear BK367; clear BK368; clear HB; have BK367 := n0_; have BK368 := n1_; have HB := n2_; have BK369 := n3_; have GW369 := n4_; have GE369 := n5_; have NB367_369 := n6_; have NB369_367 := n7_; have NB368_369 := n8_; have NB369_368 := n9_; clear n0_ n1_ n2_ n3_ n4_ n5_ n6_ n7_ n8_ n9_; clear hb hbox hg; have hnb8 := NB367_368.out; have hnc8 := NB368_367.out; have hnb9 := NB367_369.out; have hnc9 := NB369_367.out; have hcz10_0 : w7.cell? ⟨gb367, 0, none⟩ = some (.bool a0_0) := (blk_cell BK367.out 0).trans rfl; have hcz10_1 : w7.cell? ⟨gb367, 1, none⟩ = some (.slice A0_1 l0_1.length c0_1) := (blk_cell BK367.out 1).trans rfl; have hfz10_0 := blk_frozen BK367.out 0; have hfz10_1 := blk_frozen BK367.out 1; have hnb11 := NB368_369.out; have hnc11 := NB369_368.out; have hcz12_0 : w7.cell? ⟨gb368, 0, none⟩ = some (.bool a1_0) := (blk_cell BK368.out 0).trans rfl; have hcz12_1 : w7.cell? ⟨gb368, 1, none⟩ = some (.slice A1_1 l1_1.length c1_1) := (blk_cell BK368.out 1).trans rfl; have hfz12_0 := blk_frozen BK368.out 0; have hfz12_1 := blk_frozen BK368.out 1))
    have n0_ := Aside0.mk (blk_drew BK367.out)
    have n1_ := Aside0.mk (blk_drew BK368.out)
    have n2_ := Aside0.mk (blk_drew BK369.out)
    have n3_ := Aside0.mk (below_drew1 HB.out)
    clear BK367
    clear BK368
    clear BK369
    clear HB
    have BK367 := n0_
    have BK368 := n1_
    have BK369 := n2_
    have HB := n3_
    clear n0_ n1_ n2_ n3_
    refine start_ (n := 9) (S := fun w' => w'.cell? ⟨gb367, 0, none⟩ = some (.bool a0_0) ∧ w'.cell? ⟨gb367, 1, none⟩ = some (.slice A0_1 l0_1.length c0_1) ∧ w'.cell? ⟨gb368, 0, none⟩ = some (.bool a1_0) ∧ w'.cell? ⟨gb368, 1, none⟩ = some (.slice A1_1 l1_1.length c1_1)) (ds := []) #[false, false, false, false, false, false, false, false, false] (by kernel_rfl) rfl rfl ⟨(blk_cell BK367.out 0).trans rfl, (blk_cell BK367.out 1).trans rfl, (blk_cell BK368.out 0).trans rfl, (blk_cell BK368.out 1).trans rfl⟩ (fun hHeld => ?_); refine with_tabW impl_signed_add.tab2 impl_signed_add.bits2 (fun HT_ HW_ => ?_)
    generalize w7.drew = w13 at BK367 BK368 BK369 HB hHeld ⊢
    refine pure_ (i := 0) (N := some 11) (v := ?_) (a' := ?_) #[true, false, false, false, false, false, false, false, false] rfl rfl (any_of HT_.out (by kernel_rfl)) (fun _ _ _ h => h) (Or.inl ⟨by rfl, ?_⟩) ?_ ?_
    rotate_left
    · intro w'
      go_simp
      with_reducible rfl
    rotate_left
    · simp only [Act.put, List.setIfInBounds_toArray, List.set_cons_zero, List.set_cons_succ, i64_w, i32_w]
      rfl
    refine pure_ (i := 2) (N := some 13) (v := ?_) (a' := ?_) #[true, false, true, false, false, false, false, false, false] rfl rfl (any_of HT_.out (by kernel_rfl)) (fun _ _ _ h => h) (Or.inl ⟨by rfl, ?_⟩) ?_ ?_
    rotate_left
    · intro w'
      go_simp
      with_reducible rfl
    rotate_left
    · simp only [Act.put, List.setIfInBounds_toArray, List.set_cons_zero, List.set_cons_succ, i64_w, i32_w]
      rfl
    refine pure_ (i := 4) (N := some 15) (v := ?_) (a' := ?_) #[true, false, true, false, true, false, false, false, false] rfl rfl (any_of HT_.out (by kernel_rfl)) (fun _ _ _ h => h) (Or.inl ⟨by rfl, ?_⟩) ?_ ?_
    rotate_left
    · intro w'
      go_simp
      with_reducible rfl
    rotate_left
    · simp only [Act.put, List.setIfInBounds_toArray, List.set_cons_zero, List.set_cons_succ, i64_w, i32_w]
      rfl
    refine take_ (i := 1) (N := some 12) (v := ?_) (a' := ?_) #[true, true, true, false, true, false, false, false, false] rfl rfl (take_ofW HT_.out HW_.out (by kernel_rfl)) (fun _ _ _ h => h) (Or.inl ⟨by rfl, ?_⟩) hHeld ?_ ?_
    rotate_left
    · rintro w' ⟨s0, s1, s2, s3⟩
      go_simp
      with_reducible rfl
    rotate_left
    · simp only [Act.put, List.setIfInBounds_toArray, List.set_cons_zero, List.set_cons_succ, i64_w, i32_w]
      rfl
    refine take_ (i := 3) (N := some 14) (v := ?_) (a' := ?_) #[true, true, true, true, true, false, false, false, false] rfl rfl (take_ofW HT_.out HW_.out (by kernel_rfl)) (fun _ _ _ h => h) (Or.inl ⟨by rfl, ?_⟩) hHeld ?_ ?_
    rotate_left
    · rintro w' ⟨s0, s1, s2, s3⟩
      go_simp
      with_reducible rfl
    rotate_left
    · simp only [Act.put, List.setIfInBounds_toArray, List.set_cons_zero, List.set_cons_succ, i64_w, i32_w]
      rfl
    refine take_ (i := 5) (N := some 16) (v := ?_) (a' := ?_) #[true, true, true, true, true, true, false, false, false] rfl rfl (take_ofW HT_.out HW_.out (by kernel_rfl)) (fun _ _ _ h => h) (Or.inl ⟨by rfl, ?_⟩) hHeld ?_ ?_
    rotate_left
    · rintro w' ⟨s0, s1, s2, s3⟩
      go_simp
      with_reducible rfl
    rotate_left
    · simp only [Act.put, List.setIfInBounds_toArray, List.set_cons_zero, List.set_cons_succ, i64_w, i32_w]
      rfl
    refine one_ (i := 6) (N := some 17) #[true, true, true, true, true, true, true, false, false] rfl rfl (one_of HT_.out (by kernel_rfl)) (by decide) (fun K hK => ?_)
    refine goes_ Try.func86 (by kernel_rfl) rfl #[.slice A0_1 l0_1.length c0_1, .slice A1_1 l1_1.length c1_1] (by rfl) rfl rfl za ?_
    with_reducible refine (impl_limbs_add.calls k _ _ l0_1 _ _ l1_1 t370 _ ?side1 ?side2 ?side3 ?side4 A4.out).mono ?_
    (case side1 => repeat (first | exact (Kd.C_below HR0_1.out HB.out) | (with_reducible refine Kd.C_alloc ?_ _) | (with_reducible refine Kd.C_drewN ?_ _) | (with_reducible refine Kd.C_drew ?_)))
    (case side2 => exact HC0_1.out)
    (case side3 => repeat (first | exact (Kd.C_below HR1_1.out HB.out) | (with_reducible refine Kd.C_alloc ?_ _) | (with_reducible refine Kd.C_drewN ?_ _) | (with_reducible refine Kd.C_drew ?_)))
    (case side4 => exact HC1_1.out)
    rintro e w14 ⟨v371, rfl, ho0, hb⟩
    refine ⟨_, rfl, ?_⟩
    have n0_ := Aside0.mk (Kd.V_lower (Kd.V_mono (ok' := fun k_ => (w.heap.size ≤ k_) ∧ k_ ≠ gb367 ∧ k_ ≠ gb368 ∧ k_ ≠ gb369) ho0 (fun k_ hk_ => ⟨(Nat.le_trans (below_size zb) hk_), (Kd.freshB (g := gb367) (o := .cells #[.bool a0_0, .slice A0_1 l0_1.length c0_1] 64 (0, 0)) (zk BK367.out) k_ hk_), (Kd.freshB (g := gb368) (o := .cells #[.bool a1_0, .slice A1_1 l1_1.length c1_1] 64 (0, 0)) (zk BK368.out) k_ hk_), (Kd.freshB (g := gb369) (o := .cells #[.bool false, .slice none 0 0] 64 (0, 0)) (zk BK369.out) k_ hk_)⟩)) (below_size zb))
    have n1_ := Aside0.mk (blk_below (g := gb367) (o := .cells #[.bool a0_0, .slice A0_1 l0_1.length c0_1] 64 (0, 0)) (zk BK367.out) hb)
    have n2_ := Aside0.mk (blk_below (g := gb368) (o := .cells #[.bool a1_0, .slice A1_1 l1_1.length c1_1] 64 (0, 0)) (zk BK368.out) hb)
    have n3_ := Aside0.mk (blk_below (g := gb369) (o := .cells #[.bool false, .slice none 0 0] 64 (0, 0)) (zk BK369.out) hb)
    have n4_ := Aside0.mk (below_step zb hb)
    clear BK367
    clear BK368
    clear BK369
    clear HB
    have HO372 := n0_
    have BK367 := n1_
    have BK368 := n2_
    have BK369 := n3_
    have HB := n4_
    clear n0_ n1_ n2_ n3_ n4_
    (try clear hb)
    (try clear hb2)
    (try clear hk)
    (try clear hi)
    (try clear ho0)
    obtain ⟨Ao15, co15, eo15⟩ := Kd.V_slice HO372.out
    (first | subst eo15 | (injection eo15 with f1_ f2_ f3_; have f4_ := f1_.symm; have f5_ := f3_.symm; clear f1_ f2_ f3_; subst f4_; subst f5_))
    refine hK.out _ _ ⟨(blk_cell BK367.out 0).trans rfl, (blk_cell BK367.out 1).trans rfl, (blk_cell BK368.out 0).trans rfl, (blk_cell BK368.out 1).trans rfl⟩ (fun hHeld => ?_)
    clear hK K
    refine norm_ (a' := ?_) ?_ ?_
    rotate_left
    · show Act.put _ (some 17) _ = _
      simp only [Act.put, List.setIfInBounds_toArray, List.set_cons_zero, List.set_cons_succ, i64_w, i32_w]
      rfl
    refine pure_ (i := 7) (N := some 18) (v := ?_) (a' := ?_) #[true, true, true, true, true, true, true, true, false] rfl rfl (any_of HT_.out (by kernel_rfl)) (fun _ _ _ h => h) (Or.inl ⟨by rfl, ?_⟩) ?_ ?_
    rotate_left
    · intro w'
      go_simp
      with_reducible rfl
    rotate_left
    · simp only [Act.put, List.setIfInBounds_toArray, List.set_cons_zero, List.set_cons_succ, i64_w, i32_w]
      rfl
    refine one_ (i := 8) (N := none) #[true, true, true, true, true, true, true, true, true] rfl rfl (one_of HT_.out (by kernel_rfl)) (by decide) (fun K hK => ?_)
    have hs16 : w14.cell? ⟨gb369, 0, none⟩ = some (.bool false) := (blk_cell BK369.out 0).trans rfl
    have hfs16 := blk_frozen BK369.out 0
    have hns16_0 := NB367_369.out
    have hns16_1 := NB368_369.out
    have hms16_0 := NB369_367.out
    have hms16_1 := NB369_368.out
    have hs17 : w14.cell? ⟨gb369, 1, none⟩ = some (.slice none 0 0) := (blk_cell BK369.out 1).trans rfl
    have hfs17 := blk_frozen BK369.out 1
    have hns17_0 := NB367_369.out
    have hns17_1 := NB368_369.out
    have hms17_0 := NB369_367.out
    have hms17_1 := NB369_368.out
    refine skip_ (w1 := ?_) (by rfl) rfl ?_ ?_
    rotate_left
    · go_simp
      rfl
    refine hK.out _ _ ⟨((cell_far (p := ⟨gb369, _, none⟩) NB367_369.out _).trans (((cell_far (p := ⟨gb369, _, none⟩) NB367_369.out _).trans (hHeld.1)))), ((cell_far (p := ⟨gb369, _, none⟩) NB367_369.out _).trans (((cell_far (p := ⟨gb369, _, none⟩) NB367_369.out _).trans (hHeld.2.1)))), ((cell_far (p := ⟨gb369, _, none⟩) NB368_369.out _).trans (((cell_far (p := ⟨gb369, _, none⟩) NB368_369.out _).trans (hHeld.2.2.1)))), ((cell_far (p := ⟨gb369, _, none⟩) NB368_369.out _).trans (((cell_far (p := ⟨gb369, _, none⟩) NB368_369.out _).trans (hHeld.2.2.2))))⟩ (fun hHeld => ?_)
    clear hK K
    refine done_ (done_of HT_.out (by kernel_rfl)) ?_
    try go_wp2
    refine bodyPost_ret (results_cell_row rfl _ _ gb369 64 #[.bool a0_0, .slice Ao15 t370.length co15] (0, 0) _ rfl (by (with_reducible repeat (first | refine blk_drewN ?_ _ | refine blk_drew ?_ | refine blk_alloc ?_ _)); refine blk_put (cs := #[.bool a0_0, .slice none 0 0]) ?_ 1 _ rfl; (with_reducible repeat (first | refine blk_drewN ?_ _ | refine blk_drew ?_ | refine blk_alloc ?_ _)); refine blk_put (cs := #[.bool false, .slice none 0 0]) ?_ 0 _ rfl; (with_reducible repeat (first | refine blk_drewN ?_ _ | refine blk_drew ?_ | refine blk_alloc ?_ _)); exact BK369.out) Try.underlying64 rfl (by kernel_rfl)) rfl ?_
    exact ⟨_, by first | rfl | (simp [errW_none, errW_some] <;> rfl) | (simp [*, errW_none, errW_some] <;> rfl), by (with_reducible repeat (first | apply Kd.V_alloc | apply Kd.V_drewN | apply Kd.V_drew)); exact Kd.V_mono (Kd.V_far (p := ⟨gb369, 1, none⟩) (Kd.V_far (p := ⟨gb369, 0, none⟩) (Kd.V_mono HO372.out (fun k_ hk => (⟨hk, hk.2.2.2⟩ : _ ∧ k_ ≠ gb369))) (fun _ hk => hk.2) (.bool a0_0)) (fun _ hk => hk.2) (.slice Ao15 t370.length co15)) (fun _ hk => hk.1.1), zb⟩
  · rw [if_neg c3] at H
    have c3b0 : (a0_0 == a1_0) = false := by simpa using c3
    (try (have c3b1 : decide (a0_0 = a1_0) = false := by simpa using c3))
    (try (have c3b2 : (a0_0 == a1_0) = false := by simpa using c3))
    (try (have c3b3 : ¬ (a0_0 = a1_0) := by simpa using c3))
    clear c3
    replace H := Option.bind_eq_some_iff.mp H
    obtain ⟨t373, A180, H⟩ := H
    replace H : (if t373 ≥ 0 then ((impl_limbs_sub.f k l0_1 l1_1).bind fun t374 => (some (a0_0, t374))) else ((impl_limbs_sub.f k l1_1 l0_1).bind fun t377 => (some (a1_0, t377)))) = some (r1, r2) := H
    have A18 := Aside0.mk A180
    clear A180
    by_cases c19 : t373 ≥ 0
    · rw [if_pos c19] at H
      have c19b0 : decide (0 ≤ t373) = true := decide_eq_true c19
      clear c19
      replace H := Option.bind_eq_some_iff.mp H
      obtain ⟨t374, A200, H⟩ := H
      replace H : (some (a0_0, t374)) = some (r1, r2) := H
      have A20 := Aside0.mk A200
      clear A200
      simp only [Option.some.injEq, Prod.mk.injEq] at H
      obtain ⟨rfl, rfl⟩ := H
      go_enter Try.func69, Try.ntmps69
      try go_wp2_with (first | ((with_reducible refine gate_dst (N := 2) rfl ?_); refine box_event ?hg (N := 2) ?hd (cs := #[.bool a0_0, .slice A0_1 l0_1.length c0_1]) (t := 64) ?hr ?_; (case hd => rfl); (case hg => rfl); (case hr => first | (go_simp; done) | (go_simp; rfl)); intro gb367 hg w21 hbox hb; have n0_ := Aside0.mk (below_step zb hb); have n1_ := Aside0.mk (hbox); have n2_ := Aside0.mk ((by rw [hg]; exact (below_size zb) : w.heap.size ≤ gb367)); have n3_ := Aside0.mk ((by rw [hg]; exact (below_size zb) : w.heap.size ≤ gb367)); clear HB; have HB := n0_; have BK367 := n1_; have GW367 := n2_; have GE367 := n3_; clear n0_ n1_ n2_ n3_; clear hb hbox hg) | ((with_reducible refine gate_dst (N := 3) rfl ?_); refine box_event ?hg (N := 3) ?hd (cs := #[.bool a1_0, .slice A1_1 l1_1.length c1_1]) (t := 64) ?hr ?_; (case hd => rfl); (case hg => rfl); (case hr => first | (go_simp; done) | (go_simp; rfl)); intro gb368 hg w22 hbox hb; have n0_ := Aside0.mk (blk_below (g := gb367) (o := .cells #[.bool a0_0, .slice A0_1 l0_1.length c0_1] 64 (0, 0)) (zk BK367.out) hb); have n1_ := Aside0.mk (below_step zb hb); have n2_ := Aside0.mk (hbox); have n3_ := Aside0.mk ((by rw [hg]; exact (below_size zb) : w.heap.size ≤ gb368)); have n4_ := Aside0.mk ((by rw [hg]; exact (below_size zb) : w.heap.size ≤ gb368)); have n5_ := Aside0.mk ((by rw [hg]; exact Nat.ne_of_lt (blk_lt (g := gb367) (o := .cells #[.bool a0_0, .slice A0_1 l0_1.length c0_1] 64 (0, 0)) (zk BK367.out)) : gb367 ≠ gb368)); have n6_ := Aside0.mk ((by rw [hg]; exact Nat.ne_of_gt (blk_lt (g := gb367) (o := .cells #[.bool a0_0, .slice A0_1 l0_1.length c0_1] 64 (0, 0)) (zk BK367.out)) : gb368 ≠ gb367)); clear BK367; clear HB; have BK367 := n0_; have HB := n1_; have BK368 := n2_; have GW368 := n3_; have GE368 := n4_; have NB367_368 := n5_; have NB368_367 := n6_; clear n0_ n1_ n2_ n3_ n4_ n5_ n6_; clear hb hbox hg) | ((with_reducible refine gate_dst (N := 4) rfl ?_); refine box_event ?hg (N := 4) ?hd (cs := #[.bool false, .slice none 0 0]) (t := 64) ?hr ?_; (case hd => rfl); (case hg => rfl); (case hr => first | (go_simp; done) | (go_simp; rfl)); intro gb369 hg w23 hbox hb; have n0_ := Aside0.mk (blk_below (g := gb367) (o := .cells #[.bool a0_0, .slice A0_1 l0_1.length c0_1] 64 (0, 0)) (zk BK367.out) hb); have n1_ := Aside0.mk (blk_below (g := gb368) (o := .cells #[.bool a1_0, .slice A1_1 l1_1.length c1_1] 64 (0, 0)) (zk BK368.out) hb); have n2_ := Aside0.mk (below_step zb hb); have n3_ := Aside0.mk (hbox); have n4_ := Aside0.mk ((by rw [hg]; exact (below_size zb) : w.heap.size ≤ gb369)); have n5_ := Aside0.mk ((by rw [hg]; exact (below_size zb) : w.heap.size ≤ gb369)); have n6_ := Aside0.mk ((by rw [hg]; exact Nat.ne_of_lt (blk_lt (g := gb367) (o := .cells #[.bool a0_0, .slice A0_1 l0_1.length c0_1] 64 (0, 0)) (zk BK367.out)) : gb367 ≠ gb369)); have n7_ := Aside0.mk ((by rw [hg]; exact Nat.ne_of_gt (blk_lt (g := gb367) (o := .cells #[.bool a0_0, .slice A0_1 l0_1.length c0_1] 64 (0, 0)) (zk BK367.out)) : gb369 ≠ gb367)); have n8_ := Aside0.mk ((by rw [hg]; exact Nat.ne_of_lt (blk_lt (g := gb368) (o := .cells #[.bool a1_0, .slice A1_1 l1_1.length c1_1] 64 (0, 0)) (zk BK368.out)) : gb368 ≠ gb369)); have n9_ := Aside0.mk ((by rw [hg]; exact Nat.ne_of_gt (blk_lt (g := gb368) (o := .cells #[.bool a1_0, .slice A1_1 l1_1.length c1_1] 64 (0, 0)) (zk BK368.out)) : gb369 ≠ gb368)); clear BK367; clear BK368; clear HB; have BK367 := n0_; have BK368 := n1_; have HB := n2_; have BK369 := n3_; have GW369 := n4_; have GE369 := n5_; have NB367_369 := n6_; have NB369_367 := n7_; have NB368_369 := n8_; have NB369_368 := n9_; clear n0_ n1_ n2_ n3_ n4_ n5_ n6_ n7_ n8_ n9_; clear hb hbox hg; have hnb24 := NB367_368.out; have hnc24 := NB368_367.out; have hnb25 := NB367_369.out; have hnc25 := NB369_367.out; have hcz26_0 : w23.cell? ⟨gb367, 0, none⟩ = some (.bool a0_0) := (blk_cell BK367.out 0).trans rfl; have hcz26_1 : w23.cell? ⟨gb367, 1, none⟩ = some (.slice A0_1 l0_1.length c0_1) := (blk_cell BK367.out 1).trans rfl; have hfz26_0 := blk_frozen BK367.out 0; have hfz26_1 := blk_frozen BK367.out 1; have hnb27 := NB368_369.out; have hnc27 := NB369_368.out; have hcz28_0 : w23.cell? ⟨gb368, 0, none⟩ = some (.bool a1_0) := (blk_cell BK368.out 0).trans rfl; have hcz28_1 : w23.cell? ⟨gb368, 1, none⟩ = some (.slice A1_1 l1_1.length c1_1) := (blk_cell BK368.out 1).trans rfl; have hfz28_0 := blk_frozen BK368.out 0; have hfz28_1 := blk_frozen BK368.out 1) | ((with_reducible refine gate_callee (f := 87) rfl ?_); refine goesL_ (some 24) rfl rfl Try.func87 (by kernel_rfl) rfl #[.slice A0_1 l0_1.length c0_1, .slice A1_1 l1_1.length c1_1] rfl za ?_; (with_reducible refine (impl_limbs_cmp.calls k _ _ l0_1 _ _ l1_1 t373 _ ?side1 ?side2 ?side3 ?side4 A18.out).mono ?_); (case side1 => repeat (first | exact (Kd.C_below HR0_1.out HB.out) | (with_reducible refine Kd.C_alloc ?_ _) | (with_reducible refine Kd.C_drewN ?_ _) | (with_reducible refine Kd.C_drew ?_))); (case side2 => exact HC0_1.out); (case side3 => repeat (first | exact (Kd.C_below HR1_1.out HB.out) | (with_reducible refine Kd.C_alloc ?_ _) | (with_reducible refine Kd.C_drewN ?_ _) | (with_reducible refine Kd.C_drew ?_))); (case side4 => exact HC1_1.out); rintro e w29 ⟨rfl, hb⟩; refine ⟨_, rfl, ?_⟩; have n0_ := Aside0.mk (blk_below (g := gb367) (o := .cells #[.bool a0_0, .slice A0_1 l0_1.length c0_1] 64 (0, 0)) (zk BK367.out) hb); have n1_ := Aside0.mk (blk_below (g := gb368) (o := .cells #[.bool a1_0, .slice A1_1 l1_1.length c1_1] 64 (0, 0)) (zk BK368.out) hb); have n2_ := Aside0.mk (blk_below (g := gb369) (o := .cells #[.bool false, .slice none 0 0] 64 (0, 0)) (zk BK369.out) hb); have n3_ := Aside0.mk (below_step zb hb); clear BK367; clear BK368; clear BK369; clear HB; have BK367 := n0_; have BK368 := n1_; have BK369 := n2_; have HB := n3_; clear n0_ n1_ n2_ n3_; (try clear hb); (try clear hb2); (try clear hk); (try clear hi)))
      have n0_ := Aside0.mk (blk_drew BK367.out)
      have n1_ := Aside0.mk (blk_drew BK368.out)
      have n2_ := Aside0.mk (blk_drew BK369.out)
      have n3_ := Aside0.mk (below_drew1 HB.out)
      clear BK367
      clear BK368
      clear BK369
      clear HB
      have BK367 := n0_
      have BK368 := n1_
      have BK369 := n2_
      have HB := n3_
      clear n0_ n1_ n2_ n3_
      refine start_ (n := 9) (S := fun w' => w'.cell? ⟨gb367, 0, none⟩ = some (.bool a0_0) ∧ w'.cell? ⟨gb367, 1, none⟩ = some (.slice A0_1 l0_1.length c0_1) ∧ w'.cell? ⟨gb368, 0, none⟩ = some (.bool a1_0) ∧ w'.cell? ⟨gb368, 1, none⟩ = some (.slice A1_1 l1_1.length c1_1)) (ds := []) #[false, false, false, false, false, false, false, false, false] (by kernel_rfl) rfl rfl ⟨(blk_cell BK367.out 0).trans rfl, (blk_cell BK367.out 1).trans rfl, (blk_cell BK368.out 0).trans rfl, (blk_cell BK368.out 1).trans rfl⟩ (fun hHeld => ?_); refine with_tabW impl_signed_add.tab4 impl_signed_add.bits4 (fun HT_ HW_ => ?_)
      generalize w29.drew = w30 at BK367 BK368 BK369 HB hHeld ⊢
      refine pure_ (i := 0) (N := some 26) (v := ?_) (a' := ?_) #[true, false, false, false, false, false, false, false, false] rfl rfl (any_of HT_.out (by kernel_rfl)) (fun _ _ _ h => h) (Or.inl ⟨by rfl, ?_⟩) ?_ ?_
      rotate_left
      · intro w'
        go_simp
        with_reducible rfl
      rotate_left
      · simp only [Act.put, List.setIfInBounds_toArray, List.set_cons_zero, List.set_cons_succ, i64_w, i32_w]
        rfl
      refine pure_ (i := 2) (N := some 28) (v := ?_) (a' := ?_) #[true, false, true, false, false, false, false, false, false] rfl rfl (any_of HT_.out (by kernel_rfl)) (fun _ _ _ h => h) (Or.inl ⟨by rfl, ?_⟩) ?_ ?_
      rotate_left
      · intro w'
        go_simp
        with_reducible rfl
      rotate_left
      · simp only [Act.put, List.setIfInBounds_toArray, List.set_cons_zero, List.set_cons_succ, i64_w, i32_w]
        rfl
      refine pure_ (i := 4) (N := some 30) (v := ?_) (a' := ?_) #[true, false, true, false, true, false, false, false, false] rfl rfl (any_of HT_.out (by kernel_rfl)) (fun _ _ _ h => h) (Or.inl ⟨by rfl, ?_⟩) ?_ ?_
      rotate_left
      · intro w'
        go_simp
        with_reducible rfl
      rotate_left
      · simp only [Act.put, List.setIfInBounds_toArray, List.set_cons_zero, List.set_cons_succ, i64_w, i32_w]
        rfl
      refine take_ (i := 1) (N := some 27) (v := ?_) (a' := ?_) #[true, true, true, false, true, false, false, false, false] rfl rfl (take_ofW HT_.out HW_.out (by kernel_rfl)) (fun _ _ _ h => h) (Or.inl ⟨by rfl, ?_⟩) hHeld ?_ ?_
      rotate_left
      · rintro w' ⟨s0, s1, s2, s3⟩
        go_simp
        with_reducible rfl
      rotate_left
      · simp only [Act.put, List.setIfInBounds_toArray, List.set_cons_zero, List.set_cons_succ, i64_w, i32_w]
        rfl
      refine take_ (i := 3) (N := some 29) (v := ?_) (a' := ?_) #[true, true, true, true, true, false, false, false, false] rfl rfl (take_ofW HT_.out HW_.out (by kernel_rfl)) (fun _ _ _ h => h) (Or.inl ⟨by rfl, ?_⟩) hHeld ?_ ?_
      rotate_left
      · rintro w' ⟨s0, s1, s2, s3⟩
        go_simp
        with_reducible rfl
      rotate_left
      · simp only [Act.put, List.setIfInBounds_toArray, List.set_cons_zero, List.set_cons_succ, i64_w, i32_w]
        rfl
      refine take_ (i := 5) (N := some 31) (v := ?_) (a' := ?_) #[true, true, true, true, true, true, false, false, false] rfl rfl (take_ofW HT_.out HW_.out (by kernel_rfl)) (fun _ _ _ h => h) (Or.inl ⟨by rfl, ?_⟩) hHeld ?_ ?_
      rotate_left
      · rintro w' ⟨s0, s1, s2, s3⟩
        go_simp
        with_reducible rfl
      rotate_left
      · simp only [Act.put, List.setIfInBounds_toArray, List.set_cons_zero, List.set_cons_succ, i64_w, i32_w]
        rfl
      refine one_ (i := 6) (N := some 32) #[true, true, true, true, true, true, true, false, false] rfl rfl (one_of HT_.out (by kernel_rfl)) (by decide) (fun K hK => ?_)
      refine goes_ Try.func88 (by kernel_rfl) rfl #[.slice A0_1 l0_1.length c0_1, .slice A1_1 l1_1.length c1_1] (by rfl) rfl rfl za ?_
      with_reducible refine (impl_limbs_sub.calls k _ _ l0_1 _ _ l1_1 t374 _ ?side1 ?side2 ?side3 ?side4 A20.out).mono ?_
      (case side1 => repeat (first | exact (Kd.C_below HR0_1.out HB.out) | (with_reducible refine Kd.C_alloc ?_ _) | (with_reducible refine Kd.C_drewN ?_ _) | (with_reducible refine Kd.C_drew ?_)))
      (case side2 => exact HC0_1.out)
      (case side3 => repeat (first | exact (Kd.C_below HR1_1.out HB.out) | (with_reducible refine Kd.C_alloc ?_ _) | (with_reducible refine Kd.C_drewN ?_ _) | (with_reducible refine Kd.C_drew ?_)))
      (case side4 => exact HC1_1.out)
      rintro e w31 ⟨v375, rfl, ho0, hb⟩
      refine ⟨_, rfl, ?_⟩
      have n0_ := Aside0.mk (Kd.V_lower (Kd.V_mono (ok' := fun k_ => (w.heap.size ≤ k_) ∧ k_ ≠ gb367 ∧ k_ ≠ gb368 ∧ k_ ≠ gb369) ho0 (fun k_ hk_ => ⟨(Nat.le_trans (below_size zb) hk_), (Kd.freshB (g := gb367) (o := .cells #[.bool a0_0, .slice A0_1 l0_1.length c0_1] 64 (0, 0)) (zk BK367.out) k_ hk_), (Kd.freshB (g := gb368) (o := .cells #[.bool a1_0, .slice A1_1 l1_1.length c1_1] 64 (0, 0)) (zk BK368.out) k_ hk_), (Kd.freshB (g := gb369) (o := .cells #[.bool false, .slice none 0 0] 64 (0, 0)) (zk BK369.out) k_ hk_)⟩)) (below_size zb))
      have n1_ := Aside0.mk (blk_below (g := gb367) (o := .cells #[.bool a0_0, .slice A0_1 l0_1.length c0_1] 64 (0, 0)) (zk BK367.out) hb)
      have n2_ := Aside0.mk (blk_below (g := gb368) (o := .cells #[.bool a1_0, .slice A1_1 l1_1.length c1_1] 64 (0, 0)) (zk BK368.out) hb)
      have n3_ := Aside0.mk (blk_below (g := gb369) (o := .cells #[.bool false, .slice none 0 0] 64 (0, 0)) (zk BK369.out) hb)
      have n4_ := Aside0.mk (below_step zb hb)
      clear BK367
      clear BK368
      clear BK369
      clear HB
      have HO376 := n0_
      have BK367 := n1_
      have BK368 := n2_
      have BK369 := n3_
      have HB := n4_
      clear n0_ n1_ n2_ n3_ n4_
      (try clear hb)
      (try clear hb2)
      (try clear hk)
      (try clear hi)
      (try clear ho0)
      obtain ⟨Ao32, co32, eo32⟩ := Kd.V_slice HO376.out
      (first | subst eo32 | (injection eo32 with f1_ f2_ f3_; have f4_ := f1_.symm; have f5_ := f3_.symm; clear f1_ f2_ f3_; subst f4_; subst f5_))
      refine hK.out _ _ ⟨(blk_cell BK367.out 0).trans rfl, (blk_cell BK367.out 1).trans rfl, (blk_cell BK368.out 0).trans rfl, (blk_cell BK368.out 1).trans rfl⟩ (fun hHeld => ?_)
      clear hK K
      refine norm_ (a' := ?_) ?_ ?_
      rotate_left
      · show Act.put _ (some 32) _ = _
        simp only [Act.put, List.setIfInBounds_toArray, List.set_cons_zero, List.set_cons_succ, i64_w, i32_w]
        rfl
      refine pure_ (i := 7) (N := some 33) (v := ?_) (a' := ?_) #[true, true, true, true, true, true, true, true, false] rfl rfl (any_of HT_.out (by kernel_rfl)) (fun _ _ _ h => h) (Or.inl ⟨by rfl, ?_⟩) ?_ ?_
      rotate_left
      · intro w'
        go_simp
        with_reducible rfl
      rotate_left
      · simp only [Act.put, List.setIfInBounds_toArray, List.set_cons_zero, List.set_cons_succ, i64_w, i32_w]
        rfl
      refine one_ (i := 8) (N := none) #[true, true, true, true, true, true, true, true, true] rfl rfl (one_of HT_.out (by kernel_rfl)) (by decide) (fun K hK => ?_)
      have hs33 : w31.cell? ⟨gb369, 0, none⟩ = some (.bool false) := (blk_cell BK369.out 0).trans rfl
      have hfs33 := blk_frozen BK369.out 0
      have hns33_0 := NB367_369.out
      have hns33_1 := NB368_369.out
      have hms33_0 := NB369_367.out
      have hms33_1 := NB369_368.out
      have hs34 : w31.cell? ⟨gb369, 1, none⟩ = some (.slice none 0 0) := (blk_cell BK369.out 1).trans rfl
      have hfs34 := blk_frozen BK369.out 1
      have hns34_0 := NB367_369.out
      have hns34_1 := NB368_369.out
      have hms34_0 := NB369_367.out
      have hms34_1 := NB369_368.out
      refine skip_ (w1 := ?_) (by rfl) rfl ?_ ?_
      rotate_left
      · go_simp
        rfl
      refine hK.out _ _ ⟨((cell_far (p := ⟨gb369, _, none⟩) NB367_369.out _).trans (((cell_far (p := ⟨gb369, _, none⟩) NB367_369.out _).trans (hHeld.1)))), ((cell_far (p := ⟨gb369, _, none⟩) NB367_369.out _).trans (((cell_far (p := ⟨gb369, _, none⟩) NB367_369.out _).trans (hHeld.2.1)))), ((cell_far (p := ⟨gb369, _, none⟩) NB368_369.out _).trans (((cell_far (p := ⟨gb369, _, none⟩) NB368_369.out _).trans (hHeld.2.2.1)))), ((cell_far (p := ⟨gb369, _, none⟩) NB368_369.out _).trans (((cell_far (p := ⟨gb369, _, none⟩) NB368_369.out _).trans (hHeld.2.2.2))))⟩ (fun hHeld => ?_)
      clear hK K
      refine done_ (done_of HT_.out (by kernel_rfl)) ?_
      try go_wp2
      refine bodyPost_ret (results_cell_row rfl _ _ gb369 64 #[.bool a0_0, .slice Ao32 t374.length co32] (0, 0) _ rfl (by (with_reducible repeat (first | refine blk_drewN ?_ _ | refine blk_drew ?_ | refine blk_alloc ?_ _)); refine blk_put (cs := #[.bool a0_0, .slice none 0 0]) ?_ 1 _ rfl; (with_reducible repeat (first | refine blk_drewN ?_ _ | refine blk_drew ?_ | refine blk_alloc ?_ _)); refine blk_put (cs := #[.bool false, .slice none 0 0]) ?_ 0 _ rfl; (with_reducible repeat (first | refine blk_drewN ?_ _ | refine blk_drew ?_ | refine blk_alloc ?_ _)); exact BK369.out) Try.underlying64 rfl (by kernel_rfl)) rfl ?_
      exact ⟨_, by first | rfl | (simp [errW_none, errW_some] <;> rfl) | (simp [*, errW_none, errW_some] <;> rfl), by (with_reducible repeat (first | apply Kd.V_alloc | apply Kd.V_drewN | apply Kd.V_drew)); exact Kd.V_mono (Kd.V_far (p := ⟨gb369, 1, none⟩) (Kd.V_far (p := ⟨gb369, 0, none⟩) (Kd.V_mono HO376.out (fun k_ hk => (⟨hk, hk.2.2.2⟩ : _ ∧ k_ ≠ gb369))) (fun _ hk => hk.2) (.bool a0_0)) (fun _ hk => hk.2) (.slice Ao32 t374.length co32)) (fun _ hk => hk.1.1), zb⟩
    · rw [if_neg c19] at H
      have c19b0 : decide (0 ≤ t373) = false := decide_eq_false c19
      clear c19
      replace H := Option.bind_eq_some_iff.mp H
      obtain ⟨t377, A350, H⟩ := H
      replace H : (some (a1_0, t377)) = some (r1, r2) := H
      have A35 := Aside0.mk A350
      clear A350
      simp only [Option.some.injEq, Prod.mk.injEq] at H
      obtain ⟨rfl, rfl⟩ := H
      go_enter Try.func69, Try.ntmps69
      try go_wp2_with (first | ((with_reducible refine gate_dst (N := 2) rfl ?_); refine box_event ?hg (N := 2) ?hd (cs := #[.bool a0_0, .slice A0_1 l0_1.length c0_1]) (t := 64) ?hr ?_; (case hd => rfl); (case hg => rfl); (case hr => first | (go_simp; done) | (go_simp; rfl)); intro gb367 hg w36 hbox hb; have n0_ := Aside0.mk (below_step zb hb); have n1_ := Aside0.mk (hbox); have n2_ := Aside0.mk ((by rw [hg]; exact (below_size zb) : w.heap.size ≤ gb367)); have n3_ := Aside0.mk ((by rw [hg]; exact (below_size zb) : w.heap.size ≤ gb367)); clear HB; have HB := n0_; have BK367 := n1_; have GW367 := n2_; have GE367 := n3_; clear n0_ n1_ n2_ n3_; clear hb hbox hg) | ((with_reducible refine gate_dst (N := 3) rfl ?_); refine box_event ?hg (N := 3) ?hd (cs := #[.bool a1_0, .slice A1_1 l1_1.length c1_1]) (t := 64) ?hr ?_; (case hd => rfl); (case hg => rfl); (case hr => first | (go_simp; done) | (go_simp; rfl)); intro gb368 hg w37 hbox hb; have n0_ := Aside0.mk (blk_below (g := gb367) (o := .cells #[.bool a0_0, .slice A0_1 l0_1.length c0_1] 64 (0, 0)) (zk BK367.out) hb); have n1_ := Aside0.mk (below_step zb hb); have n2_ := Aside0.mk (hbox); have n3_ := Aside0.mk ((by rw [hg]; exact (below_size zb) : w.heap.size ≤ gb368)); have n4_ := Aside0.mk ((by rw [hg]; exact (below_size zb) : w.heap.size ≤ gb368)); have n5_ := Aside0.mk ((by rw [hg]; exact Nat.ne_of_lt (blk_lt (g := gb367) (o := .cells #[.bool a0_0, .slice A0_1 l0_1.length c0_1] 64 (0, 0)) (zk BK367.out)) : gb367 ≠ gb368)); have n6_ := Aside0.mk ((by rw [hg]; exact Nat.ne_of_gt (blk_lt (g := gb367) (o := .cells #[.bool a0_0, .slice A0_1 l0_1.length c0_1] 64 (0, 0)) (zk BK367.out)) : gb368 ≠ gb367)); clear BK367; clear HB; have BK367 := n0_; have HB := n1_; have BK368 := n2_; have GW368 := n3_; have GE368 := n4_; have NB367_368 := n5_; have NB368_367 := n6_; clear n0_ n1_ n2_ n3_ n4_ n5_ n6_; clear hb hbox hg) | ((with_reducible refine gate_dst (N := 4) rfl ?_); refine box_event ?hg (N := 4) ?hd (cs := #[.bool false, .slice none 0 0]) (t := 64) ?hr ?_; (case hd => rfl); (case hg => rfl); (case hr => first | (go_simp; done) | (go_simp; rfl)); intro gb369 hg w38 hbox hb; have n0_ := Aside0.mk (blk_below (g := gb367) (o := .cells #[.bool a0_0, .slice A0_1 l0_1.length c0_1] 64 (0, 0)) (zk BK367.out) hb); have n1_ := Aside0.mk (blk_below (g := gb368) (o := .cells #[.bool a1_0, .slice A1_1 l1_1.length c1_1] 64 (0, 0)) (zk BK368.out) hb); have n2_ := Aside0.mk (below_step zb hb); have n3_ := Aside0.mk (hbox); have n4_ := Aside0.mk ((by rw [hg]; exact (below_size zb) : w.heap.size ≤ gb369)); have n5_ := Aside0.mk ((by rw [hg]; exact (below_size zb) : w.heap.size ≤ gb369)); have n6_ := Aside0.mk ((by rw [hg]; exact Nat.ne_of_lt (blk_lt (g := gb367) (o := .cells #[.bool a0_0, .slice A0_1 l0_1.length c0_1] 64 (0, 0)) (zk BK367.out)) : gb367 ≠ gb369)); have n7_ := Aside0.mk ((by rw [hg]; exact Nat.ne_of_gt (blk_lt (g := gb367) (o := .cells #[.bool a0_0, .slice A0_1 l0_1.length c0_1] 64 (0, 0)) (zk BK367.out)) : gb369 ≠ gb367)); have n8_ := Aside0.mk ((by rw [hg]; exact Nat.ne_of_lt (blk_lt (g := gb368) (o := .cells #[.bool a1_0, .slice A1_1 l1_1.length c1_1] 64 (0, 0)) (zk BK368.out)) : gb368 ≠ gb369)); have n9_ := Aside0.mk ((by rw [hg]; exact Nat.ne_of_gt (blk_lt (g := gb368) (o := .cells #[.bool a1_0, .slice A1_1 l1_1.length c1_1] 64 (0, 0)) (zk BK368.out)) : gb369 ≠ gb368)); clear BK367; clear BK368; clear HB; have BK367 := n0_; have BK368 := n1_; have HB := n2_; have BK369 := n3_; have GW369 := n4_; have GE369 := n5_; have NB367_369 := n6_; have NB369_367 := n7_; have NB368_369 := n8_; have NB369_368 := n9_; clear n0_ n1_ n2_ n3_ n4_ n5_ n6_ n7_ n8_ n9_; clear hb hbox hg; have hnb39 := NB367_368.out; have hnc39 := NB368_367.out; have hnb40 := NB367_369.out; have hnc40 := NB369_367.out; have hcz41_0 : w38.cell? ⟨gb367, 0, none⟩ = some (.bool a0_0) := (blk_cell BK367.out 0).trans rfl; have hcz41_1 : w38.cell? ⟨gb367, 1, none⟩ = some (.slice A0_1 l0_1.length c0_1) := (blk_cell BK367.out 1).trans rfl; have hfz41_0 := blk_frozen BK367.out 0; have hfz41_1 := blk_frozen BK367.out 1; have hnb42 := NB368_369.out; have hnc42 := NB369_368.out; have hcz43_0 : w38.cell? ⟨gb368, 0, none⟩ = some (.bool a1_0) := (blk_cell BK368.out 0).trans rfl; have hcz43_1 : w38.cell? ⟨gb368, 1, none⟩ = some (.slice A1_1 l1_1.length c1_1) := (blk_cell BK368.out 1).trans rfl; have hfz43_0 := blk_frozen BK368.out 0; have hfz43_1 := blk_frozen BK368.out 1) | ((with_reducible refine gate_callee (f := 87) rfl ?_); refine goesL_ (some 24) rfl rfl Try.func87 (by kernel_rfl) rfl #[.slice A0_1 l0_1.length c0_1, .slice A1_1 l1_1.length c1_1] rfl za ?_; (with_reducible refine (impl_limbs_cmp.calls k _ _ l0_1 _ _ l1_1 t373 _ ?side1 ?side2 ?side3 ?side4 A18.out).mono ?_); (case side1 => repeat (first | exact (Kd.C_below HR0_1.out HB.out) | (with_reducible refine Kd.C_alloc ?_ _) | (with_reducible refine Kd.C_drewN ?_ _) | (with_reducible refine Kd.C_drew ?_))); (case side2 => exact HC0_1.out); (case side3 => repeat (first | exact (Kd.C_below HR1_1.out HB.out) | (with_reducible refine Kd.C_alloc ?_ _) | (with_reducible refine Kd.C_drewN ?_ _) | (with_reducible refine Kd.C_drew ?_))); (case side4 => exact HC1_1.out); rintro e w44 ⟨rfl, hb⟩; refine ⟨_, rfl, ?_⟩; have n0_ := Aside0.mk (blk_below (g := gb367) (o := .cells #[.bool a0_0, .slice A0_1 l0_1.length c0_1] 64 (0, 0)) (zk BK367.out) hb); have n1_ := Aside0.mk (blk_below (g := gb368) (o := .cells #[.bool a1_0, .slice A1_1 l1_1.length c1_1] 64 (0, 0)) (zk BK368.out) hb); have n2_ := Aside0.mk (blk_below (g := gb369) (o := .cells #[.bool false, .slice none 0 0] 64 (0, 0)) (zk BK369.out) hb); have n3_ := Aside0.mk (below_step zb hb); clear BK367; clear BK368; clear BK369; clear HB; have BK367 := n0_; have BK368 := n1_; have BK369 := n2_; have HB := n3_; clear n0_ n1_ n2_ n3_; (try clear hb); (try clear hb2); (try clear hk); (try clear hi)))
      have n0_ := Aside0.mk (blk_drew BK367.out)
      have n1_ := Aside0.mk (blk_drew BK368.out)
      have n2_ := Aside0.mk (blk_drew BK369.out)
      have n3_ := Aside0.mk (below_drew1 HB.out)
      clear BK367
      clear BK368
      clear BK369
      clear HB
      have BK367 := n0_
      have BK368 := n1_
      have BK369 := n2_
      have HB := n3_
      clear n0_ n1_ n2_ n3_
      refine start_ (n := 9) (S := fun w' => w'.cell? ⟨gb368, 0, none⟩ = some (.bool a1_0) ∧ w'.cell? ⟨gb368, 1, none⟩ = some (.slice A1_1 l1_1.length c1_1) ∧ w'.cell? ⟨gb367, 0, none⟩ = some (.bool a0_0) ∧ w'.cell? ⟨gb367, 1, none⟩ = some (.slice A0_1 l0_1.length c0_1)) (ds := []) #[false, false, false, false, false, false, false, false, false] (by kernel_rfl) rfl rfl ⟨(blk_cell BK368.out 0).trans rfl, (blk_cell BK368.out 1).trans rfl, (blk_cell BK367.out 0).trans rfl, (blk_cell BK367.out 1).trans rfl⟩ (fun hHeld => ?_); refine with_tabW impl_signed_add.tab5 impl_signed_add.bits5 (fun HT_ HW_ => ?_)
      generalize w44.drew = w45 at BK367 BK368 BK369 HB hHeld ⊢
      refine pure_ (i := 0) (N := some 34) (v := ?_) (a' := ?_) #[true, false, false, false, false, false, false, false, false] rfl rfl (any_of HT_.out (by kernel_rfl)) (fun _ _ _ h => h) (Or.inl ⟨by rfl, ?_⟩) ?_ ?_
      rotate_left
      · intro w'
        go_simp
        with_reducible rfl
      rotate_left
      · simp only [Act.put, List.setIfInBounds_toArray, List.set_cons_zero, List.set_cons_succ, i64_w, i32_w]
        rfl
      refine pure_ (i := 2) (N := some 36) (v := ?_) (a' := ?_) #[true, false, true, false, false, false, false, false, false] rfl rfl (any_of HT_.out (by kernel_rfl)) (fun _ _ _ h => h) (Or.inl ⟨by rfl, ?_⟩) ?_ ?_
      rotate_left
      · intro w'
        go_simp
        with_reducible rfl
      rotate_left
      · simp only [Act.put, List.setIfInBounds_toArray, List.set_cons_zero, List.set_cons_succ, i64_w, i32_w]
        rfl
      refine pure_ (i := 4) (N := some 38) (v := ?_) (a' := ?_) #[true, false, true, false, true, false, false, false, false] rfl rfl (any_of HT_.out (by kernel_rfl)) (fun _ _ _ h => h) (Or.inl ⟨by rfl, ?_⟩) ?_ ?_
      rotate_left
      · intro w'
        go_simp
        with_reducible rfl
      rotate_left
      · simp only [Act.put, List.setIfInBounds_toArray, List.set_cons_zero, List.set_cons_succ, i64_w, i32_w]
        rfl
      refine take_ (i := 1) (N := some 35) (v := ?_) (a' := ?_) #[true, true, true, false, true, false, false, false, false] rfl rfl (take_ofW HT_.out HW_.out (by kernel_rfl)) (fun _ _ _ h => h) (Or.inl ⟨by rfl, ?_⟩) hHeld ?_ ?_
      rotate_left
      · rintro w' ⟨s0, s1, s2, s3⟩
        go_simp
        with_reducible rfl
      rotate_left
      · simp only [Act.put, List.setIfInBounds_toArray, List.set_cons_zero, List.set_cons_succ, i64_w, i32_w]
        rfl
      refine take_ (i := 3) (N := some 37) (v := ?_) (a' := ?_) #[true, true, true, true, true, false, false, false, false] rfl rfl (take_ofW HT_.out HW_.out (by kernel_rfl)) (fun _ _ _ h => h) (Or.inl ⟨by rfl, ?_⟩) hHeld ?_ ?_
      rotate_left
      · rintro w' ⟨s0, s1, s2, s3⟩
        go_simp
        with_reducible rfl
      rotate_left
      · simp only [Act.put, List.setIfInBounds_toArray, List.set_cons_zero, List.set_cons_succ, i64_w, i32_w]
        rfl
      refine take_ (i := 5) (N := some 39) (v := ?_) (a' := ?_) #[true, true, true, true, true, true, false, false, false] rfl rfl (take_ofW HT_.out HW_.out (by kernel_rfl)) (fun _ _ _ h => h) (Or.inl ⟨by rfl, ?_⟩) hHeld ?_ ?_
      rotate_left
      · rintro w' ⟨s0, s1, s2, s3⟩
        go_simp
        with_reducible rfl
      rotate_left
      · simp only [Act.put, List.setIfInBounds_toArray, List.set_cons_zero, List.set_cons_succ, i64_w, i32_w]
        rfl
      refine one_ (i := 6) (N := some 40) #[true, true, true, true, true, true, true, false, false] rfl rfl (one_of HT_.out (by kernel_rfl)) (by decide) (fun K hK => ?_)
      refine goes_ Try.func88 (by kernel_rfl) rfl #[.slice A1_1 l1_1.length c1_1, .slice A0_1 l0_1.length c0_1] (by rfl) rfl rfl za ?_
      with_reducible refine (impl_limbs_sub.calls k _ _ l1_1 _ _ l0_1 t377 _ ?side1 ?side2 ?side3 ?side4 A35.out).mono ?_
      (case side1 => repeat (first | exact (Kd.C_below HR1_1.out HB.out) | (with_reducible refine Kd.C_alloc ?_ _) | (with_reducible refine Kd.C_drewN ?_ _) | (with_reducible refine Kd.C_drew ?_)))
      (case side2 => exact HC1_1.out)
      (case side3 => repeat (first | exact (Kd.C_below HR0_1.out HB.out) | (with_reducible refine Kd.C_alloc ?_ _) | (with_reducible refine Kd.C_drewN ?_ _) | (with_reducible refine Kd.C_drew ?_)))
      (case side4 => exact HC0_1.out)
      rintro e w46 ⟨v378, rfl, ho0, hb⟩
      refine ⟨_, rfl, ?_⟩
      have n0_ := Aside0.mk (Kd.V_lower (Kd.V_mono (ok' := fun k_ => (w.heap.size ≤ k_) ∧ k_ ≠ gb367 ∧ k_ ≠ gb368 ∧ k_ ≠ gb369) ho0 (fun k_ hk_ => ⟨(Nat.le_trans (below_size zb) hk_), (Kd.freshB (g := gb367) (o := .cells #[.bool a0_0, .slice A0_1 l0_1.length c0_1] 64 (0, 0)) (zk BK367.out) k_ hk_), (Kd.freshB (g := gb368) (o := .cells #[.bool a1_0, .slice A1_1 l1_1.length c1_1] 64 (0, 0)) (zk BK368.out) k_ hk_), (Kd.freshB (g := gb369) (o := .cells #[.bool false, .slice none 0 0] 64 (0, 0)) (zk BK369.out) k_ hk_)⟩)) (below_size zb))
      have n1_ := Aside0.mk (blk_below (g := gb367) (o := .cells #[.bool a0_0, .slice A0_1 l0_1.length c0_1] 64 (0, 0)) (zk BK367.out) hb)
      have n2_ := Aside0.mk (blk_below (g := gb368) (o := .cells #[.bool a1_0, .slice A1_1 l1_1.length c1_1] 64 (0, 0)) (zk BK368.out) hb)
      have n3_ := Aside0.mk (blk_below (g := gb369) (o := .cells #[.bool false, .slice none 0 0] 64 (0, 0)) (zk BK369.out) hb)
      have n4_ := Aside0.mk (below_step zb hb)
      clear BK367
      clear BK368
      clear BK369
      clear HB
      have HO379 := n0_
      have BK367 := n1_
      have BK368 := n2_
      have BK369 := n3_
      have HB := n4_
      clear n0_ n1_ n2_ n3_ n4_
      (try clear hb)
      (try clear hb2)
      (try clear hk)
      (try clear hi)
      (try clear ho0)
      obtain ⟨Ao47, co47, eo47⟩ := Kd.V_slice HO379.out
      (first | subst eo47 | (injection eo47 with f1_ f2_ f3_; have f4_ := f1_.symm; have f5_ := f3_.symm; clear f1_ f2_ f3_; subst f4_; subst f5_))
      refine hK.out _ _ ⟨(blk_cell BK368.out 0).trans rfl, (blk_cell BK368.out 1).trans rfl, (blk_cell BK367.out 0).trans rfl, (blk_cell BK367.out 1).trans rfl⟩ (fun hHeld => ?_)
      clear hK K
      refine norm_ (a' := ?_) ?_ ?_
      rotate_left
      · show Act.put _ (some 40) _ = _
        simp only [Act.put, List.setIfInBounds_toArray, List.set_cons_zero, List.set_cons_succ, i64_w, i32_w]
        rfl
      refine pure_ (i := 7) (N := some 41) (v := ?_) (a' := ?_) #[true, true, true, true, true, true, true, true, false] rfl rfl (any_of HT_.out (by kernel_rfl)) (fun _ _ _ h => h) (Or.inl ⟨by rfl, ?_⟩) ?_ ?_
      rotate_left
      · intro w'
        go_simp
        with_reducible rfl
      rotate_left
      · simp only [Act.put, List.setIfInBounds_toArray, List.set_cons_zero, List.set_cons_succ, i64_w, i32_w]
        rfl
      refine one_ (i := 8) (N := none) #[true, true, true, true, true, true, true, true, true] rfl rfl (one_of HT_.out (by kernel_rfl)) (by decide) (fun K hK => ?_)
      have hs48 : w46.cell? ⟨gb369, 0, none⟩ = some (.bool false) := (blk_cell BK369.out 0).trans rfl
      have hfs48 := blk_frozen BK369.out 0
      have hns48_0 := NB367_369.out
      have hns48_1 := NB368_369.out
      have hms48_0 := NB369_367.out
      have hms48_1 := NB369_368.out
      have hs49 : w46.cell? ⟨gb369, 1, none⟩ = some (.slice none 0 0) := (blk_cell BK369.out 1).trans rfl
      have hfs49 := blk_frozen BK369.out 1
      have hns49_0 := NB367_369.out
      have hns49_1 := NB368_369.out
      have hms49_0 := NB369_367.out
      have hms49_1 := NB369_368.out
      refine skip_ (w1 := ?_) (by rfl) rfl ?_ ?_
      rotate_left
      · go_simp
        rfl
      refine hK.out _ _ ⟨((cell_far (p := ⟨gb369, _, none⟩) NB368_369.out _).trans (((cell_far (p := ⟨gb369, _, none⟩) NB368_369.out _).trans (hHeld.1)))), ((cell_far (p := ⟨gb369, _, none⟩) NB368_369.out _).trans (((cell_far (p := ⟨gb369, _, none⟩) NB368_369.out _).trans (hHeld.2.1)))), ((cell_far (p := ⟨gb369, _, none⟩) NB367_369.out _).trans (((cell_far (p := ⟨gb369, _, none⟩) NB367_369.out _).trans (hHeld.2.2.1)))), ((cell_far (p := ⟨gb369, _, none⟩) NB367_369.out _).trans (((cell_far (p := ⟨gb369, _, none⟩) NB367_369.out _).trans (hHeld.2.2.2))))⟩ (fun hHeld => ?_)
      clear hK K
      refine done_ (done_of HT_.out (by kernel_rfl)) ?_
      try go_wp2
      refine bodyPost_ret (results_cell_row rfl _ _ gb369 64 #[.bool a1_0, .slice Ao47 t377.length co47] (0, 0) _ rfl (by (with_reducible repeat (first | refine blk_drewN ?_ _ | refine blk_drew ?_ | refine blk_alloc ?_ _)); refine blk_put (cs := #[.bool a1_0, .slice none 0 0]) ?_ 1 _ rfl; (with_reducible repeat (first | refine blk_drewN ?_ _ | refine blk_drew ?_ | refine blk_alloc ?_ _)); refine blk_put (cs := #[.bool false, .slice none 0 0]) ?_ 0 _ rfl; (with_reducible repeat (first | refine blk_drewN ?_ _ | refine blk_drew ?_ | refine blk_alloc ?_ _)); exact BK369.out) Try.underlying64 rfl (by kernel_rfl)) rfl ?_
      exact ⟨_, by first | rfl | (simp [errW_none, errW_some] <;> rfl) | (simp [*, errW_none, errW_some] <;> rfl), by (with_reducible repeat (first | apply Kd.V_alloc | apply Kd.V_drewN | apply Kd.V_drew)); exact Kd.V_mono (Kd.V_far (p := ⟨gb369, 1, none⟩) (Kd.V_far (p := ⟨gb369, 0, none⟩) (Kd.V_mono HO379.out (fun k_ hk => (⟨hk, hk.2.2.2⟩ : _ ∧ k_ ≠ gb369))) (fun _ hk => hk.2) (.bool a1_0)) (fun _ hk => hk.2) (.slice Ao47 t377.length co47)) (fun _ hk => hk.1.1), zb⟩
def impl_BigAdd.f (k : Nat) (a0_0 : Bool) (l0_1 : List Int) (a1_0 : Bool) (l1_1 : List Int) : Option (Bool × List Int × Bool) := (impl_bigs.f a0_0 l0_1 a1_0 l1_1).bind fun t383 => (if t383 = true then ((impl_Big_signed.f a0_0 l0_1).bind fun bt384 => ((impl_Big_signed.f a1_0 l1_1).bind fun bt388 => ((impl_signed_add.f k bt384.1 bt384.2 bt388.1 bt388.2).bind fun bt392 => ((impl_big.f k bt392.1 bt392.2).bind fun bt397 => (some (bt397.1, bt397.2.1, bt397.2.2)))))) else (some (false, ([] : List Int), false)))
set_option maxHeartbeats 8000000 in
set_option maxRecDepth 100000 in
theorem impl_BigAdd.calls (k : Nat) (a0_0 : Bool) (P0_1_ : Nat → Prop) (A0_1 : Option Addr) (c0_1 : Nat) (l0_1 : List Int) (a1_0 : Bool) (P1_1_ : Nat → Prop) (A1_1 : Option Addr) (c1_1 : Nat) (l1_1 : List Int) (r1 : Bool) (r2 : List Int) (r3 : Bool) (w : World) (hs0_1 : Kd.V (Kd.int .i64) 3 w w.heap.size (fun k_ => P0_1_ k_) (.slice A0_1 l0_1.length c0_1) l0_1) (hs1_1 : Kd.V (Kd.int .i64) 3 w w.heap.size (fun k_ => P1_1_ k_) (.slice A1_1 l1_1.length c1_1) l1_1) (h : impl_BigAdd.f k a0_0 l0_1 a1_0 l1_1 = some (r1, r2, r3)) :
    Calls Try.prog 32 #[.agg #[.bool a0_0, .slice A0_1 l0_1.length c0_1], .agg #[.bool a1_0, .slice A1_1 l1_1.length c1_1]] w fun e w' => ∃ v1_ : Value, e = .returned (.tuple #[.agg #[.bool r1, v1_], .bool r3]) ∧ Kd.V (Kd.int .i64) 3 w' w.heap.size (fun k_ => ((P0_1_ k_ ∨ P1_1_ k_) ∨ w.heap.size ≤ k_)) v1_ r2 ∧ Below w.heap.size w w' := by
  have hu27 := Try.underlying27
  have hu64 := Try.underlying64
  have HO0_1 := Aside0.mk (show Kd.V (Kd.int .i64) 3 w w.heap.size (fun k_ => ((P0_1_ k_ ∨ P1_1_ k_) ∨ w.heap.size ≤ k_)) (.slice A0_1 l0_1.length c0_1) l0_1 from Kd.V_mono hs0_1 (fun k_ hk => .inl (.inl hk)))
  have HO1_1 := Aside0.mk (show Kd.V (Kd.int .i64) 3 w w.heap.size (fun k_ => ((P0_1_ k_ ∨ P1_1_ k_) ∨ w.heap.size ≤ k_)) (.slice A1_1 l1_1.length c1_1) l1_1 from Kd.V_mono hs1_1 (fun k_ hk => .inl (.inr hk)))
  have HB := Aside0.mk (Below.refl w.heap.size w)
  have H : ((impl_bigs.f a0_0 l0_1 a1_0 l1_1).bind fun t383 => (if t383 = true then ((impl_Big_signed.f a0_0 l0_1).bind fun bt384 => ((impl_Big_signed.f a1_0 l1_1).bind fun bt388 => ((impl_signed_add.f k bt384.1 bt384.2 bt388.1 bt388.2).bind fun bt392 => ((impl_big.f k bt392.1 bt392.2).bind fun bt397 => (some (bt397.1, bt397.2.1, bt397.2.2)))))) else (some (false, ([] : List Int), false)))) = some (r1, r2, r3) := h
  clear h
  replace H := Option.bind_eq_some_iff.mp H
  obtain ⟨t383, A30, H⟩ := H
  replace H : (if t383 = true then ((impl_Big_signed.f a0_0 l0_1).bind fun bt384 => ((impl_Big_signed.f a1_0 l1_1).bind fun bt388 => ((impl_signed_add.f k bt384.1 bt384.2 bt388.1 bt388.2).bind fun bt392 => ((impl_big.f k bt392.1 bt392.2).bind fun bt397 => (some (bt397.1, bt397.2.1, bt397.2.2)))))) else (some (false, ([] : List Int), false))) = some (r1, r2, r3) := H
  have A3 := Aside0.mk A30
  clear A30
  by_cases c4 : t383 = true
  · subst c4
    have H1 : ((impl_Big_signed.f a0_0 l0_1).bind fun bt384 => ((impl_Big_signed.f a1_0 l1_1).bind fun bt388 => ((impl_signed_add.f k bt384.1 bt384.2 bt388.1 bt388.2).bind fun bt392 => ((impl_big.f k bt392.1 bt392.2).bind fun bt397 => (some (bt397.1, bt397.2.1, bt397.2.2)))))) = some (r1, r2, r3) := by rw [if_pos rfl] at H; exact H
    clear H
    have H := H1
    clear H1
    replace H := Option.bind_eq_some_iff.mp H
    obtain ⟨⟨t384, t385⟩, A50, H⟩ := H
    replace H : ((impl_Big_signed.f a1_0 l1_1).bind fun bt388 => ((impl_signed_add.f k t384 t385 bt388.1 bt388.2).bind fun bt392 => ((impl_big.f k bt392.1 bt392.2).bind fun bt397 => (some (bt397.1, bt397.2.1, bt397.2.2))))) = some (r1, r2, r3) := H
    have A5 := Aside0.mk A50
    clear A50
    replace H := Option.bind_eq_some_iff.mp H
    obtain ⟨⟨t388, t389⟩, A60, H⟩ := H
    replace H : ((impl_signed_add.f k t384 t385 t388 t389).bind fun bt392 => ((impl_big.f k bt392.1 bt392.2).bind fun bt397 => (some (bt397.1, bt397.2.1, bt397.2.2)))) = some (r1, r2, r3) := H
    have A6 := Aside0.mk A60
    clear A60
    replace H := Option.bind_eq_some_iff.mp H
    obtain ⟨⟨t392, t393⟩, A70, H⟩ := H
    replace H : ((impl_big.f k t392 t393).bind fun bt397 => (some (bt397.1, bt397.2.1, bt397.2.2))) = some (r1, r2, r3) := H
    have A7 := Aside0.mk A70
    clear A70
    replace H := Option.bind_eq_some_iff.mp H
    obtain ⟨⟨t397, t398, t401⟩, A80, H⟩ := H
    replace H : (some (t397, t398, t401)) = some (r1, r2, r3) := H
    have A8 := Aside0.mk A80
    clear A80
    simp only [Option.some.injEq, Prod.mk.injEq] at H
    obtain ⟨rfl, rfl, rfl⟩ := H
    go_enter Try.func32, Try.ntmps32
    try go_wp2_with (first | ((with_reducible refine gate_dst (N := 2) rfl ?_); refine box_event ?hg (N := 2) ?hd (cs := #[.bool a0_0, .slice A0_1 l0_1.length c0_1]) (t := 27) ?hr ?_; (case hd => rfl); (case hg => rfl); (case hr => first | (go_simp; done) | (go_simp; rfl)); intro gb380 hg w9 hbox hb; have n0_ := Aside0.mk (Kd.V_below (Kd.V_elderB (zV HO0_1.out) gb380 (Nat.le_of_eq hg.symm)) hb); have n1_ := Aside0.mk (Kd.V_below (Kd.V_elderB (zV HO1_1.out) gb380 (Nat.le_of_eq hg.symm)) hb); have n2_ := Aside0.mk (below_step zb hb); have n3_ := Aside0.mk (hbox); have n4_ := Aside0.mk ((by rw [hg]; exact (below_size zb) : w.heap.size ≤ gb380)); have n5_ := Aside0.mk ((by rw [hg]; exact (below_size zb) : w.heap.size ≤ gb380)); clear HO0_1; clear HO1_1; clear HB; have HO0_1 := n0_; have HO1_1 := n1_; have HB := n2_; have BK380 := n3_; have GW380 := n4_; have GE380 := n5_; clear n0_ n1_ n2_ n3_ n4_ n5_; clear hb hbox hg) | ((with_reducible refine gate_dst (N := 3) rfl ?_); refine box_event ?hg (N := 3) ?hd (cs := #[.bool a1_0, .slice A1_1 l1_1.length c1_1]) (t := 27) ?hr ?_; (case hd => rfl); (case hg => rfl); (case hr => first | (go_simp; done) | (go_simp; rfl)); intro gb381 hg w10 hbox hb; have n0_ := Aside0.mk (Kd.V_below (Kd.V_elderB (zV HO0_1.out) gb381 (Nat.le_of_eq hg.symm)) hb); have n1_ := Aside0.mk (Kd.V_below (Kd.V_elderB (zV HO1_1.out) gb381 (Nat.le_of_eq hg.symm)) hb); have n2_ := Aside0.mk (blk_below (g := gb380) (o := .cells #[.bool a0_0, .slice A0_1 l0_1.length c0_1] 27 (0, 0)) (zk BK380.out) hb); have n3_ := Aside0.mk (below_step zb hb); have n4_ := Aside0.mk (hbox); have n5_ := Aside0.mk ((by rw [hg]; exact (below_size zb) : w.heap.size ≤ gb381)); have n6_ := Aside0.mk ((by rw [hg]; exact (below_size zb) : w.heap.size ≤ gb381)); have n7_ := Aside0.mk ((by rw [hg]; exact Nat.ne_of_lt (blk_lt (g := gb380) (o := .cells #[.bool a0_0, .slice A0_1 l0_1.length c0_1] 27 (0, 0)) (zk BK380.out)) : gb380 ≠ gb381)); have n8_ := Aside0.mk ((by rw [hg]; exact Nat.ne_of_gt (blk_lt (g := gb380) (o := .cells #[.bool a0_0, .slice A0_1 l0_1.length c0_1] 27 (0, 0)) (zk BK380.out)) : gb381 ≠ gb380)); clear HO0_1; clear HO1_1; clear BK380; clear HB; have HO0_1 := n0_; have HO1_1 := n1_; have BK380 := n2_; have HB := n3_; have BK381 := n4_; have GW381 := n5_; have GE381 := n6_; have NB380_381 := n7_; have NB381_380 := n8_; clear n0_ n1_ n2_ n3_ n4_ n5_ n6_ n7_ n8_; clear hb hbox hg) | ((with_reducible refine gate_dst (N := 4) rfl ?_); refine box_event ?hg (N := 4) ?hd (cs := #[.bool false, .slice none 0 0]) (t := 27) ?hr ?_; (case hd => rfl); (case hg => rfl); (case hr => first | (go_simp; done) | (go_simp; rfl)); intro gb382 hg w11 hbox hb; have n0_ := Aside0.mk (Kd.V_below (Kd.V_elderB (zV HO0_1.out) gb382 (Nat.le_of_eq hg.symm)) hb); have n1_ := Aside0.mk (Kd.V_below (Kd.V_elderB (zV HO1_1.out) gb382 (Nat.le_of_eq hg.symm)) hb); have n2_ := Aside0.mk (blk_below (g := gb380) (o := .cells #[.bool a0_0, .slice A0_1 l0_1.length c0_1] 27 (0, 0)) (zk BK380.out) hb); have n3_ := Aside0.mk (blk_below (g := gb381) (o := .cells #[.bool a1_0, .slice A1_1 l1_1.length c1_1] 27 (0, 0)) (zk BK381.out) hb); have n4_ := Aside0.mk (below_step zb hb); have n5_ := Aside0.mk (hbox); have n6_ := Aside0.mk ((by rw [hg]; exact (below_size zb) : w.heap.size ≤ gb382)); have n7_ := Aside0.mk ((by rw [hg]; exact (below_size zb) : w.heap.size ≤ gb382)); have n8_ := Aside0.mk ((by rw [hg]; exact Nat.ne_of_lt (blk_lt (g := gb380) (o := .cells #[.bool a0_0, .slice A0_1 l0_1.length c0_1] 27 (0, 0)) (zk BK380.out)) : gb380 ≠ gb382)); have n9_ := Aside0.mk ((by rw [hg]; exact Nat.ne_of_gt (blk_lt (g := gb380) (o := .cells #[.bool a0_0, .slice A0_1 l0_1.length c0_1] 27 (0, 0)) (zk BK380.out)) : gb382 ≠ gb380)); have n10_ := Aside0.mk ((by rw [hg]; exact Nat.ne_of_lt (blk_lt (g := gb381) (o := .cells #[.bool a1_0, .slice A1_1 l1_1.length c1_1] 27 (0, 0)) (zk BK381.out)) : gb381 ≠ gb382)); have n11_ := Aside0.mk ((by rw [hg]; exact Nat.ne_of_gt (blk_lt (g := gb381) (o := .cells #[.bool a1_0, .slice A1_1 l1_1.length c1_1] 27 (0, 0)) (zk BK381.out)) : gb382 ≠ gb381)); clear HO0_1; clear HO1_1; clear BK380; clear BK381; clear HB; have HO0_1 := n0_; have HO1_1 := n1_; have BK380 := n2_; have BK381 := n3_; have HB := n4_; have BK382 := n5_; have GW382 := n6_; have GE382 := n7_; have NB380_382 := n8_; have NB382_380 := n9_; have NB381_382 := n10_; have NB382_381 := n11_; clear n0_ n1_ n2_ n3_ n4_ n5_ n6_ n7_ n8_ n9_ n10_ n11_; clear hb hbox hg; have hnb12 := NB380_381.out; have hnc12 := NB381_380.out; have hnb13 := NB380_382.out; have hnc13 := NB382_380.out; have hcz14_0 : w11.cell? ⟨gb380, 0, none⟩ = some (.bool a0_0) := (blk_cell BK380.out 0).trans rfl; have hcz14_1 : w11.cell? ⟨gb380, 1, none⟩ = some (.slice A0_1 l0_1.length c0_1) := (blk_cell BK380.out 1).trans rfl; have hfz14_0 := blk_frozen BK380.out 0; have hfz14_1 := blk_frozen BK380.out 1; have hnb15 := NB381_382.out; have hnc15 := NB382_381.out; have hcz16_0 : w11.cell? ⟨gb381, 0, none⟩ = some (.bool a1_0) := (blk_cell BK381.out 0).trans rfl; have hcz16_1 : w11.cell? ⟨gb381, 1, none⟩ = some (.slice A1_1 l1_1.length c1_1) := (blk_cell BK381.out 1).trans rfl; have hfz16_0 := blk_frozen BK381.out 0; have hfz16_1 := blk_frozen BK381.out 1) | ((with_reducible refine gate_callee (f := 67) rfl ?_); refine goesL_ (some 9) rfl rfl Try.func67 (by kernel_rfl) rfl #[.agg #[.bool a0_0, .slice A0_1 l0_1.length c0_1], .agg #[.bool a1_0, .slice A1_1 l1_1.length c1_1]] rfl za ?_; (with_reducible refine (impl_bigs.calls a0_0 _ _ l0_1 a1_0 _ _ l1_1 true _ ?side1 ?side2 ?side3 ?side4 A3.out).mono ?_); (case side1 => repeat (first | exact (Kd.V_reads' HO0_1.out).2.2 | (with_reducible refine Kd.C_alloc ?_ _) | (with_reducible refine Kd.C_drewN ?_ _) | (with_reducible refine Kd.C_drew ?_))); (case side2 => exact (Kd.V_reads' HO0_1.out).2.1); (case side3 => repeat (first | exact (Kd.V_reads' HO1_1.out).2.2 | (with_reducible refine Kd.C_alloc ?_ _) | (with_reducible refine Kd.C_drewN ?_ _) | (with_reducible refine Kd.C_drew ?_))); (case side4 => exact (Kd.V_reads' HO1_1.out).2.1); rintro e w17 ⟨rfl, hb⟩; refine ⟨_, rfl, ?_⟩; have n0_ := Aside0.mk (Kd.V_below (zV HO0_1.out) hb); have n1_ := Aside0.mk (Kd.V_below (zV HO1_1.out) hb); have n2_ := Aside0.mk (blk_below (g := gb380) (o := .cells #[.bool a0_0, .slice A0_1 l0_1.length c0_1] 27 (0, 0)) (zk BK380.out) hb); have n3_ := Aside0.mk (blk_below (g := gb381) (o := .cells #[.bool a1_0, .slice A1_1 l1_1.length c1_1] 27 (0, 0)) (zk BK381.out) hb); have n4_ := Aside0.mk (blk_below (g := gb382) (o := .cells #[.bool false, .slice none 0 0] 27 (0, 0)) (zk BK382.out) hb); have n5_ := Aside0.mk (below_step zb hb); clear HO0_1; clear HO1_1; clear BK380; clear BK381; clear BK382; clear HB; have HO0_1 := n0_; have HO1_1 := n1_; have BK380 := n2_; have BK381 := n3_; have BK382 := n4_; have HB := n5_; clear n0_ n1_ n2_ n3_ n4_ n5_; (try clear hb); (try clear hb2); (try clear hk); (try clear hi)))
    have n0_ := Aside0.mk (Kd.V_drew HO0_1.out)
    have n1_ := Aside0.mk (Kd.V_drew HO1_1.out)
    have n2_ := Aside0.mk (blk_drew BK380.out)
    have n3_ := Aside0.mk (blk_drew BK381.out)
    have n4_ := Aside0.mk (blk_drew BK382.out)
    have n5_ := Aside0.mk (below_drew1 HB.out)
    clear HO0_1
    clear HO1_1
    clear BK380
    clear BK381
    clear BK382
    clear HB
    have HO0_1 := n0_
    have HO1_1 := n1_
    have BK380 := n2_
    have BK381 := n3_
    have BK382 := n4_
    have HB := n5_
    clear n0_ n1_ n2_ n3_ n4_ n5_
    refine start_ (n := 7) (S := fun w' => w'.cell? ⟨gb380, 0, none⟩ = some (.bool a0_0) ∧ w'.cell? ⟨gb380, 1, none⟩ = some (.slice A0_1 l0_1.length c0_1) ∧ w'.cell? ⟨gb381, 0, none⟩ = some (.bool a1_0) ∧ w'.cell? ⟨gb381, 1, none⟩ = some (.slice A1_1 l1_1.length c1_1)) (ds := []) #[false, false, false, false, false, false, false] (by kernel_rfl) rfl rfl ⟨(blk_cell BK380.out 0).trans rfl, (blk_cell BK380.out 1).trans rfl, (blk_cell BK381.out 0).trans rfl, (blk_cell BK381.out 1).trans rfl⟩ (fun hHeld => ?_)
    generalize w17.drew = w18 at HO0_1 HO1_1 BK380 BK381 BK382 HB hHeld ⊢
    refine take_ (i := 0) (N := some 12) (v := ?_) (a' := ?_) #[true, false, false, false, false, false, false] rfl rfl (by kernel_rfl) (fun _ _ _ h => h) (Or.inl ⟨by rfl, ?_⟩) hHeld ?_ ?_
    rotate_left
    · rintro w' ⟨s0, s1, s2, s3⟩
      go_simp
      with_reducible rfl
    rotate_left
    · simp only [Act.put, List.setIfInBounds_toArray, List.set_cons_zero, List.set_cons_succ, i64_w, i32_w]
      rfl
    refine take_ (i := 2) (N := some 14) (v := ?_) (a' := ?_) #[true, false, true, false, false, false, false] rfl rfl (by kernel_rfl) (fun _ _ _ h => h) (Or.inl ⟨by rfl, ?_⟩) hHeld ?_ ?_
    rotate_left
    · rintro w' ⟨s0, s1, s2, s3⟩
      go_simp
      with_reducible rfl
    rotate_left
    · simp only [Act.put, List.setIfInBounds_toArray, List.set_cons_zero, List.set_cons_succ, i64_w, i32_w]
      rfl
    refine join_ (σ := Value × Value × Value × Nat) 1 #[true, true, true, true, true, true, false] (fun s_ => [(13, .agg #[.bool t384, s_.1]), (15, .agg #[.bool t388, s_.2.1]), (16, .agg #[.bool t392, s_.2.2.1]), (6, .pointer (some ⟨s_.2.2.2, 0, none⟩))]) (fun s_ w' => (w'.cell? ⟨gb380, 0, none⟩ = some (.bool a0_0) ∧ w'.cell? ⟨gb380, 1, none⟩ = some (.slice A0_1 l0_1.length c0_1) ∧ w'.cell? ⟨gb381, 0, none⟩ = some (.bool a1_0) ∧ w'.cell? ⟨gb381, 1, none⟩ = some (.slice A1_1 l1_1.length c1_1)) ∧ (Kd.V (Kd.int .i64) 3 w' w.heap.size (fun k_ => ((P0_1_ k_ ∨ P1_1_ k_) ∨ w.heap.size ≤ k_) ∧ k_ ≠ gb380 ∧ k_ ≠ gb381 ∧ k_ ≠ gb382 ∧ k_ ≠ s_.2.2.2) (.slice A0_1 l0_1.length c0_1) l0_1) ∧ (Kd.V (Kd.int .i64) 3 w' w.heap.size (fun k_ => ((P0_1_ k_ ∨ P1_1_ k_) ∨ w.heap.size ≤ k_) ∧ k_ ≠ gb380 ∧ k_ ≠ gb381 ∧ k_ ≠ gb382 ∧ k_ ≠ s_.2.2.2) (.slice A1_1 l1_1.length c1_1) l1_1) ∧ (Kd.V (Kd.int .i64) 3 w' w.heap.size (fun k_ => ((P0_1_ k_ ∨ P1_1_ k_) ∨ w.heap.size ≤ k_) ∧ k_ ≠ gb380 ∧ k_ ≠ gb381 ∧ k_ ≠ gb382 ∧ k_ ≠ s_.2.2.2) s_.1 t385) ∧ (Kd.V (Kd.int .i64) 3 w' w.heap.size (fun k_ => ((P0_1_ k_ ∨ P1_1_ k_) ∨ w.heap.size ≤ k_) ∧ k_ ≠ gb380 ∧ k_ ≠ gb381 ∧ k_ ≠ gb382 ∧ k_ ≠ s_.2.2.2) s_.2.1 t389) ∧ (Kd.V (Kd.int .i64) 3 w' w.heap.size (fun k_ => ((P0_1_ k_ ∨ P1_1_ k_) ∨ w.heap.size ≤ k_) ∧ k_ ≠ gb380 ∧ k_ ≠ gb381 ∧ k_ ≠ gb382 ∧ k_ ≠ s_.2.2.2) s_.2.2.1 t393) ∧ (w'.heap[gb380]? = some (.cells #[.bool a0_0, .slice A0_1 l0_1.length c0_1] 27 (0, 0))) ∧ (w'.heap[gb381]? = some (.cells #[.bool a1_0, .slice A1_1 l1_1.length c1_1] 27 (0, 0))) ∧ (w'.heap[gb382]? = some (.cells #[.bool false, .slice none 0 0] 27 (0, 0))) ∧ (w'.heap[s_.2.2.2]? = some (.cells #[.bool false, .slice none 0 0] 64 (0, 0))) ∧ (w.heap.size ≤ s_.2.2.2) ∧ (w.heap.size ≤ s_.2.2.2) ∧ (gb380 ≠ s_.2.2.2) ∧ (s_.2.2.2 ≠ gb380) ∧ (gb381 ≠ s_.2.2.2) ∧ (s_.2.2.2 ≠ gb381) ∧ (gb382 ≠ s_.2.2.2) ∧ (s_.2.2.2 ≠ gb382) ∧ (Below w.heap.size w w')) ?_ ?_
    rotate_left
    · intro hCont
      refine two_ (i := 1) (j := 5) (Ni := some 13) (Nj := some 6) #[true, true, true, false, false, false, false] #[true, false, true, false, false, true, false] rfl rfl rfl rfl (by kernel_rfl) (by decide) (by decide) (fun K hK => ?_) (fun K hK => ?_)
      · skip
        refine goes_ Try.func68 (by kernel_rfl) rfl #[.agg #[.bool a0_0, .slice A0_1 l0_1.length c0_1]] (by rfl) rfl rfl za ?_
        with_reducible refine (impl_Big_signed.calls a0_0 (fun k_ => (((((P0_1_ k_ ∨ P1_1_ k_) ∨ w.heap.size ≤ k_) ∧ k_ ≠ gb380) ∧ k_ ≠ gb381) ∧ k_ ≠ gb382)) _ _ l0_1 t384 t385 _ ?side1 A5.out).mono ?_
        (case side1 => exact HO0_1.out)
        rintro e w19 ⟨v386, rfl, ho0, hb⟩
        refine ⟨_, rfl, ?_⟩
        have n0_ := Aside0.mk (Kd.V_below (zV HO0_1.out) hb)
        have n1_ := Aside0.mk (Kd.V_below (zV HO1_1.out) hb)
        have n2_ := Aside0.mk (Kd.V_lower (Kd.V_mono (ok' := fun k_ => ((P0_1_ k_ ∨ P1_1_ k_) ∨ w.heap.size ≤ k_) ∧ k_ ≠ gb380 ∧ k_ ≠ gb381 ∧ k_ ≠ gb382) ho0 (fun k_ hk_ => ⟨Or.elim hk_ (fun hs_ => hs_.1.1.1) (fun hn_ => (.inr (Nat.le_trans (below_size zb) hn_))), Or.elim hk_ (fun hs_ => hs_.1.1.2) (fun hn_ => (Kd.freshB (g := gb380) (o := .cells #[.bool a0_0, .slice A0_1 l0_1.length c0_1] 27 (0, 0)) (zk BK380.out) k_ hn_)), Or.elim hk_ (fun hs_ => hs_.1.2) (fun hn_ => (Kd.freshB (g := gb381) (o := .cells #[.bool a1_0, .slice A1_1 l1_1.length c1_1] 27 (0, 0)) (zk BK381.out) k_ hn_)), Or.elim hk_ (fun hs_ => hs_.2) (fun hn_ => (Kd.freshB (g := gb382) (o := .cells #[.bool false, .slice none 0 0] 27 (0, 0)) (zk BK382.out) k_ hn_))⟩)) (below_size zb))
        have n3_ := Aside0.mk (blk_below (g := gb380) (o := .cells #[.bool a0_0, .slice A0_1 l0_1.length c0_1] 27 (0, 0)) (zk BK380.out) hb)
        have n4_ := Aside0.mk (blk_below (g := gb381) (o := .cells #[.bool a1_0, .slice A1_1 l1_1.length c1_1] 27 (0, 0)) (zk BK381.out) hb)
        have n5_ := Aside0.mk (blk_below (g := gb382) (o := .cells #[.bool false, .slice none 0 0] 27 (0, 0)) (zk BK382.out) hb)
        have n6_ := Aside0.mk (below_step zb hb)
        clear HO0_1
        clear HO1_1
        clear BK380
        clear BK381
        clear BK382
        clear HB
        have HO0_1 := n0_
        have HO1_1 := n1_
        have HO387 := n2_
        have BK380 := n3_
        have BK381 := n4_
        have BK382 := n5_
        have HB := n6_
        clear n0_ n1_ n2_ n3_ n4_ n5_ n6_
        (try clear hb)
        (try clear hb2)
        (try clear hk)
        (try clear hi)
        (try clear ho0)
        refine hK.out _ _ ⟨(blk_cell BK380.out 0).trans rfl, (blk_cell BK380.out 1).trans rfl, (blk_cell BK381.out 0).trans rfl, (blk_cell BK381.out 1).trans rfl⟩ (fun hHeld => ?_)
        clear hK K
        refine norm_ (a' := ?_) ?_ ?_
        rotate_left
        · show Act.put _ (some 13) _ = _
          simp only [Act.put, List.setIfInBounds_toArray, List.set_cons_zero, List.set_cons_succ, i64_w, i32_w]
          rfl
        refine two_ (i := 3) (j := 5) (Ni := some 15) (Nj := some 6) #[true, true, true, true, false, false, false] #[true, true, true, false, false, true, false] rfl rfl rfl rfl (by kernel_rfl) (by decide) (by decide) (fun K hK => ?_) (fun K hK => ?_)
        · skip
          refine goes_ Try.func68 (by kernel_rfl) rfl #[.agg #[.bool a1_0, .slice A1_1 l1_1.length c1_1]] (by rfl) rfl rfl za ?_
          with_reducible refine (impl_Big_signed.calls a1_0 (fun k_ => (((((P0_1_ k_ ∨ P1_1_ k_) ∨ w.heap.size ≤ k_) ∧ k_ ≠ gb380) ∧ k_ ≠ gb381) ∧ k_ ≠ gb382)) _ _ l1_1 t388 t389 _ ?side1 A6.out).mono ?_
          (case side1 => exact HO1_1.out)
          rintro e w20 ⟨v390, rfl, ho0, hb⟩
          refine ⟨_, rfl, ?_⟩
          have n0_ := Aside0.mk (Kd.V_below (zV HO0_1.out) hb)
          have n1_ := Aside0.mk (Kd.V_below (zV HO1_1.out) hb)
          have n2_ := Aside0.mk (Kd.V_below (zV HO387.out) hb)
          have n3_ := Aside0.mk (Kd.V_lower (Kd.V_mono (ok' := fun k_ => ((P0_1_ k_ ∨ P1_1_ k_) ∨ w.heap.size ≤ k_) ∧ k_ ≠ gb380 ∧ k_ ≠ gb381 ∧ k_ ≠ gb382) ho0 (fun k_ hk_ => ⟨Or.elim hk_ (fun hs_ => hs_.1.1.1) (fun hn_ => (.inr (Nat.le_trans (below_size zb) hn_))), Or.elim hk_ (fun hs_ => hs_.1.1.2) (fun hn_ => (Kd.freshB (g := gb380) (o := .cells #[.bool a0_0, .slice A0_1 l0_1.length c0_1] 27 (0, 0)) (zk BK380.out) k_ hn_)), Or.elim hk_ (fun hs_ => hs_.1.2) (fun hn_ => (Kd.freshB (g := gb381) (o := .cells #[.bool a1_0, .slice A1_1 l1_1.length c1_1] 27 (0, 0)) (zk BK381.out) k_ hn_)), Or.elim hk_ (fun hs_ => hs_.2) (fun hn_ => (Kd.freshB (g := gb382) (o := .cells #[.bool false, .slice none 0 0] 27 (0, 0)) (zk BK382.out) k_ hn_))⟩)) (below_size zb))
          have n4_ := Aside0.mk (blk_below (g := gb380) (o := .cells #[.bool a0_0, .slice A0_1 l0_1.length c0_1] 27 (0, 0)) (zk BK380.out) hb)
          have n5_ := Aside0.mk (blk_below (g := gb381) (o := .cells #[.bool a1_0, .slice A1_1 l1_1.length c1_1] 27 (0, 0)) (zk BK381.out) hb)
          have n6_ := Aside0.mk (blk_below (g := gb382) (o := .cells #[.bool false, .slice none 0 0] 27 (0, 0)) (zk BK382.out) hb)
          have n7_ := Aside0.mk (below_step zb hb)
          clear HO0_1
          clear HO1_1
          clear HO387
          clear BK380
          clear BK381
          clear BK382
          clear HB
          have HO0_1 := n0_
          have HO1_1 := n1_
          have HO387 := n2_
          have HO391 := n3_
          have BK380 := n4_
          have BK381 := n5_
          have BK382 := n6_
          have HB := n7_
          clear n0_ n1_ n2_ n3_ n4_ n5_ n6_ n7_
          (try clear hb)
          (try clear hb2)
          (try clear hk)
          (try clear hi)
          (try clear ho0)
          obtain ⟨Ao21, co21, eo21⟩ := Kd.V_slice HO387.out
          (first | subst eo21 | (injection eo21 with f1_ f2_ f3_; have f4_ := f1_.symm; have f5_ := f3_.symm; clear f1_ f2_ f3_; subst f4_; subst f5_))
          obtain ⟨Ao22, co22, eo22⟩ := Kd.V_slice HO391.out
          (first | subst eo22 | (injection eo22 with f1_ f2_ f3_; have f4_ := f1_.symm; have f5_ := f3_.symm; clear f1_ f2_ f3_; subst f4_; subst f5_))
          refine hK.out _ _ ⟨(blk_cell BK380.out 0).trans rfl, (blk_cell BK380.out 1).trans rfl, (blk_cell BK381.out 0).trans rfl, (blk_cell BK381.out 1).trans rfl⟩ (fun hHeld => ?_)
          clear hK K
          refine norm_ (a' := ?_) ?_ ?_
          rotate_left
          · show Act.put _ (some 15) _ = _
            simp only [Act.put, List.setIfInBounds_toArray, List.set_cons_zero, List.set_cons_succ, i64_w, i32_w]
            rfl
          refine two_ (i := 4) (j := 5) (Ni := some 16) (Nj := some 6) #[true, true, true, true, true, false, false] #[true, true, true, true, false, true, false] rfl rfl rfl rfl (by kernel_rfl) (by decide) (by decide) (fun K hK => ?_) (fun K hK => ?_)
          · skip
            refine goes_ Try.func69 (by kernel_rfl) rfl #[.agg #[.bool t384, .slice Ao21 t385.length co21], .agg #[.bool t388, .slice Ao22 t389.length co22]] (by rfl) rfl rfl za ?_
            with_reducible refine (impl_signed_add.calls k t384 _ _ t385 t388 _ _ t389 t392 t393 _ ?side1 ?side2 ?side3 ?side4 A7.out).mono ?_
            (case side1 => repeat (first | exact (Kd.V_reads' HO387.out).2.2 | (with_reducible refine Kd.C_alloc ?_ _) | (with_reducible refine Kd.C_drewN ?_ _) | (with_reducible refine Kd.C_drew ?_)))
            (case side2 => exact (Kd.V_reads' HO387.out).2.1)
            (case side3 => repeat (first | exact (Kd.V_reads' HO391.out).2.2 | (with_reducible refine Kd.C_alloc ?_ _) | (with_reducible refine Kd.C_drewN ?_ _) | (with_reducible refine Kd.C_drew ?_)))
            (case side4 => exact (Kd.V_reads' HO391.out).2.1)
            rintro e w23 ⟨v394, rfl, ho0, hb⟩
            refine ⟨_, rfl, ?_⟩
            have n0_ := Aside0.mk (Kd.V_below (zV HO0_1.out) hb)
            have n1_ := Aside0.mk (Kd.V_below (zV HO1_1.out) hb)
            have n2_ := Aside0.mk (Kd.V_below (zV HO387.out) hb)
            have n3_ := Aside0.mk (Kd.V_below (zV HO391.out) hb)
            have n4_ := Aside0.mk (Kd.V_lower (Kd.V_mono (ok' := fun k_ => ((P0_1_ k_ ∨ P1_1_ k_) ∨ w.heap.size ≤ k_) ∧ k_ ≠ gb380 ∧ k_ ≠ gb381 ∧ k_ ≠ gb382) ho0 (fun k_ hk_ => ⟨(.inr (Nat.le_trans (below_size zb) hk_)), (Kd.freshB (g := gb380) (o := .cells #[.bool a0_0, .slice A0_1 l0_1.length c0_1] 27 (0, 0)) (zk BK380.out) k_ hk_), (Kd.freshB (g := gb381) (o := .cells #[.bool a1_0, .slice A1_1 l1_1.length c1_1] 27 (0, 0)) (zk BK381.out) k_ hk_), (Kd.freshB (g := gb382) (o := .cells #[.bool false, .slice none 0 0] 27 (0, 0)) (zk BK382.out) k_ hk_)⟩)) (below_size zb))
            have n5_ := Aside0.mk (blk_below (g := gb380) (o := .cells #[.bool a0_0, .slice A0_1 l0_1.length c0_1] 27 (0, 0)) (zk BK380.out) hb)
            have n6_ := Aside0.mk (blk_below (g := gb381) (o := .cells #[.bool a1_0, .slice A1_1 l1_1.length c1_1] 27 (0, 0)) (zk BK381.out) hb)
            have n7_ := Aside0.mk (blk_below (g := gb382) (o := .cells #[.bool false, .slice none 0 0] 27 (0, 0)) (zk BK382.out) hb)
            have n8_ := Aside0.mk (below_step zb hb)
            clear HO0_1
            clear HO1_1
            clear HO387
            clear HO391
            clear BK380
            clear BK381
            clear BK382
            clear HB
            have HO0_1 := n0_
            have HO1_1 := n1_
            have HO387 := n2_
            have HO391 := n3_
            have HO395 := n4_
            have BK380 := n5_
            have BK381 := n6_
            have BK382 := n7_
            have HB := n8_
            clear n0_ n1_ n2_ n3_ n4_ n5_ n6_ n7_ n8_
            (try clear hb)
            (try clear hb2)
            (try clear hk)
            (try clear hi)
            (try clear ho0)
            refine hK.out _ _ ⟨(blk_cell BK380.out 0).trans rfl, (blk_cell BK380.out 1).trans rfl, (blk_cell BK381.out 0).trans rfl, (blk_cell BK381.out 1).trans rfl⟩ (fun hHeld => ?_)
            clear hK K
            refine norm_ (a' := ?_) ?_ ?_
            rotate_left
            · show Act.put _ (some 16) _ = _
              simp only [Act.put, List.setIfInBounds_toArray, List.set_cons_zero, List.set_cons_succ, i64_w, i32_w]
              rfl
            refine one_ (i := 5) (N := some 6) #[true, true, true, true, true, true, false] rfl rfl (by kernel_rfl) (by decide) (fun K hK => ?_)
            refine box_step ?hg (N := 6) ?hd (cs := #[.bool false, .slice none 0 0]) (t := 64) ?hr ?_; (case hd => rfl); (case hg => rfl); (case hr => first | (go_simp; done) | (go_simp; rfl))
            intro gb396 hg w24 hbox hb
            have n0_ := Aside0.mk (Kd.V_below (Kd.V_elderB (zV HO0_1.out) gb396 (Nat.le_of_eq hg.symm)) hb)
            have n1_ := Aside0.mk (Kd.V_below (Kd.V_elderB (zV HO1_1.out) gb396 (Nat.le_of_eq hg.symm)) hb)
            have n2_ := Aside0.mk (Kd.V_below (Kd.V_elderB (zV HO387.out) gb396 (Nat.le_of_eq hg.symm)) hb)
            have n3_ := Aside0.mk (Kd.V_below (Kd.V_elderB (zV HO391.out) gb396 (Nat.le_of_eq hg.symm)) hb)
            have n4_ := Aside0.mk (Kd.V_below (Kd.V_elderB (zV HO395.out) gb396 (Nat.le_of_eq hg.symm)) hb)
            have n5_ := Aside0.mk (blk_below (g := gb380) (o := .cells #[.bool a0_0, .slice A0_1 l0_1.length c0_1] 27 (0, 0)) (zk BK380.out) hb)
            have n6_ := Aside0.mk (blk_below (g := gb381) (o := .cells #[.bool a1_0, .slice A1_1 l1_1.length c1_1] 27 (0, 0)) (zk BK381.out) hb)
            have n7_ := Aside0.mk (blk_below (g := gb382) (o := .cells #[.bool false, .slice none 0 0] 27 (0, 0)) (zk BK382.out) hb)
            have n8_ := Aside0.mk (below_step zb hb)
            have n9_ := Aside0.mk (hbox)
            have n10_ := Aside0.mk ((by rw [hg]; exact (below_size zb) : w.heap.size ≤ gb396))
            have n11_ := Aside0.mk ((by rw [hg]; exact (below_size zb) : w.heap.size ≤ gb396))
            have n12_ := Aside0.mk ((by rw [hg]; exact Nat.ne_of_lt (blk_lt (g := gb380) (o := .cells #[.bool a0_0, .slice A0_1 l0_1.length c0_1] 27 (0, 0)) (zk BK380.out)) : gb380 ≠ gb396))
            have n13_ := Aside0.mk ((by rw [hg]; exact Nat.ne_of_gt (blk_lt (g := gb380) (o := .cells #[.bool a0_0, .slice A0_1 l0_1.length c0_1] 27 (0, 0)) (zk BK380.out)) : gb396 ≠ gb380))
            have n14_ := Aside0.mk ((by rw [hg]; exact Nat.ne_of_lt (blk_lt (g := gb381) (o := .cells #[.bool a1_0, .slice A1_1 l1_1.length c1_1] 27 (0, 0)) (zk BK381.out)) : gb381 ≠ gb396))
            have n15_ := Aside0.mk ((by rw [hg]; exact Nat.ne_of_gt (blk_lt (g := gb381) (o := .cells #[.bool a1_0, .slice A1_1 l1_1.length c1_1] 27 (0, 0)) (zk BK381.out)) : gb396 ≠ gb381))
            have n16_ := Aside0.mk ((by rw [hg]; exact Nat.ne_of_lt (blk_lt (g := gb382) (o := .cells #[.bool false, .slice none 0 0] 27 (0, 0)) (zk BK382.out)) : gb382 ≠ gb396))
            have n17_ := Aside0.mk ((by rw [hg]; exact Nat.ne_of_gt (blk_lt (g := gb382) (o := .cells #[.bool false, .slice none 0 0] 27 (0, 0)) (zk BK382.out)) : gb396 ≠ gb382))
            clear HO0_1
            clear HO1_1
            clear HO387
            clear HO391
            clear HO395
            clear BK380
            clear BK381
            clear BK382
            clear HB
            have HO0_1 := n0_
            have HO1_1 := n1_
            have HO387 := n2_
            have HO391 := n3_
            have HO395 := n4_
            have BK380 := n5_
            have BK381 := n6_
            have BK382 := n7_
            have HB := n8_
            have BK396 := n9_
            have GW396 := n10_
            have GE396 := n11_
            have NB380_396 := n12_
            have NB396_380 := n13_
            have NB381_396 := n14_
            have NB396_381 := n15_
            have NB382_396 := n16_
            have NB396_382 := n17_
            clear n0_ n1_ n2_ n3_ n4_ n5_ n6_ n7_ n8_ n9_ n10_ n11_ n12_ n13_ n14_ n15_ n16_ n17_
            clear hb hbox hg
            refine hK.out _ _ ⟨(blk_cell BK380.out 0).trans rfl, (blk_cell BK380.out 1).trans rfl, (blk_cell BK381.out 0).trans rfl, (blk_cell BK381.out 1).trans rfl⟩ (fun hHeld => ?_)
            clear hK K
            refine norm_ (a' := ?_) ?_ ?_
            rotate_left
            · show Act.put _ (some 6) _ = _
              simp only [Act.put, List.setIfInBounds_toArray, List.set_cons_zero, List.set_cons_succ, i64_w, i32_w]
              rfl
            exact norm_ (by simp only [putAll, Act.put, List.setIfInBounds_toArray, List.set_cons_zero, List.set_cons_succ]) (hCont (.slice Ao21 t385.length co21, .slice Ao22 t389.length co22, v394, gb396) _ ⟨hHeld, (by (with_reducible repeat (first | apply Kd.V_alloc | apply Kd.V_drewN | apply Kd.V_drew)); exact Kd.V_mono HO0_1.out (fun _ hk => ⟨hk.1.1.1.1, ⟨hk.1.1.1.2, ⟨hk.1.1.2, ⟨hk.1.2, hk.2⟩⟩⟩⟩)), (by (with_reducible repeat (first | apply Kd.V_alloc | apply Kd.V_drewN | apply Kd.V_drew)); exact Kd.V_mono HO1_1.out (fun _ hk => ⟨hk.1.1.1.1, ⟨hk.1.1.1.2, ⟨hk.1.1.2, ⟨hk.1.2, hk.2⟩⟩⟩⟩)), (by (with_reducible repeat (first | apply Kd.V_alloc | apply Kd.V_drewN | apply Kd.V_drew)); exact Kd.V_mono HO387.out (fun _ hk => ⟨hk.1.1, ⟨hk.1.2.1, ⟨hk.1.2.2.1, ⟨hk.1.2.2.2, hk.2⟩⟩⟩⟩)), (by (with_reducible repeat (first | apply Kd.V_alloc | apply Kd.V_drewN | apply Kd.V_drew)); exact Kd.V_mono HO391.out (fun _ hk => ⟨hk.1.1, ⟨hk.1.2.1, ⟨hk.1.2.2.1, ⟨hk.1.2.2.2, hk.2⟩⟩⟩⟩)), (by (with_reducible repeat (first | apply Kd.V_alloc | apply Kd.V_drewN | apply Kd.V_drew)); exact Kd.V_mono HO395.out (fun _ hk => ⟨hk.1.1, ⟨hk.1.2.1, ⟨hk.1.2.2.1, ⟨hk.1.2.2.2, hk.2⟩⟩⟩⟩)), (zk BK380.out), (zk BK381.out), (zk BK382.out), (zk BK396.out), GW396.out, GE396.out, NB380_396.out, NB396_380.out, NB381_396.out, NB396_381.out, NB382_396.out, NB396_382.out, zb⟩)
          · skip
            refine box_step ?hg (N := 6) ?hd (cs := #[.bool false, .slice none 0 0]) (t := 64) ?hr ?_; (case hd => rfl); (case hg => rfl); (case hr => first | (go_simp; done) | (go_simp; rfl))
            intro gb396 hg w21 hbox hb
            have n0_ := Aside0.mk (Kd.V_below (Kd.V_elderB (zV HO0_1.out) gb396 (Nat.le_of_eq hg.symm)) hb)
            have n1_ := Aside0.mk (Kd.V_below (Kd.V_elderB (zV HO1_1.out) gb396 (Nat.le_of_eq hg.symm)) hb)
            have n2_ := Aside0.mk (Kd.V_below (Kd.V_elderB (zV HO387.out) gb396 (Nat.le_of_eq hg.symm)) hb)
            have n3_ := Aside0.mk (Kd.V_below (Kd.V_elderB (zV HO391.out) gb396 (Nat.le_of_eq hg.symm)) hb)
            have n4_ := Aside0.mk (blk_below (g := gb380) (o := .cells #[.bool a0_0, .slice A0_1 l0_1.length c0_1] 27 (0, 0)) (zk BK380.out) hb)
            have n5_ := Aside0.mk (blk_below (g := gb381) (o := .cells #[.bool a1_0, .slice A1_1 l1_1.length c1_1] 27 (0, 0)) (zk BK381.out) hb)
            have n6_ := Aside0.mk (blk_below (g := gb382) (o := .cells #[.bool false, .slice none 0 0] 27 (0, 0)) (zk BK382.out) hb)
            have n7_ := Aside0.mk (below_step zb hb)
            have n8_ := Aside0.mk (hbox)
            have n9_ := Aside0.mk ((by rw [hg]; exact (below_size zb) : w.heap.size ≤ gb396))
            have n10_ := Aside0.mk ((by rw [hg]; exact (below_size zb) : w.heap.size ≤ gb396))
            have n11_ := Aside0.mk ((by rw [hg]; exact Nat.ne_of_lt (blk_lt (g := gb380) (o := .cells #[.bool a0_0, .slice A0_1 l0_1.length c0_1] 27 (0, 0)) (zk BK380.out)) : gb380 ≠ gb396))
            have n12_ := Aside0.mk ((by rw [hg]; exact Nat.ne_of_gt (blk_lt (g := gb380) (o := .cells #[.bool a0_0, .slice A0_1 l0_1.length c0_1] 27 (0, 0)) (zk BK380.out)) : gb396 ≠ gb380))
            have n13_ := Aside0.mk ((by rw [hg]; exact Nat.ne_of_lt (blk_lt (g := gb381) (o := .cells #[.bool a1_0, .slice A1_1 l1_1.length c1_1] 27 (0, 0)) (zk BK381.out)) : gb381 ≠ gb396))
            have n14_ := Aside0.mk ((by rw [hg]; exact Nat.ne_of_gt (blk_lt (g := gb381) (o := .cells #[.bool a1_0, .slice A1_1 l1_1.length c1_1] 27 (0, 0)) (zk BK381.out)) : gb396 ≠ gb381))
            have n15_ := Aside0.mk ((by rw [hg]; exact Nat.ne_of_lt (blk_lt (g := gb382) (o := .cells #[.bool false, .slice none 0 0] 27 (0, 0)) (zk BK382.out)) : gb382 ≠ gb396))
            have n16_ := Aside0.mk ((by rw [hg]; exact Nat.ne_of_gt (blk_lt (g := gb382) (o := .cells #[.bool false, .slice none 0 0] 27 (0, 0)) (zk BK382.out)) : gb396 ≠ gb382))
            clear HO0_1
            clear HO1_1
            clear HO387
            clear HO391
            clear BK380
            clear BK381
            clear BK382
            clear HB
            have HO0_1 := n0_
            have HO1_1 := n1_
            have HO387 := n2_
            have HO391 := n3_
            have BK380 := n4_
            have BK381 := n5_
            have BK382 := n6_
            have HB := n7_
            have BK396 := n8_
            have GW396 := n9_
            have GE396 := n10_
            have NB380_396 := n11_
            have NB396_380 := n12_
            have NB381_396 := n13_
            have NB396_381 := n14_
            have NB382_396 := n15_
            have NB396_382 := n16_
            clear n0_ n1_ n2_ n3_ n4_ n5_ n6_ n7_ n8_ n9_ n10_ n11_ n12_ n13_ n14_ n15_ n16_
            clear hb hbox hg
            obtain ⟨Ao22, co22, eo22⟩ := Kd.V_slice HO387.out
            (first | subst eo22 | (injection eo22 with f1_ f2_ f3_; have f4_ := f1_.symm; have f5_ := f3_.symm; clear f1_ f2_ f3_; subst f4_; subst f5_))
            obtain ⟨Ao23, co23, eo23⟩ := Kd.V_slice HO391.out
            (first | subst eo23 | (injection eo23 with f1_ f2_ f3_; have f4_ := f1_.symm; have f5_ := f3_.symm; clear f1_ f2_ f3_; subst f4_; subst f5_))
            refine hK.out _ _ ⟨(blk_cell BK380.out 0).trans rfl, (blk_cell BK380.out 1).trans rfl, (blk_cell BK381.out 0).trans rfl, (blk_cell BK381.out 1).trans rfl⟩ (fun hHeld => ?_)
            clear hK K
            refine norm_ (a' := ?_) ?_ ?_
            rotate_left
            · show Act.put _ (some 6) _ = _
              simp only [Act.put, List.setIfInBounds_toArray, List.set_cons_zero, List.set_cons_succ, i64_w, i32_w]
              rfl
            refine one_ (i := 4) (N := some 16) #[true, true, true, true, true, true, false] rfl rfl (by kernel_rfl) (by decide) (fun K hK => ?_)
            refine goes_ Try.func69 (by kernel_rfl) rfl #[.agg #[.bool t384, .slice Ao22 t385.length co22], .agg #[.bool t388, .slice Ao23 t389.length co23]] (by rfl) rfl rfl za ?_
            with_reducible refine (impl_signed_add.calls k t384 _ _ t385 t388 _ _ t389 t392 t393 _ ?side1 ?side2 ?side3 ?side4 A7.out).mono ?_
            (case side1 => repeat (first | exact (Kd.V_reads' HO387.out).2.2 | (with_reducible refine Kd.C_alloc ?_ _) | (with_reducible refine Kd.C_drewN ?_ _) | (with_reducible refine Kd.C_drew ?_)))
            (case side2 => exact (Kd.V_reads' HO387.out).2.1)
            (case side3 => repeat (first | exact (Kd.V_reads' HO391.out).2.2 | (with_reducible refine Kd.C_alloc ?_ _) | (with_reducible refine Kd.C_drewN ?_ _) | (with_reducible refine Kd.C_drew ?_)))
            (case side4 => exact (Kd.V_reads' HO391.out).2.1)
            rintro e w24 ⟨v394, rfl, ho0, hb⟩
            refine ⟨_, rfl, ?_⟩
            have n0_ := Aside0.mk (Kd.V_below (zV HO0_1.out) hb)
            have n1_ := Aside0.mk (Kd.V_below (zV HO1_1.out) hb)
            have n2_ := Aside0.mk (Kd.V_below (zV HO387.out) hb)
            have n3_ := Aside0.mk (Kd.V_below (zV HO391.out) hb)
            have n4_ := Aside0.mk (Kd.V_lower (Kd.V_mono (ok' := fun k_ => ((P0_1_ k_ ∨ P1_1_ k_) ∨ w.heap.size ≤ k_) ∧ k_ ≠ gb380 ∧ k_ ≠ gb381 ∧ k_ ≠ gb382 ∧ k_ ≠ gb396) ho0 (fun k_ hk_ => ⟨(.inr (Nat.le_trans (below_size zb) hk_)), (Kd.freshB (g := gb380) (o := .cells #[.bool a0_0, .slice A0_1 l0_1.length c0_1] 27 (0, 0)) (zk BK380.out) k_ hk_), (Kd.freshB (g := gb381) (o := .cells #[.bool a1_0, .slice A1_1 l1_1.length c1_1] 27 (0, 0)) (zk BK381.out) k_ hk_), (Kd.freshB (g := gb382) (o := .cells #[.bool false, .slice none 0 0] 27 (0, 0)) (zk BK382.out) k_ hk_), (Kd.freshB (g := gb396) (o := .cells #[.bool false, .slice none 0 0] 64 (0, 0)) (zk BK396.out) k_ hk_)⟩)) (below_size zb))
            have n5_ := Aside0.mk (blk_below (g := gb380) (o := .cells #[.bool a0_0, .slice A0_1 l0_1.length c0_1] 27 (0, 0)) (zk BK380.out) hb)
            have n6_ := Aside0.mk (blk_below (g := gb381) (o := .cells #[.bool a1_0, .slice A1_1 l1_1.length c1_1] 27 (0, 0)) (zk BK381.out) hb)
            have n7_ := Aside0.mk (blk_below (g := gb382) (o := .cells #[.bool false, .slice none 0 0] 27 (0, 0)) (zk BK382.out) hb)
            have n8_ := Aside0.mk (blk_below (g := gb396) (o := .cells #[.bool false, .slice none 0 0] 64 (0, 0)) (zk BK396.out) hb)
            have n9_ := Aside0.mk (below_step zb hb)
            clear HO0_1
            clear HO1_1
            clear HO387
            clear HO391
            clear BK380
            clear BK381
            clear BK382
            clear BK396
            clear HB
            have HO0_1 := n0_
            have HO1_1 := n1_
            have HO387 := n2_
            have HO391 := n3_
            have HO395 := n4_
            have BK380 := n5_
            have BK381 := n6_
            have BK382 := n7_
            have BK396 := n8_
            have HB := n9_
            clear n0_ n1_ n2_ n3_ n4_ n5_ n6_ n7_ n8_ n9_
            (try clear hb)
            (try clear hb2)
            (try clear hk)
            (try clear hi)
            (try clear ho0)
            refine hK.out _ _ ⟨(blk_cell BK380.out 0).trans rfl, (blk_cell BK380.out 1).trans rfl, (blk_cell BK381.out 0).trans rfl, (blk_cell BK381.out 1).trans rfl⟩ (fun hHeld => ?_)
            clear hK K
            refine norm_ (a' := ?_) ?_ ?_
            rotate_left
            · show Act.put _ (some 16) _ = _
              simp only [Act.put, List.setIfInBounds_toArray, List.set_cons_zero, List.set_cons_succ, i64_w, i32_w]
              rfl
            exact norm_ (by simp only [putAll, Act.put, List.setIfInBounds_toArray, List.set_cons_zero, List.set_cons_succ]) (hCont (.slice Ao22 t385.length co22, .slice Ao23 t389.length co23, v394, gb396) _ ⟨hHeld, (by (with_reducible repeat (first | apply Kd.V_alloc | apply Kd.V_drewN | apply Kd.V_drew)); exact Kd.V_mono HO0_1.out (fun _ hk => ⟨hk.1.1.1.1, ⟨hk.1.1.1.2, ⟨hk.1.1.2, ⟨hk.1.2, hk.2⟩⟩⟩⟩)), (by (with_reducible repeat (first | apply Kd.V_alloc | apply Kd.V_drewN | apply Kd.V_drew)); exact Kd.V_mono HO1_1.out (fun _ hk => ⟨hk.1.1.1.1, ⟨hk.1.1.1.2, ⟨hk.1.1.2, ⟨hk.1.2, hk.2⟩⟩⟩⟩)), (by (with_reducible repeat (first | apply Kd.V_alloc | apply Kd.V_drewN | apply Kd.V_drew)); exact Kd.V_mono HO387.out (fun _ hk => ⟨hk.1.1, ⟨hk.1.2.1, ⟨hk.1.2.2.1, ⟨hk.1.2.2.2, hk.2⟩⟩⟩⟩)), (by (with_reducible repeat (first | apply Kd.V_alloc | apply Kd.V_drewN | apply Kd.V_drew)); exact Kd.V_mono HO391.out (fun _ hk => ⟨hk.1.1, ⟨hk.1.2.1, ⟨hk.1.2.2.1, ⟨hk.1.2.2.2, hk.2⟩⟩⟩⟩)), (zV HO395.out), (zk BK380.out), (zk BK381.out), (zk BK382.out), (zk BK396.out), GW396.out, GE396.out, NB380_396.out, NB396_380.out, NB381_396.out, NB396_381.out, NB382_396.out, NB396_382.out, zb⟩)
        · skip
          refine box_step ?hg (N := 6) ?hd (cs := #[.bool false, .slice none 0 0]) (t := 64) ?hr ?_; (case hd => rfl); (case hg => rfl); (case hr => first | (go_simp; done) | (go_simp; rfl))
          intro gb396 hg w20 hbox hb
          have n0_ := Aside0.mk (Kd.V_below (Kd.V_elderB (zV HO0_1.out) gb396 (Nat.le_of_eq hg.symm)) hb)
          have n1_ := Aside0.mk (Kd.V_below (Kd.V_elderB (zV HO1_1.out) gb396 (Nat.le_of_eq hg.symm)) hb)
          have n2_ := Aside0.mk (Kd.V_below (Kd.V_elderB (zV HO387.out) gb396 (Nat.le_of_eq hg.symm)) hb)
          have n3_ := Aside0.mk (blk_below (g := gb380) (o := .cells #[.bool a0_0, .slice A0_1 l0_1.length c0_1] 27 (0, 0)) (zk BK380.out) hb)
          have n4_ := Aside0.mk (blk_below (g := gb381) (o := .cells #[.bool a1_0, .slice A1_1 l1_1.length c1_1] 27 (0, 0)) (zk BK381.out) hb)
          have n5_ := Aside0.mk (blk_below (g := gb382) (o := .cells #[.bool false, .slice none 0 0] 27 (0, 0)) (zk BK382.out) hb)
          have n6_ := Aside0.mk (below_step zb hb)
          have n7_ := Aside0.mk (hbox)
          have n8_ := Aside0.mk ((by rw [hg]; exact (below_size zb) : w.heap.size ≤ gb396))
          have n9_ := Aside0.mk ((by rw [hg]; exact (below_size zb) : w.heap.size ≤ gb396))
          have n10_ := Aside0.mk ((by rw [hg]; exact Nat.ne_of_lt (blk_lt (g := gb380) (o := .cells #[.bool a0_0, .slice A0_1 l0_1.length c0_1] 27 (0, 0)) (zk BK380.out)) : gb380 ≠ gb396))
          have n11_ := Aside0.mk ((by rw [hg]; exact Nat.ne_of_gt (blk_lt (g := gb380) (o := .cells #[.bool a0_0, .slice A0_1 l0_1.length c0_1] 27 (0, 0)) (zk BK380.out)) : gb396 ≠ gb380))
          have n12_ := Aside0.mk ((by rw [hg]; exact Nat.ne_of_lt (blk_lt (g := gb381) (o := .cells #[.bool a1_0, .slice A1_1 l1_1.length c1_1] 27 (0, 0)) (zk BK381.out)) : gb381 ≠ gb396))
          have n13_ := Aside0.mk ((by rw [hg]; exact Nat.ne_of_gt (blk_lt (g := gb381) (o := .cells #[.bool a1_0, .slice A1_1 l1_1.length c1_1] 27 (0, 0)) (zk BK381.out)) : gb396 ≠ gb381))
          have n14_ := Aside0.mk ((by rw [hg]; exact Nat.ne_of_lt (blk_lt (g := gb382) (o := .cells #[.bool false, .slice none 0 0] 27 (0, 0)) (zk BK382.out)) : gb382 ≠ gb396))
          have n15_ := Aside0.mk ((by rw [hg]; exact Nat.ne_of_gt (blk_lt (g := gb382) (o := .cells #[.bool false, .slice none 0 0] 27 (0, 0)) (zk BK382.out)) : gb396 ≠ gb382))
          clear HO0_1
          clear HO1_1
          clear HO387
          clear BK380
          clear BK381
          clear BK382
          clear HB
          have HO0_1 := n0_
          have HO1_1 := n1_
          have HO387 := n2_
          have BK380 := n3_
          have BK381 := n4_
          have BK382 := n5_
          have HB := n6_
          have BK396 := n7_
          have GW396 := n8_
          have GE396 := n9_
          have NB380_396 := n10_
          have NB396_380 := n11_
          have NB381_396 := n12_
          have NB396_381 := n13_
          have NB382_396 := n14_
          have NB396_382 := n15_
          clear n0_ n1_ n2_ n3_ n4_ n5_ n6_ n7_ n8_ n9_ n10_ n11_ n12_ n13_ n14_ n15_
          clear hb hbox hg
          refine hK.out _ _ ⟨(blk_cell BK380.out 0).trans rfl, (blk_cell BK380.out 1).trans rfl, (blk_cell BK381.out 0).trans rfl, (blk_cell BK381.out 1).trans rfl⟩ (fun hHeld => ?_)
          clear hK K
          refine norm_ (a' := ?_) ?_ ?_
          rotate_left
          · show Act.put _ (some 6) _ = _
            simp only [Act.put, List.setIfInBounds_toArray, List.set_cons_zero, List.set_cons_succ, i64_w, i32_w]
            rfl
          refine one_ (i := 3) (N := some 15) #[true, true, true, true, false, true, false] rfl rfl (by kernel_rfl) (by decide) (fun K hK => ?_)
          refine goes_ Try.func68 (by kernel_rfl) rfl #[.agg #[.bool a1_0, .slice A1_1 l1_1.length c1_1]] (by rfl) rfl rfl za ?_
          with_reducible refine (impl_Big_signed.calls a1_0 (fun k_ => ((((((P0_1_ k_ ∨ P1_1_ k_) ∨ w.heap.size ≤ k_) ∧ k_ ≠ gb380) ∧ k_ ≠ gb381) ∧ k_ ≠ gb382) ∧ k_ ≠ gb396)) _ _ l1_1 t388 t389 _ ?side1 A6.out).mono ?_
          (case side1 => exact HO1_1.out)
          rintro e w21 ⟨v390, rfl, ho0, hb⟩
          refine ⟨_, rfl, ?_⟩
          have n0_ := Aside0.mk (Kd.V_below (zV HO0_1.out) hb)
          have n1_ := Aside0.mk (Kd.V_below (zV HO1_1.out) hb)
          have n2_ := Aside0.mk (Kd.V_below (zV HO387.out) hb)
          have n3_ := Aside0.mk (Kd.V_lower (Kd.V_mono (ok' := fun k_ => ((P0_1_ k_ ∨ P1_1_ k_) ∨ w.heap.size ≤ k_) ∧ k_ ≠ gb380 ∧ k_ ≠ gb381 ∧ k_ ≠ gb382 ∧ k_ ≠ gb396) ho0 (fun k_ hk_ => ⟨Or.elim hk_ (fun hs_ => hs_.1.1.1.1) (fun hn_ => (.inr (Nat.le_trans (below_size zb) hn_))), Or.elim hk_ (fun hs_ => hs_.1.1.1.2) (fun hn_ => (Kd.freshB (g := gb380) (o := .cells #[.bool a0_0, .slice A0_1 l0_1.length c0_1] 27 (0, 0)) (zk BK380.out) k_ hn_)), Or.elim hk_ (fun hs_ => hs_.1.1.2) (fun hn_ => (Kd.freshB (g := gb381) (o := .cells #[.bool a1_0, .slice A1_1 l1_1.length c1_1] 27 (0, 0)) (zk BK381.out) k_ hn_)), Or.elim hk_ (fun hs_ => hs_.1.2) (fun hn_ => (Kd.freshB (g := gb382) (o := .cells #[.bool false, .slice none 0 0] 27 (0, 0)) (zk BK382.out) k_ hn_)), Or.elim hk_ (fun hs_ => hs_.2) (fun hn_ => (Kd.freshB (g := gb396) (o := .cells #[.bool false, .slice none 0 0] 64 (0, 0)) (zk BK396.out) k_ hn_))⟩)) (below_size zb))
          have n4_ := Aside0.mk (blk_below (g := gb380) (o := .cells #[.bool a0_0, .slice A0_1 l0_1.length c0_1] 27 (0, 0)) (zk BK380.out) hb)
          have n5_ := Aside0.mk (blk_below (g := gb381) (o := .cells #[.bool a1_0, .slice A1_1 l1_1.length c1_1] 27 (0, 0)) (zk BK381.out) hb)
          have n6_ := Aside0.mk (blk_below (g := gb382) (o := .cells #[.bool false, .slice none 0 0] 27 (0, 0)) (zk BK382.out) hb)
          have n7_ := Aside0.mk (blk_below (g := gb396) (o := .cells #[.bool false, .slice none 0 0] 64 (0, 0)) (zk BK396.out) hb)
          have n8_ := Aside0.mk (below_step zb hb)
          clear HO0_1
          clear HO1_1
          clear HO387
          clear BK380
          clear BK381
          clear BK382
          clear BK396
          clear HB
          have HO0_1 := n0_
          have HO1_1 := n1_
          have HO387 := n2_
          have HO391 := n3_
          have BK380 := n4_
          have BK381 := n5_
          have BK382 := n6_
          have BK396 := n7_
          have HB := n8_
          clear n0_ n1_ n2_ n3_ n4_ n5_ n6_ n7_ n8_
          (try clear hb)
          (try clear hb2)
          (try clear hk)
          (try clear hi)
          (try clear ho0)
          obtain ⟨Ao22, co22, eo22⟩ := Kd.V_slice HO387.out
          (first | subst eo22 | (injection eo22 with f1_ f2_ f3_; have f4_ := f1_.symm; have f5_ := f3_.symm; clear f1_ f2_ f3_; subst f4_; subst f5_))
          obtain ⟨Ao23, co23, eo23⟩ := Kd.V_slice HO391.out
          (first | subst eo23 | (injection eo23 with f1_ f2_ f3_; have f4_ := f1_.symm; have f5_ := f3_.symm; clear f1_ f2_ f3_; subst f4_; subst f5_))
          refine hK.out _ _ ⟨(blk_cell BK380.out 0).trans rfl, (blk_cell BK380.out 1).trans rfl, (blk_cell BK381.out 0).trans rfl, (blk_cell BK381.out 1).trans rfl⟩ (fun hHeld => ?_)
          clear hK K
          refine norm_ (a' := ?_) ?_ ?_
          rotate_left
          · show Act.put _ (some 15) _ = _
            simp only [Act.put, List.setIfInBounds_toArray, List.set_cons_zero, List.set_cons_succ, i64_w, i32_w]
            rfl
          refine one_ (i := 4) (N := some 16) #[true, true, true, true, true, true, false] rfl rfl (by kernel_rfl) (by decide) (fun K hK => ?_)
          refine goes_ Try.func69 (by kernel_rfl) rfl #[.agg #[.bool t384, .slice Ao22 t385.length co22], .agg #[.bool t388, .slice Ao23 t389.length co23]] (by rfl) rfl rfl za ?_
          with_reducible refine (impl_signed_add.calls k t384 _ _ t385 t388 _ _ t389 t392 t393 _ ?side1 ?side2 ?side3 ?side4 A7.out).mono ?_
          (case side1 => repeat (first | exact (Kd.V_reads' HO387.out).2.2 | (with_reducible refine Kd.C_alloc ?_ _) | (with_reducible refine Kd.C_drewN ?_ _) | (with_reducible refine Kd.C_drew ?_)))
          (case side2 => exact (Kd.V_reads' HO387.out).2.1)
          (case side3 => repeat (first | exact (Kd.V_reads' HO391.out).2.2 | (with_reducible refine Kd.C_alloc ?_ _) | (with_reducible refine Kd.C_drewN ?_ _) | (with_reducible refine Kd.C_drew ?_)))
          (case side4 => exact (Kd.V_reads' HO391.out).2.1)
          rintro e w24 ⟨v394, rfl, ho0, hb⟩
          refine ⟨_, rfl, ?_⟩
          have n0_ := Aside0.mk (Kd.V_below (zV HO0_1.out) hb)
          have n1_ := Aside0.mk (Kd.V_below (zV HO1_1.out) hb)
          have n2_ := Aside0.mk (Kd.V_below (zV HO387.out) hb)
          have n3_ := Aside0.mk (Kd.V_below (zV HO391.out) hb)
          have n4_ := Aside0.mk (Kd.V_lower (Kd.V_mono (ok' := fun k_ => ((P0_1_ k_ ∨ P1_1_ k_) ∨ w.heap.size ≤ k_) ∧ k_ ≠ gb380 ∧ k_ ≠ gb381 ∧ k_ ≠ gb382 ∧ k_ ≠ gb396) ho0 (fun k_ hk_ => ⟨(.inr (Nat.le_trans (below_size zb) hk_)), (Kd.freshB (g := gb380) (o := .cells #[.bool a0_0, .slice A0_1 l0_1.length c0_1] 27 (0, 0)) (zk BK380.out) k_ hk_), (Kd.freshB (g := gb381) (o := .cells #[.bool a1_0, .slice A1_1 l1_1.length c1_1] 27 (0, 0)) (zk BK381.out) k_ hk_), (Kd.freshB (g := gb382) (o := .cells #[.bool false, .slice none 0 0] 27 (0, 0)) (zk BK382.out) k_ hk_), (Kd.freshB (g := gb396) (o := .cells #[.bool false, .slice none 0 0] 64 (0, 0)) (zk BK396.out) k_ hk_)⟩)) (below_size zb))
          have n5_ := Aside0.mk (blk_below (g := gb380) (o := .cells #[.bool a0_0, .slice A0_1 l0_1.length c0_1] 27 (0, 0)) (zk BK380.out) hb)
          have n6_ := Aside0.mk (blk_below (g := gb381) (o := .cells #[.bool a1_0, .slice A1_1 l1_1.length c1_1] 27 (0, 0)) (zk BK381.out) hb)
          have n7_ := Aside0.mk (blk_below (g := gb382) (o := .cells #[.bool false, .slice none 0 0] 27 (0, 0)) (zk BK382.out) hb)
          have n8_ := Aside0.mk (blk_below (g := gb396) (o := .cells #[.bool false, .slice none 0 0] 64 (0, 0)) (zk BK396.out) hb)
          have n9_ := Aside0.mk (below_step zb hb)
          clear HO0_1
          clear HO1_1
          clear HO387
          clear HO391
          clear BK380
          clear BK381
          clear BK382
          clear BK396
          clear HB
          have HO0_1 := n0_
          have HO1_1 := n1_
          have HO387 := n2_
          have HO391 := n3_
          have HO395 := n4_
          have BK380 := n5_
          have BK381 := n6_
          have BK382 := n7_
          have BK396 := n8_
          have HB := n9_
          clear n0_ n1_ n2_ n3_ n4_ n5_ n6_ n7_ n8_ n9_
          (try clear hb)
          (try clear hb2)
          (try clear hk)
          (try clear hi)
          (try clear ho0)
          refine hK.out _ _ ⟨(blk_cell BK380.out 0).trans rfl, (blk_cell BK380.out 1).trans rfl, (blk_cell BK381.out 0).trans rfl, (blk_cell BK381.out 1).trans rfl⟩ (fun hHeld => ?_)
          clear hK K
          refine norm_ (a' := ?_) ?_ ?_
          rotate_left
          · show Act.put _ (some 16) _ = _
            simp only [Act.put, List.setIfInBounds_toArray, List.set_cons_zero, List.set_cons_succ, i64_w, i32_w]
            rfl
          exact norm_ (by simp only [putAll, Act.put, List.setIfInBounds_toArray, List.set_cons_zero, List.set_cons_succ]) (hCont (.slice Ao22 t385.length co22, .slice Ao23 t389.length co23, v394, gb396) _ ⟨hHeld, (by (with_reducible repeat (first | apply Kd.V_alloc | apply Kd.V_drewN | apply Kd.V_drew)); exact Kd.V_mono HO0_1.out (fun _ hk => ⟨hk.1.1.1.1, ⟨hk.1.1.1.2, ⟨hk.1.1.2, ⟨hk.1.2, hk.2⟩⟩⟩⟩)), (by (with_reducible repeat (first | apply Kd.V_alloc | apply Kd.V_drewN | apply Kd.V_drew)); exact Kd.V_mono HO1_1.out (fun _ hk => ⟨hk.1.1.1.1, ⟨hk.1.1.1.2, ⟨hk.1.1.2, ⟨hk.1.2, hk.2⟩⟩⟩⟩)), (by (with_reducible repeat (first | apply Kd.V_alloc | apply Kd.V_drewN | apply Kd.V_drew)); exact Kd.V_mono HO387.out (fun _ hk => ⟨hk.1.1, ⟨hk.1.2.1, ⟨hk.1.2.2.1, ⟨hk.1.2.2.2, hk.2⟩⟩⟩⟩)), (zV HO391.out), (zV HO395.out), (zk BK380.out), (zk BK381.out), (zk BK382.out), (zk BK396.out), GW396.out, GE396.out, NB380_396.out, NB396_380.out, NB381_396.out, NB396_381.out, NB382_396.out, NB396_382.out, zb⟩)
      · skip
        refine box_step ?hg (N := 6) ?hd (cs := #[.bool false, .slice none 0 0]) (t := 64) ?hr ?_; (case hd => rfl); (case hg => rfl); (case hr => first | (go_simp; done) | (go_simp; rfl))
        intro gb396 hg w19 hbox hb
        have n0_ := Aside0.mk (Kd.V_below (Kd.V_elderB (zV HO0_1.out) gb396 (Nat.le_of_eq hg.symm)) hb)
        have n1_ := Aside0.mk (Kd.V_below (Kd.V_elderB (zV HO1_1.out) gb396 (Nat.le_of_eq hg.symm)) hb)
        have n2_ := Aside0.mk (blk_below (g := gb380) (o := .cells #[.bool a0_0, .slice A0_1 l0_1.length c0_1] 27 (0, 0)) (zk BK380.out) hb)
        have n3_ := Aside0.mk (blk_below (g := gb381) (o := .cells #[.bool a1_0, .slice A1_1 l1_1.length c1_1] 27 (0, 0)) (zk BK381.out) hb)
        have n4_ := Aside0.mk (blk_below (g := gb382) (o := .cells #[.bool false, .slice none 0 0] 27 (0, 0)) (zk BK382.out) hb)
        have n5_ := Aside0.mk (below_step zb hb)
        have n6_ := Aside0.mk (hbox)
        have n7_ := Aside0.mk ((by rw [hg]; exact (below_size zb) : w.heap.size ≤ gb396))
        have n8_ := Aside0.mk ((by rw [hg]; exact (below_size zb) : w.heap.size ≤ gb396))
        have n9_ := Aside0.mk ((by rw [hg]; exact Nat.ne_of_lt (blk_lt (g := gb380) (o := .cells #[.bool a0_0, .slice A0_1 l0_1.length c0_1] 27 (0, 0)) (zk BK380.out)) : gb380 ≠ gb396))
        have n10_ := Aside0.mk ((by rw [hg]; exact Nat.ne_of_gt (blk_lt (g := gb380) (o := .cells #[.bool a0_0, .slice A0_1 l0_1.length c0_1] 27 (0, 0)) (zk BK380.out)) : gb396 ≠ gb380))
        have n11_ := Aside0.mk ((by rw [hg]; exact Nat.ne_of_lt (blk_lt (g := gb381) (o := .cells #[.bool a1_0, .slice A1_1 l1_1.length c1_1] 27 (0, 0)) (zk BK381.out)) : gb381 ≠ gb396))
        have n12_ := Aside0.mk ((by rw [hg]; exact Nat.ne_of_gt (blk_lt (g := gb381) (o := .cells #[.bool a1_0, .slice A1_1 l1_1.length c1_1] 27 (0, 0)) (zk BK381.out)) : gb396 ≠ gb381))
        have n13_ := Aside0.mk ((by rw [hg]; exact Nat.ne_of_lt (blk_lt (g := gb382) (o := .cells #[.bool false, .slice none 0 0] 27 (0, 0)) (zk BK382.out)) : gb382 ≠ gb396))
        have n14_ := Aside0.mk ((by rw [hg]; exact Nat.ne_of_gt (blk_lt (g := gb382) (o := .cells #[.bool false, .slice none 0 0] 27 (0, 0)) (zk BK382.out)) : gb396 ≠ gb382))
        clear HO0_1
        clear HO1_1
        clear BK380
        clear BK381
        clear BK382
        clear HB
        have HO0_1 := n0_
        have HO1_1 := n1_
        have BK380 := n2_
        have BK381 := n3_
        have BK382 := n4_
        have HB := n5_
        have BK396 := n6_
        have GW396 := n7_
        have GE396 := n8_
        have NB380_396 := n9_
        have NB396_380 := n10_
        have NB381_396 := n11_
        have NB396_381 := n12_
        have NB382_396 := n13_
        have NB396_382 := n14_
        clear n0_ n1_ n2_ n3_ n4_ n5_ n6_ n7_ n8_ n9_ n10_ n11_ n12_ n13_ n14_
        clear hb hbox hg
        refine hK.out _ _ ⟨(blk_cell BK380.out 0).trans rfl, (blk_cell BK380.out 1).trans rfl, (blk_cell BK381.out 0).trans rfl, (blk_cell BK381.out 1).trans rfl⟩ (fun hHeld => ?_)
        clear hK K
        refine norm_ (a' := ?_) ?_ ?_
        rotate_left
        · show Act.put _ (some 6) _ = _
          simp only [Act.put, List.setIfInBounds_toArray, List.set_cons_zero, List.set_cons_succ, i64_w, i32_w]
          rfl
        refine one_ (i := 1) (N := some 13) #[true, true, true, false, false, true, false] rfl rfl (by kernel_rfl) (by decide) (fun K hK => ?_)
        refine goes_ Try.func68 (by kernel_rfl) rfl #[.agg #[.bool a0_0, .slice A0_1 l0_1.length c0_1]] (by rfl) rfl rfl za ?_
        with_reducible refine (impl_Big_signed.calls a0_0 (fun k_ => ((((((P0_1_ k_ ∨ P1_1_ k_) ∨ w.heap.size ≤ k_) ∧ k_ ≠ gb380) ∧ k_ ≠ gb381) ∧ k_ ≠ gb382) ∧ k_ ≠ gb396)) _ _ l0_1 t384 t385 _ ?side1 A5.out).mono ?_
        (case side1 => exact HO0_1.out)
        rintro e w20 ⟨v386, rfl, ho0, hb⟩
        refine ⟨_, rfl, ?_⟩
        have n0_ := Aside0.mk (Kd.V_below (zV HO0_1.out) hb)
        have n1_ := Aside0.mk (Kd.V_below (zV HO1_1.out) hb)
        have n2_ := Aside0.mk (Kd.V_lower (Kd.V_mono (ok' := fun k_ => ((P0_1_ k_ ∨ P1_1_ k_) ∨ w.heap.size ≤ k_) ∧ k_ ≠ gb380 ∧ k_ ≠ gb381 ∧ k_ ≠ gb382 ∧ k_ ≠ gb396) ho0 (fun k_ hk_ => ⟨Or.elim hk_ (fun hs_ => hs_.1.1.1.1) (fun hn_ => (.inr (Nat.le_trans (below_size zb) hn_))), Or.elim hk_ (fun hs_ => hs_.1.1.1.2) (fun hn_ => (Kd.freshB (g := gb380) (o := .cells #[.bool a0_0, .slice A0_1 l0_1.length c0_1] 27 (0, 0)) (zk BK380.out) k_ hn_)), Or.elim hk_ (fun hs_ => hs_.1.1.2) (fun hn_ => (Kd.freshB (g := gb381) (o := .cells #[.bool a1_0, .slice A1_1 l1_1.length c1_1] 27 (0, 0)) (zk BK381.out) k_ hn_)), Or.elim hk_ (fun hs_ => hs_.1.2) (fun hn_ => (Kd.freshB (g := gb382) (o := .cells #[.bool false, .slice none 0 0] 27 (0, 0)) (zk BK382.out) k_ hn_)), Or.elim hk_ (fun hs_ => hs_.2) (fun hn_ => (Kd.freshB (g := gb396) (o := .cells #[.bool false, .slice none 0 0] 64 (0, 0)) (zk BK396.out) k_ hn_))⟩)) (below_size zb))
        have n3_ := Aside0.mk (blk_below (g := gb380) (o := .cells #[.bool a0_0, .slice A0_1 l0_1.length c0_1] 27 (0, 0)) (zk BK380.out) hb)
        have n4_ := Aside0.mk (blk_below (g := gb381) (o := .cells #[.bool a1_0, .slice A1_1 l1_1.length c1_1] 27 (0, 0)) (zk BK381.out) hb)
        have n5_ := Aside0.mk (blk_below (g := gb382) (o := .cells #[.bool false, .slice none 0 0] 27 (0, 0)) (zk BK382.out) hb)
        have n6_ := Aside0.mk (blk_below (g := gb396) (o := .cells #[.bool false, .slice none 0 0] 64 (0, 0)) (zk BK396.out) hb)
        have n7_ := Aside0.mk (below_step zb hb)
        clear HO0_1
        clear HO1_1
        clear BK380
        clear BK381
        clear BK382
        clear BK396
        clear HB
        have HO0_1 := n0_
        have HO1_1 := n1_
        have HO387 := n2_
        have BK380 := n3_
        have BK381 := n4_
        have BK382 := n5_
        have BK396 := n6_
        have HB := n7_
        clear n0_ n1_ n2_ n3_ n4_ n5_ n6_ n7_
        (try clear hb)
        (try clear hb2)
        (try clear hk)
        (try clear hi)
        (try clear ho0)
        refine hK.out _ _ ⟨(blk_cell BK380.out 0).trans rfl, (blk_cell BK380.out 1).trans rfl, (blk_cell BK381.out 0).trans rfl, (blk_cell BK381.out 1).trans rfl⟩ (fun hHeld => ?_)
        clear hK K
        refine norm_ (a' := ?_) ?_ ?_
        rotate_left
        · show Act.put _ (some 13) _ = _
          simp only [Act.put, List.setIfInBounds_toArray, List.set_cons_zero, List.set_cons_succ, i64_w, i32_w]
          rfl
        refine one_ (i := 3) (N := some 15) #[true, true, true, true, false, true, false] rfl rfl (by kernel_rfl) (by decide) (fun K hK => ?_)
        refine goes_ Try.func68 (by kernel_rfl) rfl #[.agg #[.bool a1_0, .slice A1_1 l1_1.length c1_1]] (by rfl) rfl rfl za ?_
        with_reducible refine (impl_Big_signed.calls a1_0 (fun k_ => ((((((P0_1_ k_ ∨ P1_1_ k_) ∨ w.heap.size ≤ k_) ∧ k_ ≠ gb380) ∧ k_ ≠ gb381) ∧ k_ ≠ gb382) ∧ k_ ≠ gb396)) _ _ l1_1 t388 t389 _ ?side1 A6.out).mono ?_
        (case side1 => exact HO1_1.out)
        rintro e w21 ⟨v390, rfl, ho0, hb⟩
        refine ⟨_, rfl, ?_⟩
        have n0_ := Aside0.mk (Kd.V_below (zV HO0_1.out) hb)
        have n1_ := Aside0.mk (Kd.V_below (zV HO1_1.out) hb)
        have n2_ := Aside0.mk (Kd.V_below (zV HO387.out) hb)
        have n3_ := Aside0.mk (Kd.V_lower (Kd.V_mono (ok' := fun k_ => ((P0_1_ k_ ∨ P1_1_ k_) ∨ w.heap.size ≤ k_) ∧ k_ ≠ gb380 ∧ k_ ≠ gb381 ∧ k_ ≠ gb382 ∧ k_ ≠ gb396) ho0 (fun k_ hk_ => ⟨Or.elim hk_ (fun hs_ => hs_.1.1.1.1) (fun hn_ => (.inr (Nat.le_trans (below_size zb) hn_))), Or.elim hk_ (fun hs_ => hs_.1.1.1.2) (fun hn_ => (Kd.freshB (g := gb380) (o := .cells #[.bool a0_0, .slice A0_1 l0_1.length c0_1] 27 (0, 0)) (zk BK380.out) k_ hn_)), Or.elim hk_ (fun hs_ => hs_.1.1.2) (fun hn_ => (Kd.freshB (g := gb381) (o := .cells #[.bool a1_0, .slice A1_1 l1_1.length c1_1] 27 (0, 0)) (zk BK381.out) k_ hn_)), Or.elim hk_ (fun hs_ => hs_.1.2) (fun hn_ => (Kd.freshB (g := gb382) (o := .cells #[.bool false, .slice none 0 0] 27 (0, 0)) (zk BK382.out) k_ hn_)), Or.elim hk_ (fun hs_ => hs_.2) (fun hn_ => (Kd.freshB (g := gb396) (o := .cells #[.bool false, .slice none 0 0] 64 (0, 0)) (zk BK396.out) k_ hn_))⟩)) (below_size zb))
        have n4_ := Aside0.mk (blk_below (g := gb380) (o := .cells #[.bool a0_0, .slice A0_1 l0_1.length c0_1] 27 (0, 0)) (zk BK380.out) hb)
        have n5_ := Aside0.mk (blk_below (g := gb381) (o := .cells #[.bool a1_0, .slice A1_1 l1_1.length c1_1] 27 (0, 0)) (zk BK381.out) hb)
        have n6_ := Aside0.mk (blk_below (g := gb382) (o := .cells #[.bool false, .slice none 0 0] 27 (0, 0)) (zk BK382.out) hb)
        have n7_ := Aside0.mk (blk_below (g := gb396) (o := .cells #[.bool false, .slice none 0 0] 64 (0, 0)) (zk BK396.out) hb)
        have n8_ := Aside0.mk (below_step zb hb)
        clear HO0_1
        clear HO1_1
        clear HO387
        clear BK380
        clear BK381
        clear BK382
        clear BK396
        clear HB
        have HO0_1 := n0_
        have HO1_1 := n1_
        have HO387 := n2_
        have HO391 := n3_
        have BK380 := n4_
        have BK381 := n5_
        have BK382 := n6_
        have BK396 := n7_
        have HB := n8_
        clear n0_ n1_ n2_ n3_ n4_ n5_ n6_ n7_ n8_
        (try clear hb)
        (try clear hb2)
        (try clear hk)
        (try clear hi)
        (try clear ho0)
        obtain ⟨Ao22, co22, eo22⟩ := Kd.V_slice HO387.out
        (first | subst eo22 | (injection eo22 with f1_ f2_ f3_; have f4_ := f1_.symm; have f5_ := f3_.symm; clear f1_ f2_ f3_; subst f4_; subst f5_))
        obtain ⟨Ao23, co23, eo23⟩ := Kd.V_slice HO391.out
        (first | subst eo23 | (injection eo23 with f1_ f2_ f3_; have f4_ := f1_.symm; have f5_ := f3_.symm; clear f1_ f2_ f3_; subst f4_; subst f5_))
        refine hK.out _ _ ⟨(blk_cell BK380.out 0).trans rfl, (blk_cell BK380.out 1).trans rfl, (blk_cell BK381.out 0).trans rfl, (blk_cell BK381.out 1).trans rfl⟩ (fun hHeld => ?_)
        clear hK K
        refine norm_ (a' := ?_) ?_ ?_
        rotate_left
        · show Act.put _ (some 15) _ = _
          simp only [Act.put, List.setIfInBounds_toArray, List.set_cons_zero, List.set_cons_succ, i64_w, i32_w]
          rfl
        refine one_ (i := 4) (N := some 16) #[true, true, true, true, true, true, false] rfl rfl (by kernel_rfl) (by decide) (fun K hK => ?_)
        refine goes_ Try.func69 (by kernel_rfl) rfl #[.agg #[.bool t384, .slice Ao22 t385.length co22], .agg #[.bool t388, .slice Ao23 t389.length co23]] (by rfl) rfl rfl za ?_
        with_reducible refine (impl_signed_add.calls k t384 _ _ t385 t388 _ _ t389 t392 t393 _ ?side1 ?side2 ?side3 ?side4 A7.out).mono ?_
        (case side1 => repeat (first | exact (Kd.V_reads' HO387.out).2.2 | (with_reducible refine Kd.C_alloc ?_ _) | (with_reducible refine Kd.C_drewN ?_ _) | (with_reducible refine Kd.C_drew ?_)))
        (case side2 => exact (Kd.V_reads' HO387.out).2.1)
        (case side3 => repeat (first | exact (Kd.V_reads' HO391.out).2.2 | (with_reducible refine Kd.C_alloc ?_ _) | (with_reducible refine Kd.C_drewN ?_ _) | (with_reducible refine Kd.C_drew ?_)))
        (case side4 => exact (Kd.V_reads' HO391.out).2.1)
        rintro e w24 ⟨v394, rfl, ho0, hb⟩
        refine ⟨_, rfl, ?_⟩
        have n0_ := Aside0.mk (Kd.V_below (zV HO0_1.out) hb)
        have n1_ := Aside0.mk (Kd.V_below (zV HO1_1.out) hb)
        have n2_ := Aside0.mk (Kd.V_below (zV HO387.out) hb)
        have n3_ := Aside0.mk (Kd.V_below (zV HO391.out) hb)
        have n4_ := Aside0.mk (Kd.V_lower (Kd.V_mono (ok' := fun k_ => ((P0_1_ k_ ∨ P1_1_ k_) ∨ w.heap.size ≤ k_) ∧ k_ ≠ gb380 ∧ k_ ≠ gb381 ∧ k_ ≠ gb382 ∧ k_ ≠ gb396) ho0 (fun k_ hk_ => ⟨(.inr (Nat.le_trans (below_size zb) hk_)), (Kd.freshB (g := gb380) (o := .cells #[.bool a0_0, .slice A0_1 l0_1.length c0_1] 27 (0, 0)) (zk BK380.out) k_ hk_), (Kd.freshB (g := gb381) (o := .cells #[.bool a1_0, .slice A1_1 l1_1.length c1_1] 27 (0, 0)) (zk BK381.out) k_ hk_), (Kd.freshB (g := gb382) (o := .cells #[.bool false, .slice none 0 0] 27 (0, 0)) (zk BK382.out) k_ hk_), (Kd.freshB (g := gb396) (o := .cells #[.bool false, .slice none 0 0] 64 (0, 0)) (zk BK396.out) k_ hk_)⟩)) (below_size zb))
        have n5_ := Aside0.mk (blk_below (g := gb380) (o := .cells #[.bool a0_0, .slice A0_1 l0_1.length c0_1] 27 (0, 0)) (zk BK380.out) hb)
        have n6_ := Aside0.mk (blk_below (g := gb381) (o := .cells #[.bool a1_0, .slice A1_1 l1_1.length c1_1] 27 (0, 0)) (zk BK381.out) hb)
        have n7_ := Aside0.mk (blk_below (g := gb382) (o := .cells #[.bool false, .slice none 0 0] 27 (0, 0)) (zk BK382.out) hb)
        have n8_ := Aside0.mk (blk_below (g := gb396) (o := .cells #[.bool false, .slice none 0 0] 64 (0, 0)) (zk BK396.out) hb)
        have n9_ := Aside0.mk (below_step zb hb)
        clear HO0_1
        clear HO1_1
        clear HO387
        clear HO391
        clear BK380
        clear BK381
        clear BK382
        clear BK396
        clear HB
        have HO0_1 := n0_
        have HO1_1 := n1_
        have HO387 := n2_
        have HO391 := n3_
        have HO395 := n4_
        have BK380 := n5_
        have BK381 := n6_
        have BK382 := n7_
        have BK396 := n8_
        have HB := n9_
        clear n0_ n1_ n2_ n3_ n4_ n5_ n6_ n7_ n8_ n9_
        (try clear hb)
        (try clear hb2)
        (try clear hk)
        (try clear hi)
        (try clear ho0)
        refine hK.out _ _ ⟨(blk_cell BK380.out 0).trans rfl, (blk_cell BK380.out 1).trans rfl, (blk_cell BK381.out 0).trans rfl, (blk_cell BK381.out 1).trans rfl⟩ (fun hHeld => ?_)
        clear hK K
        refine norm_ (a' := ?_) ?_ ?_
        rotate_left
        · show Act.put _ (some 16) _ = _
          simp only [Act.put, List.setIfInBounds_toArray, List.set_cons_zero, List.set_cons_succ, i64_w, i32_w]
          rfl
        exact norm_ (by simp only [putAll, Act.put, List.setIfInBounds_toArray, List.set_cons_zero, List.set_cons_succ]) (hCont (.slice Ao22 t385.length co22, .slice Ao23 t389.length co23, v394, gb396) _ ⟨hHeld, (by (with_reducible repeat (first | apply Kd.V_alloc | apply Kd.V_drewN | apply Kd.V_drew)); exact Kd.V_mono HO0_1.out (fun _ hk => ⟨hk.1.1.1.1, ⟨hk.1.1.1.2, ⟨hk.1.1.2, ⟨hk.1.2, hk.2⟩⟩⟩⟩)), (by (with_reducible repeat (first | apply Kd.V_alloc | apply Kd.V_drewN | apply Kd.V_drew)); exact Kd.V_mono HO1_1.out (fun _ hk => ⟨hk.1.1.1.1, ⟨hk.1.1.1.2, ⟨hk.1.1.2, ⟨hk.1.2, hk.2⟩⟩⟩⟩)), (zV HO387.out), (zV HO391.out), (zV HO395.out), (zk BK380.out), (zk BK381.out), (zk BK382.out), (zk BK396.out), GW396.out, GE396.out, NB380_396.out, NB396_380.out, NB381_396.out, NB396_381.out, NB382_396.out, NB396_382.out, zb⟩)
    rintro ⟨v386, v390, v394, gb396⟩ w25 ⟨hS_, h0_, h1_, h2_, h3_, h4_, h5_, h6_, h7_, h8_, h9_, h10_, h11_, h12_, h13_, h14_, h15_, h16_, h17_⟩
    have n0_ : Aside0 (Kd.V (Kd.int .i64) 3 w25 w.heap.size (fun k_ => ((P0_1_ k_ ∨ P1_1_ k_) ∨ w.heap.size ≤ k_) ∧ k_ ≠ gb380 ∧ k_ ≠ gb381 ∧ k_ ≠ gb382 ∧ k_ ≠ gb396) (.slice A0_1 l0_1.length c0_1) l0_1) := ⟨h0_⟩
    have n1_ : Aside0 (Kd.V (Kd.int .i64) 3 w25 w.heap.size (fun k_ => ((P0_1_ k_ ∨ P1_1_ k_) ∨ w.heap.size ≤ k_) ∧ k_ ≠ gb380 ∧ k_ ≠ gb381 ∧ k_ ≠ gb382 ∧ k_ ≠ gb396) (.slice A1_1 l1_1.length c1_1) l1_1) := ⟨h1_⟩
    have n2_ : Aside0 (Kd.V (Kd.int .i64) 3 w25 w.heap.size (fun k_ => ((P0_1_ k_ ∨ P1_1_ k_) ∨ w.heap.size ≤ k_) ∧ k_ ≠ gb380 ∧ k_ ≠ gb381 ∧ k_ ≠ gb382 ∧ k_ ≠ gb396) v386 t385) := ⟨h2_⟩
    have n3_ : Aside0 (Kd.V (Kd.int .i64) 3 w25 w.heap.size (fun k_ => ((P0_1_ k_ ∨ P1_1_ k_) ∨ w.heap.size ≤ k_) ∧ k_ ≠ gb380 ∧ k_ ≠ gb381 ∧ k_ ≠ gb382 ∧ k_ ≠ gb396) v390 t389) := ⟨h3_⟩
    have n4_ : Aside0 (Kd.V (Kd.int .i64) 3 w25 w.heap.size (fun k_ => ((P0_1_ k_ ∨ P1_1_ k_) ∨ w.heap.size ≤ k_) ∧ k_ ≠ gb380 ∧ k_ ≠ gb381 ∧ k_ ≠ gb382 ∧ k_ ≠ gb396) v394 t393) := ⟨h4_⟩
    have n5_ : Aside0 (w25.heap[gb380]? = some (.cells #[.bool a0_0, .slice A0_1 l0_1.length c0_1] 27 (0, 0))) := ⟨h5_⟩
    have n6_ : Aside0 (w25.heap[gb381]? = some (.cells #[.bool a1_0, .slice A1_1 l1_1.length c1_1] 27 (0, 0))) := ⟨h6_⟩
    have n7_ : Aside0 (w25.heap[gb382]? = some (.cells #[.bool false, .slice none 0 0] 27 (0, 0))) := ⟨h7_⟩
    have n8_ : Aside0 (w25.heap[gb396]? = some (.cells #[.bool false, .slice none 0 0] 64 (0, 0))) := ⟨h8_⟩
    have n9_ : Aside0 (w.heap.size ≤ gb396) := ⟨h9_⟩
    have n10_ : Aside0 (w.heap.size ≤ gb396) := ⟨h10_⟩
    have n11_ : Aside0 (gb380 ≠ gb396) := ⟨h11_⟩
    have n12_ : Aside0 (gb396 ≠ gb380) := ⟨h12_⟩
    have n13_ : Aside0 (gb381 ≠ gb396) := ⟨h13_⟩
    have n14_ : Aside0 (gb396 ≠ gb381) := ⟨h14_⟩
    have n15_ : Aside0 (gb382 ≠ gb396) := ⟨h15_⟩
    have n16_ : Aside0 (gb396 ≠ gb382) := ⟨h16_⟩
    have n17_ : Aside0 (Below w.heap.size w w25) := ⟨h17_⟩
    clear HO0_1
    clear HO1_1
    clear BK380
    clear BK381
    clear BK382
    clear HB
    clear h0_ h1_ h2_ h3_ h4_ h5_ h6_ h7_ h8_ h9_ h10_ h11_ h12_ h13_ h14_ h15_ h16_ h17_
    have HO0_1 := n0_
    have HO1_1 := n1_
    have HO387 := n2_
    have HO391 := n3_
    have HO395 := n4_
    have BK380 := n5_
    have BK381 := n6_
    have BK382 := n7_
    have BK396 := n8_
    have GW396 := n9_
    have GE396 := n10_
    have NB380_396 := n11_
    have NB396_380 := n12_
    have NB381_396 := n13_
    have NB396_381 := n14_
    have NB382_396 := n15_
    have NB396_382 := n16_
    have HB := n17_
    clear n0_ n1_ n2_ n3_ n4_ n5_ n6_ n7_ n8_ n9_ n10_ n11_ n12_ n13_ n14_ n15_ n16_ n17_
    have hHeld : w25.cell? ⟨gb380, 0, none⟩ = some (.bool a0_0) ∧ w25.cell? ⟨gb380, 1, none⟩ = some (.slice A0_1 l0_1.length c0_1) ∧ w25.cell? ⟨gb381, 0, none⟩ = some (.bool a1_0) ∧ w25.cell? ⟨gb381, 1, none⟩ = some (.slice A1_1 l1_1.length c1_1) := hS_
    obtain ⟨Ao27, co27, eo27⟩ := Kd.V_slice HO395.out
    (first | subst eo27 | (injection eo27 with f1_ f2_ f3_; have f4_ := f1_.symm; have f5_ := f3_.symm; clear f1_ f2_ f3_; subst f4_; subst f5_))
    refine norm_ (a' := ?_) ?_ ?_
    rotate_left
    · simp only [putAll, Act.put, List.setIfInBounds_toArray, List.set_cons_zero, List.set_cons_succ]
      rfl
    refine one_ (i := 6) (N := none) #[true, true, true, true, true, true, true] rfl rfl (by kernel_rfl) (by decide) (fun K hK => ?_)
    have hs26 : w25.cell? ⟨gb396, 0, none⟩ = some (.bool false) := (blk_cell BK396.out 0).trans rfl
    have hfs26 := blk_frozen BK396.out 0
    have hns26_0 := NB380_396.out
    have hns26_1 := NB381_396.out
    have hns26_2 := NB382_396.out
    have hms26_0 := NB396_380.out
    have hms26_1 := NB396_381.out
    have hms26_2 := NB396_382.out
    have hs28 : w25.cell? ⟨gb396, 1, none⟩ = some (.slice none 0 0) := (blk_cell BK396.out 1).trans rfl
    have hfs28 := blk_frozen BK396.out 1
    have hns28_0 := NB380_396.out
    have hns28_1 := NB381_396.out
    have hns28_2 := NB382_396.out
    have hms28_0 := NB396_380.out
    have hms28_1 := NB396_381.out
    have hms28_2 := NB396_382.out
    refine skip_ (w1 := ?_) (by rfl) rfl ?_ ?_
    rotate_left
    · go_simp
      rfl
    refine hK.out _ _ ⟨((cell_far (p := ⟨gb396, _, none⟩) NB380_396.out _).trans (((cell_far (p := ⟨gb396, _, none⟩) NB380_396.out _).trans (hHeld.1)))), ((cell_far (p := ⟨gb396, _, none⟩) NB380_396.out _).trans (((cell_far (p := ⟨gb396, _, none⟩) NB380_396.out _).trans (hHeld.2.1)))), ((cell_far (p := ⟨gb396, _, none⟩) NB381_396.out _).trans (((cell_far (p := ⟨gb396, _, none⟩) NB381_396.out _).trans (hHeld.2.2.1)))), ((cell_far (p := ⟨gb396, _, none⟩) NB381_396.out _).trans (((cell_far (p := ⟨gb396, _, none⟩) NB381_396.out _).trans (hHeld.2.2.2))))⟩ (fun hHeld => ?_)
    clear hK K
    refine done_ (by kernel_rfl) ?_
    have n0_ : Aside0 (Kd.V (Kd.int .i64) 3 ((w25.setCell ⟨gb396, 0, none⟩ (.bool t392)).setCell ⟨gb396, 1, none⟩ (.slice Ao27 t393.length co27)) w.heap.size (fun k_ => ((P0_1_ k_ ∨ P1_1_ k_) ∨ w.heap.size ≤ k_) ∧ k_ ≠ gb380 ∧ k_ ≠ gb381 ∧ k_ ≠ gb382 ∧ k_ ≠ gb396) (.slice A0_1 l0_1.length c0_1) l0_1) := ⟨by (with_reducible repeat (first | apply Kd.V_alloc | apply Kd.V_drewN | apply Kd.V_drew)); exact Kd.V_mono (Kd.V_far (p := ⟨gb396, 1, none⟩) (Kd.V_far (p := ⟨gb396, 0, none⟩) (Kd.V_mono HO0_1.out (fun k_ hk => (⟨hk, hk.2.2.2.2⟩ : _ ∧ k_ ≠ gb396))) (fun _ hk => hk.2) (.bool t392)) (fun _ hk => hk.2) (.slice Ao27 t393.length co27)) (fun _ hk => ⟨hk.1.1, ⟨hk.1.2.1, ⟨hk.1.2.2.1, ⟨hk.1.2.2.2.1, hk.1.2.2.2.2⟩⟩⟩⟩)⟩
    have n1_ : Aside0 (Kd.V (Kd.int .i64) 3 ((w25.setCell ⟨gb396, 0, none⟩ (.bool t392)).setCell ⟨gb396, 1, none⟩ (.slice Ao27 t393.length co27)) w.heap.size (fun k_ => ((P0_1_ k_ ∨ P1_1_ k_) ∨ w.heap.size ≤ k_) ∧ k_ ≠ gb380 ∧ k_ ≠ gb381 ∧ k_ ≠ gb382 ∧ k_ ≠ gb396) (.slice A1_1 l1_1.length c1_1) l1_1) := ⟨by (with_reducible repeat (first | apply Kd.V_alloc | apply Kd.V_drewN | apply Kd.V_drew)); exact Kd.V_mono (Kd.V_far (p := ⟨gb396, 1, none⟩) (Kd.V_far (p := ⟨gb396, 0, none⟩) (Kd.V_mono HO1_1.out (fun k_ hk => (⟨hk, hk.2.2.2.2⟩ : _ ∧ k_ ≠ gb396))) (fun _ hk => hk.2) (.bool t392)) (fun _ hk => hk.2) (.slice Ao27 t393.length co27)) (fun _ hk => ⟨hk.1.1, ⟨hk.1.2.1, ⟨hk.1.2.2.1, ⟨hk.1.2.2.2.1, hk.1.2.2.2.2⟩⟩⟩⟩)⟩
    have n2_ : Aside0 (Kd.V (Kd.int .i64) 3 ((w25.setCell ⟨gb396, 0, none⟩ (.bool t392)).setCell ⟨gb396, 1, none⟩ (.slice Ao27 t393.length co27)) w.heap.size (fun k_ => ((P0_1_ k_ ∨ P1_1_ k_) ∨ w.heap.size ≤ k_) ∧ k_ ≠ gb380 ∧ k_ ≠ gb381 ∧ k_ ≠ gb382 ∧ k_ ≠ gb396) v386 t385) := ⟨by (with_reducible repeat (first | apply Kd.V_alloc | apply Kd.V_drewN | apply Kd.V_drew)); exact Kd.V_mono (Kd.V_far (p := ⟨gb396, 1, none⟩) (Kd.V_far (p := ⟨gb396, 0, none⟩) (Kd.V_mono HO387.out (fun k_ hk => (⟨hk, hk.2.2.2.2⟩ : _ ∧ k_ ≠ gb396))) (fun _ hk => hk.2) (.bool t392)) (fun _ hk => hk.2) (.slice Ao27 t393.length co27)) (fun _ hk => ⟨hk.1.1, ⟨hk.1.2.1, ⟨hk.1.2.2.1, ⟨hk.1.2.2.2.1, hk.1.2.2.2.2⟩⟩⟩⟩)⟩
    have n3_ : Aside0 (Kd.V (Kd.int .i64) 3 ((w25.setCell ⟨gb396, 0, none⟩ (.bool t392)).setCell ⟨gb396, 1, none⟩ (.slice Ao27 t393.length co27)) w.heap.size (fun k_ => ((P0_1_ k_ ∨ P1_1_ k_) ∨ w.heap.size ≤ k_) ∧ k_ ≠ gb380 ∧ k_ ≠ gb381 ∧ k_ ≠ gb382 ∧ k_ ≠ gb396) v390 t389) := ⟨by (with_reducible repeat (first | apply Kd.V_alloc | apply Kd.V_drewN | apply Kd.V_drew)); exact Kd.V_mono (Kd.V_far (p := ⟨gb396, 1, none⟩) (Kd.V_far (p := ⟨gb396, 0, none⟩) (Kd.V_mono HO391.out (fun k_ hk => (⟨hk, hk.2.2.2.2⟩ : _ ∧ k_ ≠ gb396))) (fun _ hk => hk.2) (.bool t392)) (fun _ hk => hk.2) (.slice Ao27 t393.length co27)) (fun _ hk => ⟨hk.1.1, ⟨hk.1.2.1, ⟨hk.1.2.2.1, ⟨hk.1.2.2.2.1, hk.1.2.2.2.2⟩⟩⟩⟩)⟩
    have n4_ : Aside0 (Kd.V (Kd.int .i64) 3 ((w25.setCell ⟨gb396, 0, none⟩ (.bool t392)).setCell ⟨gb396, 1, none⟩ (.slice Ao27 t393.length co27)) w.heap.size (fun k_ => ((P0_1_ k_ ∨ P1_1_ k_) ∨ w.heap.size ≤ k_) ∧ k_ ≠ gb380 ∧ k_ ≠ gb381 ∧ k_ ≠ gb382 ∧ k_ ≠ gb396) (.slice Ao27 t393.length co27) t393) := ⟨by (with_reducible repeat (first | apply Kd.V_alloc | apply Kd.V_drewN | apply Kd.V_drew)); exact Kd.V_mono (Kd.V_far (p := ⟨gb396, 1, none⟩) (Kd.V_far (p := ⟨gb396, 0, none⟩) (Kd.V_mono HO395.out (fun k_ hk => (⟨hk, hk.2.2.2.2⟩ : _ ∧ k_ ≠ gb396))) (fun _ hk => hk.2) (.bool t392)) (fun _ hk => hk.2) (.slice Ao27 t393.length co27)) (fun _ hk => ⟨hk.1.1, ⟨hk.1.2.1, ⟨hk.1.2.2.1, ⟨hk.1.2.2.2.1, hk.1.2.2.2.2⟩⟩⟩⟩)⟩
    have n5_ : Aside0 (((w25.setCell ⟨gb396, 0, none⟩ (.bool t392)).setCell ⟨gb396, 1, none⟩ (.slice Ao27 t393.length co27)).heap[gb380]? = some (.cells #[.bool a0_0, .slice A0_1 l0_1.length c0_1] 27 (0, 0))) := ⟨by (with_reducible repeat (first | refine blk_drewN ?_ _ | refine blk_drew ?_ | refine blk_alloc ?_ _)); refine blk_far ?_ NB380_396.out _; (with_reducible repeat (first | refine blk_drewN ?_ _ | refine blk_drew ?_ | refine blk_alloc ?_ _)); refine blk_far ?_ NB380_396.out _; (with_reducible repeat (first | refine blk_drewN ?_ _ | refine blk_drew ?_ | refine blk_alloc ?_ _)); exact BK380.out⟩
    have n6_ : Aside0 (((w25.setCell ⟨gb396, 0, none⟩ (.bool t392)).setCell ⟨gb396, 1, none⟩ (.slice Ao27 t393.length co27)).heap[gb381]? = some (.cells #[.bool a1_0, .slice A1_1 l1_1.length c1_1] 27 (0, 0))) := ⟨by (with_reducible repeat (first | refine blk_drewN ?_ _ | refine blk_drew ?_ | refine blk_alloc ?_ _)); refine blk_far ?_ NB381_396.out _; (with_reducible repeat (first | refine blk_drewN ?_ _ | refine blk_drew ?_ | refine blk_alloc ?_ _)); refine blk_far ?_ NB381_396.out _; (with_reducible repeat (first | refine blk_drewN ?_ _ | refine blk_drew ?_ | refine blk_alloc ?_ _)); exact BK381.out⟩
    have n7_ : Aside0 (((w25.setCell ⟨gb396, 0, none⟩ (.bool t392)).setCell ⟨gb396, 1, none⟩ (.slice Ao27 t393.length co27)).heap[gb382]? = some (.cells #[.bool false, .slice none 0 0] 27 (0, 0))) := ⟨by (with_reducible repeat (first | refine blk_drewN ?_ _ | refine blk_drew ?_ | refine blk_alloc ?_ _)); refine blk_far ?_ NB382_396.out _; (with_reducible repeat (first | refine blk_drewN ?_ _ | refine blk_drew ?_ | refine blk_alloc ?_ _)); refine blk_far ?_ NB382_396.out _; (with_reducible repeat (first | refine blk_drewN ?_ _ | refine blk_drew ?_ | refine blk_alloc ?_ _)); exact BK382.out⟩
    have n8_ : Aside0 (((w25.setCell ⟨gb396, 0, none⟩ (.bool t392)).setCell ⟨gb396, 1, none⟩ (.slice Ao27 t393.length co27)).heap[gb396]? = some (.cells #[.bool t392, .slice Ao27 t393.length co27] 64 (0, 0))) := ⟨by (with_reducible repeat (first | refine blk_drewN ?_ _ | refine blk_drew ?_ | refine blk_alloc ?_ _)); refine blk_put (cs := #[.bool t392, .slice none 0 0]) ?_ 1 _ rfl; (with_reducible repeat (first | refine blk_drewN ?_ _ | refine blk_drew ?_ | refine blk_alloc ?_ _)); refine blk_put (cs := #[.bool false, .slice none 0 0]) ?_ 0 _ rfl; (with_reducible repeat (first | refine blk_drewN ?_ _ | refine blk_drew ?_ | refine blk_alloc ?_ _)); exact BK396.out⟩
    have n9_ : Aside0 (Below w.heap.size w ((w25.setCell ⟨gb396, 0, none⟩ (.bool t392)).setCell ⟨gb396, 1, none⟩ (.slice Ao27 t393.length co27))) := ⟨zb⟩
    (try clear HO0_1)
    (try clear HO1_1)
    (try clear HO387)
    (try clear HO391)
    (try clear HO395)
    (try clear BK380)
    (try clear BK381)
    (try clear BK382)
    (try clear BK396)
    (try clear HB)
    generalize ((w25.setCell ⟨gb396, 0, none⟩ (.bool t392)).setCell ⟨gb396, 1, none⟩ (.slice Ao27 t393.length co27)) = w29 at n0_ n1_ n2_ n3_ n4_ n5_ n6_ n7_ n8_ n9_ ⊢
    have HO0_1 := n0_
    have HO1_1 := n1_
    have HO387 := n2_
    have HO391 := n3_
    have HO395 := n4_
    have BK380 := n5_
    have BK381 := n6_
    have BK382 := n7_
    have BK396 := n8_
    have HB := n9_
    clear n0_ n1_ n2_ n3_ n4_ n5_ n6_ n7_ n8_ n9_
    have hnb30 := NB396_380.out
    have hnc30 := NB380_396.out
    have hnb31 := NB396_381.out
    have hnc31 := NB381_396.out
    have hnb32 := NB396_382.out
    have hnc32 := NB382_396.out
    have hcz33_0 : w29.cell? ⟨gb396, 0, none⟩ = some (.bool t392) := (blk_cell BK396.out 0).trans rfl
    have hcz33_1 : w29.cell? ⟨gb396, 1, none⟩ = some (.slice Ao27 t393.length co27) := (blk_cell BK396.out 1).trans rfl
    have hfz33_0 := blk_frozen BK396.out 0
    have hfz33_1 := blk_frozen BK396.out 1
    try go_wp2_with (first | ((with_reducible refine gate_callee (f := 55) rfl ?_); refine goesL_ (some 21) rfl rfl Try.func55 (by kernel_rfl) rfl #[.bool t392, .slice Ao27 t393.length co27] rfl za ?_; (with_reducible refine (impl_big.calls k t392 (fun k_ => (((P0_1_ k_ ∨ P1_1_ k_) ∨ w.heap.size ≤ k_) ∧ (k_ ≠ gb380 ∧ (k_ ≠ gb381 ∧ (k_ ≠ gb382 ∧ k_ ≠ gb396))))) _ _ t393 t397 t398 t401 _ ?side1 A8.out).mono ?_); (case side1 => exact HO395.out); rintro e w34 ⟨v399, rfl, ho0, hb⟩; refine ⟨_, rfl, ?_⟩; have n0_ := Aside0.mk (Kd.V_below (zV HO0_1.out) hb); have n1_ := Aside0.mk (Kd.V_below (zV HO1_1.out) hb); have n2_ := Aside0.mk (Kd.V_below (zV HO387.out) hb); have n3_ := Aside0.mk (Kd.V_below (zV HO391.out) hb); have n4_ := Aside0.mk (Kd.V_below (zV HO395.out) hb); have n5_ := Aside0.mk (Kd.V_lower (Kd.V_mono (ok' := fun k_ => ((P0_1_ k_ ∨ P1_1_ k_) ∨ w.heap.size ≤ k_) ∧ k_ ≠ gb380 ∧ k_ ≠ gb381 ∧ k_ ≠ gb382 ∧ k_ ≠ gb396) ho0 (fun k_ hk_ => ⟨Or.elim hk_ (fun hs_ => hs_.1) (fun hn_ => (.inr (Nat.le_trans (below_size zb) hn_))), Or.elim hk_ (fun hs_ => hs_.2.1) (fun hn_ => (Kd.freshB (g := gb380) (o := .cells #[.bool a0_0, .slice A0_1 l0_1.length c0_1] 27 (0, 0)) (zk BK380.out) k_ hn_)), Or.elim hk_ (fun hs_ => hs_.2.2.1) (fun hn_ => (Kd.freshB (g := gb381) (o := .cells #[.bool a1_0, .slice A1_1 l1_1.length c1_1] 27 (0, 0)) (zk BK381.out) k_ hn_)), Or.elim hk_ (fun hs_ => hs_.2.2.2.1) (fun hn_ => (Kd.freshB (g := gb382) (o := .cells #[.bool false, .slice none 0 0] 27 (0, 0)) (zk BK382.out) k_ hn_)), Or.elim hk_ (fun hs_ => hs_.2.2.2.2) (fun hn_ => (Kd.freshB (g := gb396) (o := .cells #[.bool t392, .slice Ao27 t393.length co27] 64 (0, 0)) (zk BK396.out) k_ hn_))⟩)) (below_size zb)); have n6_ := Aside0.mk (blk_below (g := gb380) (o := .cells #[.bool a0_0, .slice A0_1 l0_1.length c0_1] 27 (0, 0)) (zk BK380.out) hb); have n7_ := Aside0.mk (blk_below (g := gb381) (o := .cells #[.bool a1_0, .slice A1_1 l1_1.length c1_1] 27 (0, 0)) (zk BK381.out) hb); have n8_ := Aside0.mk (blk_below (g := gb382) (o := .cells #[.bool false, .slice none 0 0] 27 (0, 0)) (zk BK382.out) hb); have n9_ := Aside0.mk (blk_below (g := gb396) (o := .cells #[.bool t392, .slice Ao27 t393.length co27] 64 (0, 0)) (zk BK396.out) hb); have n10_ := Aside0.mk (below_step zb hb); clear HO0_1; clear HO1_1; clear HO387; clear HO391; clear HO395; clear BK380; clear BK381; clear BK382; clear BK396; clear HB; have HO0_1 := n0_; have HO1_1 := n1_; have HO387 := n2_; have HO391 := n3_; have HO395 := n4_; have HO400 := n5_; have BK380 := n6_; have BK381 := n7_; have BK382 := n8_; have BK396 := n9_; have HB := n10_; clear n0_ n1_ n2_ n3_ n4_ n5_ n6_ n7_ n8_ n9_ n10_; (try clear hb); (try clear hb2); (try clear hk); (try clear hi); (try clear ho0); have hcz35_0 : w34.cell? ⟨gb382, 0, none⟩ = some (.bool false) := (blk_cell BK382.out 0).trans rfl; have hcz35_1 : w34.cell? ⟨gb382, 1, none⟩ = some (.slice none 0 0) := (blk_cell BK382.out 1).trans rfl; have hfz35_0 := blk_frozen BK382.out 0; have hfz35_1 := blk_frozen BK382.out 1; obtain ⟨Ao36, co36, eo36⟩ := Kd.V_slice HO400.out; subst eo36))
    refine bodyPost_ret (results_ct rfl _ _ gb382 27 #[.bool t397, .slice Ao36 t398.length co36] (0, 0) _ rfl (by (with_reducible repeat (first | refine blk_drewN ?_ _ | refine blk_drew ?_ | refine blk_alloc ?_ _)); refine blk_put (cs := #[.bool t397, .slice none 0 0]) ?_ 1 _ rfl; (with_reducible repeat (first | refine blk_drewN ?_ _ | refine blk_drew ?_ | refine blk_alloc ?_ _)); refine blk_put (cs := #[.bool false, .slice none 0 0]) ?_ 0 _ rfl; (with_reducible repeat (first | refine blk_drewN ?_ _ | refine blk_drew ?_ | refine blk_alloc ?_ _)); exact BK382.out) Try.underlying27 rfl (by kernel_rfl)) rfl ?_
    exact ⟨_, by first | rfl | (simp [errW_none, errW_some] <;> rfl) | (simp [*, errW_none, errW_some] <;> rfl), by (with_reducible repeat (first | apply Kd.V_alloc | apply Kd.V_drewN | apply Kd.V_drew)); exact Kd.V_mono (Kd.V_far (p := ⟨gb382, 1, none⟩) (Kd.V_far (p := ⟨gb382, 0, none⟩) (Kd.V_mono HO400.out (fun k_ hk => (⟨hk, hk.2.2.2.1⟩ : _ ∧ k_ ≠ gb382))) (fun _ hk => hk.2) (.bool t397)) (fun _ hk => hk.2) (.slice Ao36 t398.length co36)) (fun _ hk => hk.1.1), zb⟩
  · replace c4 := Bool.eq_false_iff.mpr c4
    subst c4
    have H1 : (some (false, ([] : List Int), false)) = some (r1, r2, r3) := by rw [if_neg (show ¬ (false = true) by decide)] at H; exact H
    clear H
    have H := H1
    clear H1
    simp only [Option.some.injEq, Prod.mk.injEq] at H
    obtain ⟨rfl, rfl, rfl⟩ := H
    go_enter Try.func32, Try.ntmps32
    go_wp2_with (first | ((with_reducible refine gate_dst (N := 2) rfl ?_); refine box_event ?hg (N := 2) ?hd (cs := #[.bool a0_0, .slice A0_1 l0_1.length c0_1]) (t := 27) ?hr ?_; (case hd => rfl); (case hg => rfl); (case hr => first | (go_simp; done) | (go_simp; rfl)); intro gb380 hg w37 hbox hb; have n0_ := Aside0.mk (Kd.V_below (Kd.V_elderB (zV HO0_1.out) gb380 (Nat.le_of_eq hg.symm)) hb); have n1_ := Aside0.mk (Kd.V_below (Kd.V_elderB (zV HO1_1.out) gb380 (Nat.le_of_eq hg.symm)) hb); have n2_ := Aside0.mk (below_step zb hb); have n3_ := Aside0.mk (hbox); have n4_ := Aside0.mk ((by rw [hg]; exact (below_size zb) : w.heap.size ≤ gb380)); have n5_ := Aside0.mk ((by rw [hg]; exact (below_size zb) : w.heap.size ≤ gb380)); clear HO0_1; clear HO1_1; clear HB; have HO0_1 := n0_; have HO1_1 := n1_; have HB := n2_; have BK380 := n3_; have GW380 := n4_; have GE380 := n5_; clear n0_ n1_ n2_ n3_ n4_ n5_; clear hb hbox hg) | ((with_reducible refine gate_dst (N := 3) rfl ?_); refine box_event ?hg (N := 3) ?hd (cs := #[.bool a1_0, .slice A1_1 l1_1.length c1_1]) (t := 27) ?hr ?_; (case hd => rfl); (case hg => rfl); (case hr => first | (go_simp; done) | (go_simp; rfl)); intro gb381 hg w38 hbox hb; have n0_ := Aside0.mk (Kd.V_below (Kd.V_elderB (zV HO0_1.out) gb381 (Nat.le_of_eq hg.symm)) hb); have n1_ := Aside0.mk (Kd.V_below (Kd.V_elderB (zV HO1_1.out) gb381 (Nat.le_of_eq hg.symm)) hb); have n2_ := Aside0.mk (blk_below (g := gb380) (o := .cells #[.bool a0_0, .slice A0_1 l0_1.length c0_1] 27 (0, 0)) (zk BK380.out) hb); have n3_ := Aside0.mk (below_step zb hb); have n4_ := Aside0.mk (hbox); have n5_ := Aside0.mk ((by rw [hg]; exact (below_size zb) : w.heap.size ≤ gb381)); have n6_ := Aside0.mk ((by rw [hg]; exact (below_size zb) : w.heap.size ≤ gb381)); have n7_ := Aside0.mk ((by rw [hg]; exact Nat.ne_of_lt (blk_lt (g := gb380) (o := .cells #[.bool a0_0, .slice A0_1 l0_1.length c0_1] 27 (0, 0)) (zk BK380.out)) : gb380 ≠ gb381)); have n8_ := Aside0.mk ((by rw [hg]; exact Nat.ne_of_gt (blk_lt (g := gb380) (o := .cells #[.bool a0_0, .slice A0_1 l0_1.length c0_1] 27 (0, 0)) (zk BK380.out)) : gb381 ≠ gb380)); clear HO0_1; clear HO1_1; clear BK380; clear HB; have HO0_1 := n0_; have HO1_1 := n1_; have BK380 := n2_; have HB := n3_; have BK381 := n4_; have GW381 := n5_; have GE381 := n6_; have NB380_381 := n7_; have NB381_380 := n8_; clear n0_ n1_ n2_ n3_ n4_ n5_ n6_ n7_ n8_; clear hb hbox hg) | ((with_reducible refine gate_dst (N := 4) rfl ?_); refine box_event ?hg (N := 4) ?hd (cs := #[.bool false, .slice none 0 0]) (t := 27) ?hr ?_; (case hd => rfl); (case hg => rfl); (case hr => first | (go_simp; done) | (go_simp; rfl)); intro gb382 hg w39 hbox hb; have n0_ := Aside0.mk (Kd.V_below (Kd.V_elderB (zV HO0_1.out) gb382 (Nat.le_of_eq hg.symm)) hb); have n1_ := Aside0.mk (Kd.V_below (Kd.V_elderB (zV HO1_1.out) gb382 (Nat.le_of_eq hg.symm)) hb); have n2_ := Aside0.mk (blk_below (g := gb380) (o := .cells #[.bool a0_0, .slice A0_1 l0_1.length c0_1] 27 (0, 0)) (zk BK380.out) hb); have n3_ := Aside0.mk (blk_below (g := gb381) (o := .cells #[.bool a1_0, .slice A1_1 l1_1.length c1_1] 27 (0, 0)) (zk BK381.out) hb); have n4_ := Aside0.mk (below_step zb hb); have n5_ := Aside0.mk (hbox); have n6_ := Aside0.mk ((by rw [hg]; exact (below_size zb) : w.heap.size ≤ gb382)); have n7_ := Aside0.mk ((by rw [hg]; exact (below_size zb) : w.heap.size ≤ gb382)); have n8_ := Aside0.mk ((by rw [hg]; exact Nat.ne_of_lt (blk_lt (g := gb380) (o := .cells #[.bool a0_0, .slice A0_1 l0_1.length c0_1] 27 (0, 0)) (zk BK380.out)) : gb380 ≠ gb382)); have n9_ := Aside0.mk ((by rw [hg]; exact Nat.ne_of_gt (blk_lt (g := gb380) (o := .cells #[.bool a0_0, .slice A0_1 l0_1.length c0_1] 27 (0, 0)) (zk BK380.out)) : gb382 ≠ gb380)); have n10_ := Aside0.mk ((by rw [hg]; exact Nat.ne_of_lt (blk_lt (g := gb381) (o := .cells #[.bool a1_0, .slice A1_1 l1_1.length c1_1] 27 (0, 0)) (zk BK381.out)) : gb381 ≠ gb382)); have n11_ := Aside0.mk ((by rw [hg]; exact Nat.ne_of_gt (blk_lt (g := gb381) (o := .cells #[.bool a1_0, .slice A1_1 l1_1.length c1_1] 27 (0, 0)) (zk BK381.out)) : gb382 ≠ gb381)); clear HO0_1; clear HO1_1; clear BK380; clear BK381; clear HB; have HO0_1 := n0_; have HO1_1 := n1_; have BK380 := n2_; have BK381 := n3_; have HB := n4_; have BK382 := n5_; have GW382 := n6_; have GE382 := n7_; have NB380_382 := n8_; have NB382_380 := n9_; have NB381_382 := n10_; have NB382_381 := n11_; clear n0_ n1_ n2_ n3_ n4_ n5_ n6_ n7_ n8_ n9_ n10_ n11_; clear hb hbox hg; have hnb40 := NB380_381.out; have hnc40 := NB381_380.out; have hnb41 := NB380_382.out; have hnc41 := NB382_380.out; have hcz42_0 : w39.cell? ⟨gb380, 0, none⟩ = some (.bool a0_0) := (blk_cell BK380.out 0).trans rfl; have hcz42_1 : w39.cell? ⟨gb380, 1, none⟩ = some (.slice A0_1 l0_1.length c0_1) := (blk_cell BK380.out 1).trans rfl; have hfz42_0 := blk_frozen BK380.out 0; have hfz42_1 := blk_frozen BK380.out 1; have hnb43 := NB381_382.out; have hnc43 := NB382_381.out; have hcz44_0 : w39.cell? ⟨gb381, 0, none⟩ = some (.bool a1_0) := (blk_cell BK381.out 0).trans rfl; have hcz44_1 : w39.cell? ⟨gb381, 1, none⟩ = some (.slice A1_1 l1_1.length c1_1) := (blk_cell BK381.out 1).trans rfl; have hfz44_0 := blk_frozen BK381.out 0; have hfz44_1 := blk_frozen BK381.out 1) | ((with_reducible refine gate_callee (f := 67) rfl ?_); refine goesL_ (some 9) rfl rfl Try.func67 (by kernel_rfl) rfl #[.agg #[.bool a0_0, .slice A0_1 l0_1.length c0_1], .agg #[.bool a1_0, .slice A1_1 l1_1.length c1_1]] rfl za ?_; (with_reducible refine (impl_bigs.calls a0_0 _ _ l0_1 a1_0 _ _ l1_1 false _ ?side1 ?side2 ?side3 ?side4 A3.out).mono ?_); (case side1 => repeat (first | exact (Kd.V_reads' HO0_1.out).2.2 | (with_reducible refine Kd.C_alloc ?_ _) | (with_reducible refine Kd.C_drewN ?_ _) | (with_reducible refine Kd.C_drew ?_))); (case side2 => exact (Kd.V_reads' HO0_1.out).2.1); (case side3 => repeat (first | exact (Kd.V_reads' HO1_1.out).2.2 | (with_reducible refine Kd.C_alloc ?_ _) | (with_reducible refine Kd.C_drewN ?_ _) | (with_reducible refine Kd.C_drew ?_))); (case side4 => exact (Kd.V_reads' HO1_1.out).2.1); rintro e w45 ⟨rfl, hb⟩; refine ⟨_, rfl, ?_⟩; have n0_ := Aside0.mk (Kd.V_below (zV HO0_1.out) hb); have n1_ := Aside0.mk (Kd.V_below (zV HO1_1.out) hb); have n2_ := Aside0.mk (blk_below (g := gb380) (o := .cells #[.bool a0_0, .slice A0_1 l0_1.length c0_1] 27 (0, 0)) (zk BK380.out) hb); have n3_ := Aside0.mk (blk_below (g := gb381) (o := .cells #[.bool a1_0, .slice A1_1 l1_1.length c1_1] 27 (0, 0)) (zk BK381.out) hb); have n4_ := Aside0.mk (blk_below (g := gb382) (o := .cells #[.bool false, .slice none 0 0] 27 (0, 0)) (zk BK382.out) hb); have n5_ := Aside0.mk (below_step zb hb); clear HO0_1; clear HO1_1; clear BK380; clear BK381; clear BK382; clear HB; have HO0_1 := n0_; have HO1_1 := n1_; have BK380 := n2_; have BK381 := n3_; have BK382 := n4_; have HB := n5_; clear n0_ n1_ n2_ n3_ n4_ n5_; (try clear hb); (try clear hb2); (try clear hk); (try clear hi); have hcz46_0 : w45.cell? ⟨gb382, 0, none⟩ = some (.bool false) := (blk_cell BK382.out 0).trans rfl; have hcz46_1 : w45.cell? ⟨gb382, 1, none⟩ = some (.slice none 0 0) := (blk_cell BK382.out 1).trans rfl; have hfz46_0 := blk_frozen BK382.out 0; have hfz46_1 := blk_frozen BK382.out 1))
    refine bodyPost_ret (results_ct rfl _ _ gb382 27 #[.bool false, .slice none 0 0] (0, 0) _ rfl (by (with_reducible repeat (first | refine blk_drewN ?_ _ | refine blk_drew ?_ | refine blk_alloc ?_ _)); refine blk_put (cs := #[.bool false, .slice none 0 0]) ?_ 1 _ rfl; (with_reducible repeat (first | refine blk_drewN ?_ _ | refine blk_drew ?_ | refine blk_alloc ?_ _)); refine blk_put (cs := #[.bool false, .slice none 0 0]) ?_ 0 _ rfl; (with_reducible repeat (first | refine blk_drewN ?_ _ | refine blk_drew ?_ | refine blk_alloc ?_ _)); exact BK382.out) Try.underlying27 rfl (by kernel_rfl)) rfl ?_
    exact ⟨_, by first | rfl | (simp [errW_none, errW_some] <;> rfl) | (simp [*, errW_none, errW_some] <;> rfl), Kd.V_nil _ _ _ _ _, zb⟩
def impl_signed_minus.f (a0_0 : Bool) (l0_1 : List Int) : Option (Bool × List Int) := some (!a0_0, l0_1)
def impl_signed_sign.f (a0_0 : Bool) (l0_1 : List Int) : Option (Int) := if (l0_1.length : Int) = 0 then (some 0) else (if a0_0 = true then (some (-1)) else (some 1))
def impl_BigCmp.f (k : Nat) (a0_0 : Bool) (l0_1 : List Int) (a1_0 : Bool) (l1_1 : List Int) : Option (Int) := (impl_bigs.f a0_0 l0_1 a1_0 l1_1).bind fun t499 => (if t499 = true then ((impl_Big_signed.f a0_0 l0_1).bind fun bt500 => ((impl_Big_signed.f a1_0 l1_1).bind fun bt504 => ((impl_signed_minus.f bt504.1 bt504.2).bind fun bt508 => ((impl_signed_add.f k bt500.1 bt500.2 bt508.1 bt508.2).bind fun bt512 => ((impl_signed_sign.f bt512.1 bt512.2).bind fun t516 => (some t516)))))) else (some 2))
end Go.Proofs.Ytdemeoncjcbojaa.Pr
end
