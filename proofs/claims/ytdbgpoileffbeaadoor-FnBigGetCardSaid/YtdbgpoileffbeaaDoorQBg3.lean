/- What the claim's row needs of the contracts and words below it, and no more. -/
import Derived.Test.YtdbgpoileffbeaaDoorQBg2
import Derived.Lib.AtoiAllMem
import Derived.Lib.IndexLaws
import Derived.Lib.AtoiAllCases
import Derived.Test.YtdbgpoileffbeaaDoorRows
import Derived.Stop.LaidErr
import Derived.Lib.LaidTab
import Derived.Shelf.Vars
import Derived.SizedLaws
import Derived.KernelRfl
section
namespace Go.Proofs.YtdbgpoileffbeaaDoor.Pr
open Go.RowKit Go.Proofs.YtdbgpoileffbeaaDoorW.PrintWords Go.Proofs.YtdbgpoileffbeaaDoorW.PrintLast Go.Proofs.YtdbgpoileffbeaaDoor.Ext Go.Proofs.YtdbgpoileffbeaaDoorW.PrintMore
attribute [local go_sem] max2_int min2_int max_two min_two max_three min_three max_four min_four
set_option linter.unusedVariables false
set_option linter.unusedSimpArgs false
mutual
def spec_l14Big.j0 : Nat → Int → List Int → Int → Option (Bool × List Int × Int)
  | 0, _, _, _ => none
  | k + 1, x5, x1000, x1001 => (spec_l14Figs.f k x1000 x1001 x5).bind fun bt321 => ((spec_l1Rd_pick.f k x1000 bt321.2 6).bind fun bt323 => (if bt323.1 = 0 then ((spec_l1Many.f k (⟨#[48]⟩ : ByteArray) (wrap64 (x5 - 1))).bind fun t325 => (if 1 + t325.size ≤ 9223372036854775807 then (spec_l14Big.j1 k x5 ((⟨#[49]⟩ : ByteArray) ++ t325) x1000 bt323.2) else (none))) else (spec_l14Big.j1 k x5 bt321.1 x1000 bt323.2)))
def spec_l14Big.j1 : Nat → Int → ByteArray → List Int → Int → Option (Bool × List Int × Int)
  | 0, _, _, _, _ => none
  | k + 1, x5, x6, x1000, x1001 => (spec_l1Rd_pick.f k x1000 x1001 6).bind fun bt326 => (if bt326.1 = 0 then ((spec_l1Many.f k (⟨#[57]⟩ : ByteArray) x5).bind fun t328 => ((spec_l1Rd_pick.f k x1000 bt326.2 3).bind fun bt329 => ((spec_l1FromFigures.f k t328).bind fun t331 => ((spec_l1Big.f k (bt329.1 == 0) t331).bind fun bt334 => (some (bt334.1, bt334.2.1, bt329.2)))))) else ((spec_l1Rd_pick.f k x1000 bt326.2 3).bind fun bt340 => ((spec_l1FromFigures.f k x6).bind fun t342 => ((spec_l1Big.f k (bt340.1 == 0) t342).bind fun bt345 => (some (bt345.1, bt345.2.1, bt340.2))))))
end
def spec_l14Big.f (k : Nat) (s0_0 : List Int) (s0_1 : Int) (a1 : Int) : Option (Bool × List Int × Int) := (spec_l1Rd_pick.f k s0_0 s0_1 64).bind fun bt312 => ((spec_l1Rd_one.f k s0_0 bt312.2 (([0, 1, 1, 2, 3, 4, 5, 8, 9, 12, 17, 29, 30, 31, 33, 63, 64, wrap64 (1 + bt312.1)] : List Int))).bind fun bt317 => (if bt317.1 > a1 then ((spec_l1Rd_pick.f k s0_0 bt317.2 a1).bind fun bt319 => (spec_l14Big.j0 k (wrap64 (1 + bt319.1)) s0_0 bt319.2)) else (spec_l14Big.j0 k bt317.1 s0_0 bt317.2)))
set_option maxHeartbeats 8000000 in
set_option maxRecDepth 100000 in
theorem spec_l14Big.calls (k : Nat) (g : Nat) (s0_0 : List Int) (s0_1 : Int) (a1 : Int) (r1 : Bool) (r2 : List Int) (r3 : Int) (w0 w : World) (hI : IsS102 w0 w g s0_0 s0_1) (hB : Below w0.heap.size w0 w) (h : spec_l14Big.f k s0_0 s0_1 a1 = some (r1, r2, r3)) :
    Calls Tryd.prog 57 #[.pointer (some ⟨g, 0, none⟩), .int .i64 a1] w fun e w' => ∃ v1_ : Value, e = .returned (.agg #[.bool r1, v1_]) ∧ Kd.R (Kd.int .i64) 3 w' w.heap.size (fun _ => True) v1_ r2 ∧ IsS102 w0 w' g s0_0 r3 ∧ Below w0.heap.size w0 w' ∧ KeepBut w w' g none := by
  have hu27 := Tryd.underlying27
  have HI0 := Aside0.mk hI
  have HK := Aside0.mk (KeepBut.refl w g none)
  have HL := Aside0.mk hB.size
  clear hI
  have HW0 := Aside0.mk hB.size
  have HB := Aside0.mk hB
  clear hB
  have H : ((spec_l1Rd_pick.f k s0_0 s0_1 64).bind fun bt312 => ((spec_l1Rd_one.f k s0_0 bt312.2 (([0, 1, 1, 2, 3, 4, 5, 8, 9, 12, 17, 29, 30, 31, 33, 63, 64, wrap64 (1 + bt312.1)] : List Int))).bind fun bt317 => (if bt317.1 > a1 then ((spec_l1Rd_pick.f k s0_0 bt317.2 a1).bind fun bt319 => (spec_l14Big.j0 k (wrap64 (1 + bt319.1)) s0_0 bt319.2)) else (spec_l14Big.j0 k bt317.1 s0_0 bt317.2)))) = some (r1, r2, r3) := h
  clear h
  replace H := Option.bind_eq_some_iff.mp H
  obtain ⟨⟨t312, t313⟩, A30, H⟩ := H
  replace H : ((spec_l1Rd_one.f k s0_0 t313 (([0, 1, 1, 2, 3, 4, 5, 8, 9, 12, 17, 29, 30, 31, 33, 63, 64, wrap64 (1 + t312)] : List Int))).bind fun bt317 => (if bt317.1 > a1 then ((spec_l1Rd_pick.f k s0_0 bt317.2 a1).bind fun bt319 => (spec_l14Big.j0 k (wrap64 (1 + bt319.1)) s0_0 bt319.2)) else (spec_l14Big.j0 k bt317.1 s0_0 bt317.2))) = some (r1, r2, r3) := H
  have A3 := Aside0.mk A30
  clear A30
  obtain ⟨y314, hy314⟩ : ∃ y_ : List Int, y_ = (([0, 1, 1, 2, 3, 4, 5, 8, 9, 12, 17, 29, 30, 31, 33, 63, 64, wrap64 (1 + t312)] : List Int)) := ⟨_, rfl⟩
  replace H : ((spec_l1Rd_one.f k s0_0 t313 y314).bind fun bt317 => (if bt317.1 > a1 then ((spec_l1Rd_pick.f k s0_0 bt317.2 a1).bind fun bt319 => (spec_l14Big.j0 k (wrap64 (1 + bt319.1)) s0_0 bt319.2)) else (spec_l14Big.j0 k bt317.1 s0_0 bt317.2))) = some (r1, r2, r3) := by first | (rw [hy314]; with_reducible exact H) | (have H2_ := (Option.bind_some _ _).symm.trans H; rw [hy314]; with_reducible exact H2_) | (have H2_ := (Option.bind_some _ _).symm.trans H; with_reducible exact H2_) | with_reducible exact H | (rw [hy314]; exact H) | exact H
  have Ny314 := Aside0.mk hy314
  clear hy314
  replace H := Option.bind_eq_some_iff.mp H
  obtain ⟨⟨t317, t318⟩, A40, H⟩ := H
  replace H : (if t317 > a1 then ((spec_l1Rd_pick.f k s0_0 t318 a1).bind fun bt319 => (spec_l14Big.j0 k (wrap64 (1 + bt319.1)) s0_0 bt319.2)) else (spec_l14Big.j0 k t317 s0_0 t318)) = some (r1, r2, r3) := H
  have A4 := Aside0.mk A40
  clear A40
  have HC5 := Aside0.mk H
  clear H
  go_enter Tryd.func57, Tryd.ntmps57
  go_upto_if 17 with (first | ((with_reducible refine gate_dst (N := 4) rfl ?_); refine box_event ?hg (N := 4) ?hd (cs := #[.bool false, .slice none 0 0]) (t := 27) ?hr ?_; (case hd => rfl); (case hg => rfl); (case hr => first | (go_simp; done) | (go_simp; rfl)); intro gb311 hg w6 hbox hb; have n0_ := Aside0.mk (IsS102.below (by repeat (first | (with_reducible first | exact HI0.out | apply IsS102.alloc | apply IsS102.drewN | apply IsS102.drew | apply IsS102.set_1) | exact HI0.out)) hb); have n1_ := Aside0.mk (KeepBut.trans (by repeat (first | (with_reducible first | exact HK.out | apply KeepBut.set_ | apply keep_drewN | apply keep_drew | apply keep_alloc) | exact HK.out)) (KeepBut.of_below hb g none) (.inl rfl)); have n2_ := Aside0.mk (below_step (by repeat (first | (with_reducible first | exact HB.out | apply below_alloc | apply pw_below_drewN | apply below_drew1 | refine below_set ?_ (IsS102.ge HI0.out)) | exact HB.out)) hb); have n3_ := Aside0.mk (hbox); have n4_ := Aside0.mk ((by rw [hg]; exact (keep_size (w := w) (g := g) (row := none) (by repeat (first | (with_reducible first | exact HK.out | apply KeepBut.set_ | apply keep_drewN | apply keep_drew | apply keep_alloc) | exact HK.out))) : w.heap.size ≤ gb311)); have n5_ := Aside0.mk ((Nat.le_trans HW0.out (by rw [hg]; exact (keep_size (w := w) (g := g) (row := none) (by repeat (first | (with_reducible first | exact HK.out | apply KeepBut.set_ | apply keep_drewN | apply keep_drew | apply keep_alloc) | exact HK.out))) : w.heap.size ≤ gb311) : w0.heap.size ≤ gb311)); have n6_ := Aside0.mk ((by rw [hg]; exact Nat.ne_of_lt (IsS102.lt (show IsS102 w0 _ g s0_0 s0_1 from by repeat (first | (with_reducible first | exact HI0.out | apply IsS102.alloc | apply IsS102.drewN | apply IsS102.drew | apply IsS102.set_1) | exact HI0.out))) : g ≠ gb311)); have n7_ := Aside0.mk ((by rw [hg]; exact Nat.ne_of_gt (IsS102.lt (show IsS102 w0 _ g s0_0 s0_1 from by repeat (first | (with_reducible first | exact HI0.out | apply IsS102.alloc | apply IsS102.drewN | apply IsS102.drew | apply IsS102.set_1) | exact HI0.out))) : gb311 ≠ g)); clear HI0; clear HK; clear HB; have HI0 := n0_; have HK := n1_; have HB := n2_; have BK311 := n3_; have GW311 := n4_; have GE311 := n5_; have NB0_311 := n6_; have NB311_0 := n7_; clear n0_ n1_ n2_ n3_ n4_ n5_ n6_ n7_; clear hb hbox hg) | ((with_reducible refine gate_callee (f := 53) rfl ?_); refine goesL_ (some 11) rfl rfl Tryd.func53 (by kernel_rfl) rfl #[.pointer (some ⟨g, 0, none⟩), .int .i64 64] rfl za ?_; (with_reducible refine (spec_l1Rd_pick.calls k g s0_0 s0_1 64 t312 t313 w0 _ ?side1 ?side2 A3.out).mono ?_); (case side1 => repeat (first | (with_reducible first | exact HI0.out | apply IsS102.alloc | apply IsS102.drewN | apply IsS102.drew | apply IsS102.set_1 | refine IsS102.far ?_ NB0_311.out _) | exact HI0.out)); (case side2 => repeat (first | (with_reducible first | exact HB.out | apply below_alloc | apply pw_below_drewN | apply below_drew1 | refine below_set ?_ (IsS102.ge HI0.out) | refine below_set ?_ GE311.out) | exact HB.out)); rintro e w7 ⟨rfl, hi, hb, hk⟩; refine ⟨_, rfl, ?_⟩; have n0_ := Aside0.mk (KeepBut.blk hk (g' := gb311) (o := .cells #[.bool false, .slice none 0 0] 27 (0, 0)) (zk BK311.out) NB311_0.out (by simp)); have n1_ := Aside0.mk (KeepBut.trans (by repeat (first | (with_reducible first | exact HK.out | apply KeepBut.set_ | apply keep_drewN | apply keep_drew | apply keep_alloc | refine keep_far ?_ GW311.out _) | exact HK.out)) hk (.inl rfl)); have n2_ := Aside0.mk (hb); have n3_ := Aside0.mk (hi); clear BK311; clear HK; clear HB; clear HI0; have BK311 := n0_; have HK := n1_; have HB := n2_; have HI0 := n3_; clear n0_ n1_ n2_ n3_; (try clear hb); (try clear hb2); (try clear hk); (try clear hi)) | ((with_reducible refine gate_dst (N := 13) rfl ?_); refine Kd.R_lit (Kd.int .i64) _ 3 ?hg (N := 13) ?hd (xs := ([0, 1, 1, 2, 3, 4, 5, 8, 9, 12, 17, 29, 30, 31, 33, 63, 64, wrap64 (1 + t312)] : List Int)) (inner := [.int .i64 0, .int .i64 1, .int .i64 1, .int .i64 2, .int .i64 3, .int .i64 4, .int .i64 5, .int .i64 8, .int .i64 9, .int .i64 12, .int .i64 17, .int .i64 29, .int .i64 30, .int .i64 31, .int .i64 33, .int .i64 63, .int .i64 64, .int .i64 (wrap64 (1 + t312))]) (ok := fun _ => True) (okp := fun _ => True) ?hr ?hp (fun _ hk => hk) trivial (Below.refl _ _) (Nat.le_refl _) (by simp) ?_; (case hd => rfl); (case hg => rfl); (case hr => first | (go_simp; done) | (go_simp; rfl)); (case hp => exact (Reps.one (show Kd.M (Kd.int .i64) _ _ _ 0 [.int .i64 0] from rfl) (Reps.one (show Kd.M (Kd.int .i64) _ _ _ 1 [.int .i64 1] from rfl) (Reps.one (show Kd.M (Kd.int .i64) _ _ _ 1 [.int .i64 1] from rfl) (Reps.one (show Kd.M (Kd.int .i64) _ _ _ 2 [.int .i64 2] from rfl) (Reps.one (show Kd.M (Kd.int .i64) _ _ _ 3 [.int .i64 3] from rfl) (Reps.one (show Kd.M (Kd.int .i64) _ _ _ 4 [.int .i64 4] from rfl) (Reps.one (show Kd.M (Kd.int .i64) _ _ _ 5 [.int .i64 5] from rfl) (Reps.one (show Kd.M (Kd.int .i64) _ _ _ 8 [.int .i64 8] from rfl) (Reps.one (show Kd.M (Kd.int .i64) _ _ _ 9 [.int .i64 9] from rfl) (Reps.one (show Kd.M (Kd.int .i64) _ _ _ 12 [.int .i64 12] from rfl) (Reps.one (show Kd.M (Kd.int .i64) _ _ _ 17 [.int .i64 17] from rfl) (Reps.one (show Kd.M (Kd.int .i64) _ _ _ 29 [.int .i64 29] from rfl) (Reps.one (show Kd.M (Kd.int .i64) _ _ _ 30 [.int .i64 30] from rfl) (Reps.one (show Kd.M (Kd.int .i64) _ _ _ 31 [.int .i64 31] from rfl) (Reps.one (show Kd.M (Kd.int .i64) _ _ _ 33 [.int .i64 33] from rfl) (Reps.one (show Kd.M (Kd.int .i64) _ _ _ 63 [.int .i64 63] from rfl) (Reps.one (show Kd.M (Kd.int .i64) _ _ _ 64 [.int .i64 64] from rfl) (Reps.one (show Kd.M (Kd.int .i64) _ _ _ (wrap64 (1 + t312)) [.int .i64 (wrap64 (1 + t312))] from rfl) (Reps.none _ _)))))))))))))))))))); intro v315 w8 ho9 hb hg_ hnew_; clear hg_ hnew_; (first | rw [← Ny314.out] at ho9 | (simp only [Int.reduceToNat] at ho9; rw [← Ny314.out] at ho9)); have n0_ := Aside0.mk (Kd.R_lower ho9 (keep_size (w := w) (g := g) (row := none) (by repeat (first | (with_reducible first | exact HK.out | apply KeepBut.set_ | apply keep_drewN | apply keep_drew | apply keep_alloc | refine keep_far ?_ GW311.out _) | exact HK.out)))); have n1_ := Aside0.mk (IsS102.below (by repeat (first | (with_reducible first | exact HI0.out | apply IsS102.alloc | apply IsS102.drewN | apply IsS102.drew | apply IsS102.set_1 | refine IsS102.far ?_ NB0_311.out _) | exact HI0.out)) hb); have n2_ := Aside0.mk (blk_below (g := gb311) (o := .cells #[.bool false, .slice none 0 0] 27 (0, 0)) (zk BK311.out) hb); have n3_ := Aside0.mk (KeepBut.trans (by repeat (first | (with_reducible first | exact HK.out | apply KeepBut.set_ | apply keep_drewN | apply keep_drew | apply keep_alloc | refine keep_far ?_ GW311.out _) | exact HK.out)) (KeepBut.of_below hb g none) (.inl rfl)); have n4_ := Aside0.mk (below_step (by repeat (first | (with_reducible first | exact HB.out | apply below_alloc | apply pw_below_drewN | apply below_drew1 | refine below_set ?_ (IsS102.ge HI0.out) | refine below_set ?_ GE311.out) | exact HB.out)) hb); clear HI0; clear BK311; clear HK; clear HB; have HO316 := n0_; have HI0 := n1_; have BK311 := n2_; have HK := n3_; have HB := n4_; clear n0_ n1_ n2_ n3_ n4_; clear hb ho9; obtain ⟨Ao10, co10, eo10⟩ := Kd.R_slice HO316.out; subst eo10) | ((with_reducible refine gate_callee (f := 82) rfl ?_); refine goesL_ (some 14) rfl rfl Tryd.func82 (by kernel_rfl) rfl #[.pointer (some ⟨g, 0, none⟩), .slice Ao10 y314.length co10] rfl za ?_; (with_reducible refine (spec_l1Rd_one.calls k g s0_0 t313 _ _ y314 t317 t318 w0 _ ?side1 ?side2 ?side3 ?side4 ?side5 A4.out).mono ?_); (case side1 => repeat (first | (with_reducible first | exact HI0.out | apply IsS102.alloc | apply IsS102.drewN | apply IsS102.drew | apply IsS102.set_1 | refine IsS102.far ?_ NB0_311.out _) | exact HI0.out)); (case side2 => repeat (first | (with_reducible first | exact HB.out | apply below_alloc | apply pw_below_drewN | apply below_drew1 | refine below_set ?_ (IsS102.ge HI0.out) | refine below_set ?_ GE311.out) | exact HB.out)); (case side3 => repeat (first | exact (Kd.R_reads' HO316.out).2.2 | (with_reducible refine Kd.C_alloc ?_ _) | (with_reducible refine Kd.C_drewN ?_ _) | (with_reducible refine Kd.C_drew ?_))); (case side4 => exact (Kd.R_reads' HO316.out).2.1); (case side5 => exact far_slice (IsS102.own_ne HI0.out HO316.out (by decide))); rintro e w11 ⟨rfl, hi, hb, hk⟩; refine ⟨_, rfl, ?_⟩; have n0_ := Aside0.mk (KeepBut.blk hk (g' := gb311) (o := .cells #[.bool false, .slice none 0 0] 27 (0, 0)) (zk BK311.out) NB311_0.out (by simp)); have n1_ := Aside0.mk (Kd.R_mono (Kd.R_keep (IsS102.apart (show IsS102 w0 _ g s0_0 t313 from by repeat (first | (with_reducible first | exact HI0.out | apply IsS102.alloc | apply IsS102.drewN | apply IsS102.drew | apply IsS102.set_1 | refine IsS102.far ?_ NB0_311.out _) | exact HI0.out)) (zR HO316.out) (by decide)) hk (fun _ h => h.2)) (fun _ h => h.1)); have n2_ := Aside0.mk (KeepBut.trans (by repeat (first | (with_reducible first | exact HK.out | apply KeepBut.set_ | apply keep_drewN | apply keep_drew | apply keep_alloc | refine keep_far ?_ GW311.out _) | exact HK.out)) hk (.inl rfl)); have n3_ := Aside0.mk (hb); have n4_ := Aside0.mk (hi); clear BK311; clear HO316; clear HK; clear HB; clear HI0; have BK311 := n0_; have HO316 := n1_; have HK := n2_; have HB := n3_; have HI0 := n4_; clear n0_ n1_ n2_ n3_ n4_; (try clear hb); (try clear hb2); (try clear hk); (try clear hi)))
  (try simp only [Act.put, List.setIfInBounds_toArray, List.set_cons_zero, List.set_cons_succ])
  go_cut [5] (fun v5 wc => ∃ (kq : Nat) (x5_4 : Int) (x1001_4 : Int), v5 = .int .i64 x5_4 ∧ Aside0 (spec_l14Big.j0 kq x5_4 s0_0 x1001_4 = some (r1, r2, r3)) ∧ Aside0 (kq ≤ k) ∧ Aside0 (wc.heap[gb311]? = some (.cells #[.bool false, (.slice none 0 0)] 27 (0, 0))) ∧ Aside0 (IsS102 w0 wc g s0_0 x1001_4) ∧ Aside0 (KeepBut w wc g none) ∧ Aside0 (Below w0.heap.size w0 wc))
  case first =>
    have H := HC5.out
    clear HC5
    by_cases c12 : t317 > a1
    · rw [if_pos c12] at H
      have c12b0 : decide (a1 < t317) = true := decide_eq_true c12
      clear c12
      (first | rw [c12b0] | (simp only [i64_w, i32_w]; rw [c12b0]) | skip)
      replace H := Option.bind_eq_some_iff.mp H
      obtain ⟨⟨t319, t320⟩, A130, H⟩ := H
      replace H : (spec_l14Big.j0 k (wrap64 (1 + t319)) s0_0 t320) = some (r1, r2, r3) := H
      have A13 := Aside0.mk A130
      clear A130
      have H' := Aside0.mk H
      clear H
      go_wp2_with (first | ((with_reducible refine gate_callee (f := 53) rfl ?_); refine goesL_ (some 20) rfl rfl Tryd.func53 (by kernel_rfl) rfl #[.pointer (some ⟨g, 0, none⟩), .int .i64 a1] rfl za ?_; (with_reducible refine (spec_l1Rd_pick.calls k g s0_0 t318 a1 t319 t320 w0 _ ?side1 ?side2 A13.out).mono ?_); (case side1 => repeat (first | (with_reducible first | exact HI0.out | apply IsS102.alloc | apply IsS102.drewN | apply IsS102.drew | apply IsS102.set_1 | refine IsS102.far ?_ NB0_311.out _) | exact HI0.out)); (case side2 => repeat (first | (with_reducible first | exact HB.out | apply below_alloc | apply pw_below_drewN | apply below_drew1 | refine below_set ?_ (IsS102.ge HI0.out) | refine below_set ?_ GE311.out) | exact HB.out)); rintro e w14 ⟨rfl, hi, hb, hk⟩; refine ⟨_, rfl, ?_⟩; have n0_ := Aside0.mk (KeepBut.blk hk (g' := gb311) (o := .cells #[.bool false, .slice none 0 0] 27 (0, 0)) (zk BK311.out) NB311_0.out (by simp)); have n1_ := Aside0.mk (Kd.R_mono (Kd.R_keep (IsS102.apart (show IsS102 w0 _ g s0_0 t318 from by repeat (first | (with_reducible first | exact HI0.out | apply IsS102.alloc | apply IsS102.drewN | apply IsS102.drew | apply IsS102.set_1 | refine IsS102.far ?_ NB0_311.out _) | exact HI0.out)) (zR HO316.out) (by decide)) hk (fun _ h => h.2)) (fun _ h => h.1)); have n2_ := Aside0.mk (KeepBut.trans (by repeat (first | (with_reducible first | exact HK.out | apply KeepBut.set_ | apply keep_drewN | apply keep_drew | apply keep_alloc | refine keep_far ?_ GW311.out _) | exact HK.out)) hk (.inl rfl)); have n3_ := Aside0.mk (hb); have n4_ := Aside0.mk (hi); clear BK311; clear HO316; clear HK; clear HB; clear HI0; have BK311 := n0_; have HO316 := n1_; have HK := n2_; have HB := n3_; have HI0 := n4_; clear n0_ n1_ n2_ n3_ n4_; (try clear hb); (try clear hb2); (try clear hk); (try clear hi)))
      go_meet
      case rel => exact ⟨_, (wrap64 (1 + t319)), (t320), (by first | rfl | (simp; done) | (simp [*]; done)), H', ⟨by first | omega | exact Nat.le_refl _⟩, ⟨by (with_reducible repeat (first | refine blk_drewN ?_ _ | refine blk_drew ?_ | refine blk_alloc ?_ _)); exact BK311.out⟩, ⟨by repeat (first | (with_reducible first | exact HI0.out | apply IsS102.alloc | apply IsS102.drewN | apply IsS102.drew | apply IsS102.set_1 | refine IsS102.far ?_ NB0_311.out _) | exact HI0.out)⟩, ⟨by repeat (first | (with_reducible first | exact HK.out | apply KeepBut.set_ | apply keep_drewN | apply keep_drew | apply keep_alloc | refine keep_far ?_ GW311.out _) | exact HK.out)⟩, ⟨by repeat (first | (with_reducible first | exact HB.out | apply below_alloc | apply pw_below_drewN | apply below_drew1 | refine below_set ?_ (IsS102.ge HI0.out) | refine below_set ?_ GE311.out) | exact HB.out)⟩⟩
    · rw [if_neg c12] at H
      have c12b0 : decide (a1 < t317) = false := decide_eq_false c12
      clear c12
      (first | rw [c12b0] | (simp only [i64_w, i32_w]; rw [c12b0]) | skip)
      have H' := Aside0.mk H
      clear H
      go_wp2
      go_meet
      case rel => exact ⟨_, (t317), (t318), (by first | rfl | (simp; done) | (simp [*]; done)), H', ⟨by first | omega | exact Nat.le_refl _⟩, ⟨by (with_reducible repeat (first | refine blk_drewN ?_ _ | refine blk_drew ?_ | refine blk_alloc ?_ _)); exact BK311.out⟩, ⟨by repeat (first | (with_reducible first | exact HI0.out | apply IsS102.alloc | apply IsS102.drewN | apply IsS102.drew | apply IsS102.set_1 | refine IsS102.far ?_ NB0_311.out _) | exact HI0.out)⟩, ⟨by repeat (first | (with_reducible first | exact HK.out | apply KeepBut.set_ | apply keep_drewN | apply keep_drew | apply keep_alloc | refine keep_far ?_ GW311.out _) | exact HK.out)⟩, ⟨by repeat (first | (with_reducible first | exact HB.out | apply below_alloc | apply pw_below_drewN | apply below_drew1 | refine below_set ?_ (IsS102.ge HI0.out) | refine below_set ?_ GE311.out) | exact HB.out)⟩⟩
  case rest =>
    clear HC5
    try clear c1
    try clear p2
    try clear c5
    try clear p6
    try clear c8
    try clear c12
    try clear c12b0
    obtain ⟨kq, x5_4, x1001_4, rfl, HA, HJ4, BK311, HI0, HK, HB⟩ := hcut
    cases kq with
    | zero => exact absurd HA.out (by simp [spec_l14Big.j0])
    | succ kj4 =>
      have H := HA.out
      clear HA
      simp only [spec_l14Big.j0] at H
      replace H := Option.bind_eq_some_iff.mp H
      obtain ⟨⟨t321, t322⟩, A150, H⟩ := H
      replace H : ((spec_l1Rd_pick.f kj4 s0_0 t322 6).bind fun bt323 => (if bt323.1 = 0 then ((spec_l1Many.f kj4 (⟨#[48]⟩ : ByteArray) (wrap64 (x5_4 - 1))).bind fun t325 => (if 1 + t325.size ≤ 9223372036854775807 then (spec_l14Big.j1 kj4 x5_4 ((⟨#[49]⟩ : ByteArray) ++ t325) s0_0 bt323.2) else (none))) else (spec_l14Big.j1 kj4 x5_4 t321 s0_0 bt323.2))) = some (r1, r2, r3) := H
      have A15 := Aside0.mk A150
      clear A150
      replace H := Option.bind_eq_some_iff.mp H
      obtain ⟨⟨t323, t324⟩, A160, H⟩ := H
      replace H : (if t323 = 0 then ((spec_l1Many.f kj4 (⟨#[48]⟩ : ByteArray) (wrap64 (x5_4 - 1))).bind fun t325 => (if 1 + t325.size ≤ 9223372036854775807 then (spec_l14Big.j1 kj4 x5_4 ((⟨#[49]⟩ : ByteArray) ++ t325) s0_0 t324) else (none))) else (spec_l14Big.j1 kj4 x5_4 t321 s0_0 t324)) = some (r1, r2, r3) := H
      have A16 := Aside0.mk A160
      clear A160
      have HC17 := Aside0.mk H
      clear H
      go_upto_if 27 with (first | ((with_reducible refine gate_callee (f := 83) rfl ?_); refine goesL_ (some 24) rfl rfl Tryd.func83 (by kernel_rfl) rfl #[.pointer (some ⟨g, 0, none⟩), .int .i64 x5_4] rfl za ?_; (with_reducible refine (spec_l14Figs.calls kj4 g s0_0 x1001_4 x5_4 t321 t322 w0 _ ?side1 ?side2 A15.out).mono ?_); (case side1 => repeat (first | (with_reducible first | exact HI0.out | apply IsS102.alloc | apply IsS102.drewN | apply IsS102.drew | apply IsS102.set_1 | refine IsS102.far ?_ NB0_311.out _) | exact HI0.out)); (case side2 => repeat (first | (with_reducible first | exact HB.out | apply below_alloc | apply pw_below_drewN | apply below_drew1 | refine below_set ?_ (IsS102.ge HI0.out) | refine below_set ?_ GE311.out) | exact HB.out)); rintro e w18 ⟨rfl, hi, hb, hk⟩; refine ⟨_, rfl, ?_⟩; have n0_ := Aside0.mk (KeepBut.blk hk (g' := gb311) (o := .cells #[.bool false, .slice none 0 0] 27 (0, 0)) (zk BK311.out) NB311_0.out (by simp)); have n1_ := Aside0.mk (KeepBut.trans (by repeat (first | (with_reducible first | exact HK.out | apply KeepBut.set_ | apply keep_drewN | apply keep_drew | apply keep_alloc | refine keep_far ?_ GW311.out _) | exact HK.out)) hk (.inl rfl)); have n2_ := Aside0.mk (hb); have n3_ := Aside0.mk (hi); clear BK311; clear HK; clear HB; clear HI0; have BK311 := n0_; have HK := n1_; have HB := n2_; have HI0 := n3_; clear n0_ n1_ n2_ n3_; (try clear hb); (try clear hb2); (try clear hk); (try clear hi)) | ((with_reducible refine gate_callee (f := 53) rfl ?_); refine goesL_ (some 26) rfl rfl Tryd.func53 (by kernel_rfl) rfl #[.pointer (some ⟨g, 0, none⟩), .int .i64 6] rfl za ?_; (with_reducible refine (spec_l1Rd_pick.calls kj4 g s0_0 t322 6 t323 t324 w0 _ ?side1 ?side2 A16.out).mono ?_); (case side1 => repeat (first | (with_reducible first | exact HI0.out | apply IsS102.alloc | apply IsS102.drewN | apply IsS102.drew | apply IsS102.set_1 | refine IsS102.far ?_ NB0_311.out _) | exact HI0.out)); (case side2 => repeat (first | (with_reducible first | exact HB.out | apply below_alloc | apply pw_below_drewN | apply below_drew1 | refine below_set ?_ (IsS102.ge HI0.out) | refine below_set ?_ GE311.out) | exact HB.out)); rintro e w19 ⟨rfl, hi, hb, hk⟩; refine ⟨_, rfl, ?_⟩; have n0_ := Aside0.mk (KeepBut.blk hk (g' := gb311) (o := .cells #[.bool false, .slice none 0 0] 27 (0, 0)) (zk BK311.out) NB311_0.out (by simp)); have n1_ := Aside0.mk (KeepBut.trans (by repeat (first | (with_reducible first | exact HK.out | apply KeepBut.set_ | apply keep_drewN | apply keep_drew | apply keep_alloc | refine keep_far ?_ GW311.out _) | exact HK.out)) hk (.inl rfl)); have n2_ := Aside0.mk (hb); have n3_ := Aside0.mk (hi); clear BK311; clear HK; clear HB; clear HI0; have BK311 := n0_; have HK := n1_; have HB := n2_; have HI0 := n3_; clear n0_ n1_ n2_ n3_; (try clear hb); (try clear hb2); (try clear hk); (try clear hi)))
      (try simp only [Act.put, List.setIfInBounds_toArray, List.set_cons_zero, List.set_cons_succ])
      go_cut [6] (fun v6 wc => ∃ (kq : Nat) (x6_16 : ByteArray), v6 = .string x6_16 ∧ Aside0 (spec_l14Big.j1 kq x5_4 x6_16 s0_0 t324 = some (r1, r2, r3)) ∧ Aside0 (kq ≤ kj4) ∧ Aside0 (wc.heap[gb311]? = some (.cells #[.bool false, (.slice none 0 0)] 27 (0, 0))) ∧ Aside0 (IsS102 w0 wc g s0_0 t324) ∧ Aside0 (KeepBut w wc g none) ∧ Aside0 (Below w0.heap.size w0 wc))
      case first =>
        have H := HC17.out
        clear HC17
        by_cases c20 : t323 = 0
        · rw [if_pos c20] at H
          have c20b0 : (t323 == 0) = true := beq_iff_eq.mpr c20
          have c20b1 : (t323 != 0) = false := bne_eq_false_iff_eq.mpr c20
          clear c20
          (first | rw [c20b0] | (simp only [i64_w, i32_w]; rw [c20b0]) | skip)
          replace H := Option.bind_eq_some_iff.mp H
          obtain ⟨t325, A210, H⟩ := H
          replace H : (if 1 + t325.size ≤ 9223372036854775807 then (spec_l14Big.j1 kj4 x5_4 ((⟨#[49]⟩ : ByteArray) ++ t325) s0_0 t324) else (none)) = some (r1, r2, r3) := H
          have A21 := Aside0.mk A210
          clear A210
          by_cases c22 : 1 + t325.size ≤ 9223372036854775807
          · rw [if_pos c22] at H
            have c22b0 := eq_true c22
            have c22b1 : decide (1 + t325.size ≤ 9223372036854775807) = true := decide_eq_true c22
            try have c22b2 : (9223372036854775807 < 1 + t325.size) = False := eq_false (Nat.not_lt.2 c22)
            have H' := Aside0.mk H
            clear H
            go_wp2_with (first | ((with_reducible refine gate_callee (f := 55) rfl ?_); refine goesL_ (some 30) rfl rfl Tryd.func55 (by kernel_rfl) rfl #[.string (⟨#[48]⟩ : ByteArray), .int .i64 (wrap64 (x5_4 - 1))] rfl za ?_; (with_reducible refine (spec_l1Many.calls kj4 (⟨#[48]⟩ : ByteArray) (wrap64 (x5_4 - 1)) t325 _ A21.out).mono ?_); rintro e w' ⟨rfl, ⟨nd, rfl⟩⟩; refine ⟨_, rfl, ?_⟩))
            go_meet
            case rel => exact ⟨_, ((⟨#[49]⟩ : ByteArray) ++ t325), (by first | rfl | (simp; done) | (simp [*]; done)), H', ⟨by have := HJ4.out; first | omega | exact Nat.le_refl _⟩, ⟨by (with_reducible repeat (first | refine blk_drewN ?_ _ | refine blk_drew ?_ | refine blk_alloc ?_ _)); exact BK311.out⟩, ⟨by repeat (first | (with_reducible first | exact HI0.out | apply IsS102.alloc | apply IsS102.drewN | apply IsS102.drew | apply IsS102.set_1 | refine IsS102.far ?_ NB0_311.out _) | exact HI0.out)⟩, ⟨by repeat (first | (with_reducible first | exact HK.out | apply KeepBut.set_ | apply keep_drewN | apply keep_drew | apply keep_alloc | refine keep_far ?_ GW311.out _) | exact HK.out)⟩, ⟨by repeat (first | (with_reducible first | exact HB.out | apply below_alloc | apply pw_below_drewN | apply below_drew1 | refine below_set ?_ (IsS102.ge HI0.out) | refine below_set ?_ GE311.out) | exact HB.out)⟩⟩
          · rw [if_neg c22] at H
            exact absurd H (by simp)
        · rw [if_neg c20] at H
          have c20b0 : (t323 == 0) = false := beq_eq_false_iff_ne.mpr c20
          have c20b1 : (t323 != 0) = true := bne_iff_ne.mpr c20
          (first | rw [c20b0] | (simp only [i64_w, i32_w]; rw [c20b0]) | skip)
          have H' := Aside0.mk H
          clear H
          go_wp2
          go_meet
          case rel => exact ⟨_, (t321), (by first | rfl | (simp; done) | (simp [*]; done)), H', ⟨by have := HJ4.out; first | omega | exact Nat.le_refl _⟩, ⟨by (with_reducible repeat (first | refine blk_drewN ?_ _ | refine blk_drew ?_ | refine blk_alloc ?_ _)); exact BK311.out⟩, ⟨by repeat (first | (with_reducible first | exact HI0.out | apply IsS102.alloc | apply IsS102.drewN | apply IsS102.drew | apply IsS102.set_1 | refine IsS102.far ?_ NB0_311.out _) | exact HI0.out)⟩, ⟨by repeat (first | (with_reducible first | exact HK.out | apply KeepBut.set_ | apply keep_drewN | apply keep_drew | apply keep_alloc | refine keep_far ?_ GW311.out _) | exact HK.out)⟩, ⟨by repeat (first | (with_reducible first | exact HB.out | apply below_alloc | apply pw_below_drewN | apply below_drew1 | refine below_set ?_ (IsS102.ge HI0.out) | refine below_set ?_ GE311.out) | exact HB.out)⟩⟩
      case rest =>
        clear HC17
        try clear c1
        try clear c2
        try clear p2
        try clear c5
        try clear p6
        try clear c8
        try clear c12
        try clear c12b0
        try clear c20
        try clear c20b0
        try clear c20b1
        try clear c22
        try clear c22b0
        try clear c22b1
        try clear c22b2
        try clear p2
        try clear p6
        obtain ⟨kq, x6_16, rfl, HA, HJ16, BK311, HI0, HK, HB⟩ := hcut
        cases kq with
        | zero => exact absurd HA.out (by simp [spec_l14Big.j1])
        | succ kj16 =>
          have H := HA.out
          clear HA
          simp only [spec_l14Big.j1] at H
          replace H := Option.bind_eq_some_iff.mp H
          obtain ⟨⟨t326, t327⟩, A230, H⟩ := H
          replace H : (if t326 = 0 then ((spec_l1Many.f kj16 (⟨#[57]⟩ : ByteArray) x5_4).bind fun t328 => ((spec_l1Rd_pick.f kj16 s0_0 t327 3).bind fun bt329 => ((spec_l1FromFigures.f kj16 t328).bind fun t331 => ((spec_l1Big.f kj16 (bt329.1 == 0) t331).bind fun bt334 => (some (bt334.1, bt334.2.1, bt329.2)))))) else ((spec_l1Rd_pick.f kj16 s0_0 t327 3).bind fun bt340 => ((spec_l1FromFigures.f kj16 x6_16).bind fun t342 => ((spec_l1Big.f kj16 (bt340.1 == 0) t342).bind fun bt345 => (some (bt345.1, bt345.2.1, bt340.2)))))) = some (r1, r2, r3) := H
          have A23 := Aside0.mk A230
          clear A230
          by_cases c24 : t326 = 0
          · rw [if_pos c24] at H
            have c24b0 : (t326 == 0) = true := beq_iff_eq.mpr c24
            have c24b1 : (t326 != 0) = false := bne_eq_false_iff_eq.mpr c24
            clear c24
            replace H := Option.bind_eq_some_iff.mp H
            obtain ⟨t328, A250, H⟩ := H
            replace H : ((spec_l1Rd_pick.f kj16 s0_0 t327 3).bind fun bt329 => ((spec_l1FromFigures.f kj16 t328).bind fun t331 => ((spec_l1Big.f kj16 (bt329.1 == 0) t331).bind fun bt334 => (some (bt334.1, bt334.2.1, bt329.2))))) = some (r1, r2, r3) := H
            have A25 := Aside0.mk A250
            clear A250
            replace H := Option.bind_eq_some_iff.mp H
            obtain ⟨⟨t329, t330⟩, A260, H⟩ := H
            replace H : ((spec_l1FromFigures.f kj16 t328).bind fun t331 => ((spec_l1Big.f kj16 (t329 == 0) t331).bind fun bt334 => (some (bt334.1, bt334.2.1, t330)))) = some (r1, r2, r3) := H
            have A26 := Aside0.mk A260
            clear A260
            replace H := Option.bind_eq_some_iff.mp H
            obtain ⟨t331, A270, H⟩ := H
            replace H : ((spec_l1Big.f kj16 (t329 == 0) t331).bind fun bt334 => (some (bt334.1, bt334.2.1, t330))) = some (r1, r2, r3) := H
            have A27 := Aside0.mk A270
            clear A270
            replace H := Option.bind_eq_some_iff.mp H
            obtain ⟨⟨t334, t335, t338⟩, A280, H⟩ := H
            replace H : (some (t334, t335, t330)) = some (r1, r2, r3) := H
            have A28 := Aside0.mk A280
            clear A280
            simp only [Option.some.injEq, Prod.mk.injEq] at H
            obtain ⟨rfl, rfl, rfl⟩ := H
            go_wp2_with (first | ((with_reducible refine gate_callee (f := 53) rfl ?_); refine goesL_ (some 33) rfl rfl Tryd.func53 (by kernel_rfl) rfl #[.pointer (some ⟨g, 0, none⟩), .int .i64 6] rfl za ?_; (with_reducible refine (spec_l1Rd_pick.calls kj16 g s0_0 t324 6 t326 t327 w0 _ ?side1 ?side2 A23.out).mono ?_); (case side1 => repeat (first | (with_reducible first | exact HI0.out | apply IsS102.alloc | apply IsS102.drewN | apply IsS102.drew | apply IsS102.set_1 | refine IsS102.far ?_ NB0_311.out _) | exact HI0.out)); (case side2 => repeat (first | (with_reducible first | exact HB.out | apply below_alloc | apply pw_below_drewN | apply below_drew1 | refine below_set ?_ (IsS102.ge HI0.out) | refine below_set ?_ GE311.out) | exact HB.out)); rintro e w29 ⟨rfl, hi, hb, hk⟩; refine ⟨_, rfl, ?_⟩; have n0_ := Aside0.mk (KeepBut.blk hk (g' := gb311) (o := .cells #[.bool false, .slice none 0 0] 27 (0, 0)) (zk BK311.out) NB311_0.out (by simp)); have n1_ := Aside0.mk (KeepBut.trans (by repeat (first | (with_reducible first | exact HK.out | apply KeepBut.set_ | apply keep_drewN | apply keep_drew | apply keep_alloc | refine keep_far ?_ GW311.out _) | exact HK.out)) hk (.inl rfl)); have n2_ := Aside0.mk (hb); have n3_ := Aside0.mk (hi); clear BK311; clear HK; clear HB; clear HI0; have BK311 := n0_; have HK := n1_; have HB := n2_; have HI0 := n3_; clear n0_ n1_ n2_ n3_; (try clear hb); (try clear hb2); (try clear hk); (try clear hi)) | ((with_reducible refine gate_callee (f := 55) rfl ?_); refine goesL_ (some 36) rfl rfl Tryd.func55 (by kernel_rfl) rfl #[.string (⟨#[57]⟩ : ByteArray), .int .i64 x5_4] rfl za ?_; (with_reducible refine (spec_l1Many.calls kj16 (⟨#[57]⟩ : ByteArray) x5_4 t328 _ A25.out).mono ?_); rintro e w' ⟨rfl, ⟨nd, rfl⟩⟩; refine ⟨_, rfl, ?_⟩; (try (rw [drewN_self w29]; generalize hq_ : World.drewN w29 _ = w29; have n0_ : Aside0 (w29.heap[gb311]? = some (.cells #[.bool false, .slice none 0 0] 27 (0, 0))) := ⟨by rw [← hq_]; exact (zk BK311.out)⟩; have n1_ : Aside0 (IsS102 w0 w29 g s0_0 t327) := ⟨by rw [← hq_]; exact (by repeat (first | (with_reducible first | exact HI0.out | apply IsS102.alloc | apply IsS102.drewN | apply IsS102.drew | apply IsS102.set_1 | refine IsS102.far ?_ NB0_311.out _) | exact HI0.out))⟩; have n2_ : Aside0 (KeepBut w w29 g none) := ⟨by rw [← hq_]; exact (by repeat (first | (with_reducible first | exact HK.out | apply KeepBut.set_ | apply keep_drewN | apply keep_drew | apply keep_alloc | refine keep_far ?_ GW311.out _) | exact HK.out))⟩; have n3_ : Aside0 (Below w0.heap.size w0 w29) := ⟨by rw [← hq_]; exact (by repeat (first | (with_reducible first | exact HB.out | apply below_alloc | apply pw_below_drewN | apply below_drew1 | refine below_set ?_ (IsS102.ge HI0.out) | refine below_set ?_ GE311.out) | exact HB.out))⟩; clear BK311 HI0 HK HB hq_; have BK311 := n0_; have HI0 := n1_; have HK := n2_; have HB := n3_; clear n0_ n1_ n2_ n3_))) | ((with_reducible refine gate_callee (f := 53) rfl ?_); refine goesL_ (some 39) rfl rfl Tryd.func53 (by kernel_rfl) rfl #[.pointer (some ⟨g, 0, none⟩), .int .i64 3] rfl za ?_; (with_reducible refine (spec_l1Rd_pick.calls kj16 g s0_0 t327 3 t329 t330 w0 _ ?side1 ?side2 A26.out).mono ?_); (case side1 => repeat (first | (with_reducible first | exact HI0.out | apply IsS102.alloc | apply IsS102.drewN | apply IsS102.drew | apply IsS102.set_1 | refine IsS102.far ?_ NB0_311.out _) | exact HI0.out)); (case side2 => repeat (first | (with_reducible first | exact HB.out | apply below_alloc | apply pw_below_drewN | apply below_drew1 | refine below_set ?_ (IsS102.ge HI0.out) | refine below_set ?_ GE311.out) | exact HB.out)); rintro e w30 ⟨rfl, hi, hb, hk⟩; refine ⟨_, rfl, ?_⟩; have n0_ := Aside0.mk (KeepBut.blk hk (g' := gb311) (o := .cells #[.bool false, .slice none 0 0] 27 (0, 0)) (zk BK311.out) NB311_0.out (by simp)); have n1_ := Aside0.mk (KeepBut.trans (by repeat (first | (with_reducible first | exact HK.out | apply KeepBut.set_ | apply keep_drewN | apply keep_drew | apply keep_alloc | refine keep_far ?_ GW311.out _) | exact HK.out)) hk (.inl rfl)); have n2_ := Aside0.mk (hb); have n3_ := Aside0.mk (hi); clear BK311; clear HK; clear HB; clear HI0; have BK311 := n0_; have HK := n1_; have HB := n2_; have HI0 := n3_; clear n0_ n1_ n2_ n3_; (try clear hb); (try clear hb2); (try clear hk); (try clear hi)) | ((with_reducible refine gate_callee (f := 45) rfl ?_); refine goesL_ (some 42) rfl rfl Tryd.func45 (by kernel_rfl) rfl #[.string t328] rfl za ?_; (with_reducible refine (spec_l1FromFigures.calls kj16 t328 t331 _ A27.out).mono ?_); rintro e w31 ⟨v332, rfl, ho0, hb⟩; refine ⟨_, rfl, ?_⟩; have n0_ := Aside0.mk (Kd.R_lower ho0 (keep_size (w := w) (g := g) (row := none) (by repeat (first | (with_reducible first | exact HK.out | apply KeepBut.set_ | apply keep_drewN | apply keep_drew | apply keep_alloc | refine keep_far ?_ GW311.out _) | exact HK.out)))); have n1_ := Aside0.mk (blk_below (g := gb311) (o := .cells #[.bool false, .slice none 0 0] 27 (0, 0)) (zk BK311.out) hb); have n2_ := Aside0.mk (IsS102.below (by repeat (first | (with_reducible first | exact HI0.out | apply IsS102.alloc | apply IsS102.drewN | apply IsS102.drew | apply IsS102.set_1 | refine IsS102.far ?_ NB0_311.out _) | exact HI0.out)) hb); have n3_ := Aside0.mk (KeepBut.trans (by repeat (first | (with_reducible first | exact HK.out | apply KeepBut.set_ | apply keep_drewN | apply keep_drew | apply keep_alloc | refine keep_far ?_ GW311.out _) | exact HK.out)) (KeepBut.of_below hb g none) (.inl rfl)); have n4_ := Aside0.mk (below_step (by repeat (first | (with_reducible first | exact HB.out | apply below_alloc | apply pw_below_drewN | apply below_drew1 | refine below_set ?_ (IsS102.ge HI0.out) | refine below_set ?_ GE311.out) | exact HB.out)) hb); clear BK311; clear HI0; clear HK; clear HB; have HO333 := n0_; have BK311 := n1_; have HI0 := n2_; have HK := n3_; have HB := n4_; clear n0_ n1_ n2_ n3_ n4_; (try clear hb); (try clear hb2); (try clear hk); (try clear hi); (try clear ho0); obtain ⟨Ao32, co32, eo32⟩ := Kd.R_slice HO333.out; subst eo32) | ((with_reducible refine gate_callee (f := 44) rfl ?_); refine goesL_ (some 43) rfl rfl Tryd.func44 (by kernel_rfl) rfl #[.bool (t329 == 0), .slice Ao32 t331.length co32] rfl za ?_; (with_reducible refine (spec_l1Big.calls kj16 (t329 == 0) _ _ t331 t334 t335 t338 _ ?side1 ?side2 A28.out).mono ?_); (case side1 => repeat (first | exact (Kd.R_reads' HO333.out).2.2 | (with_reducible refine Kd.C_alloc ?_ _) | (with_reducible refine Kd.C_drewN ?_ _) | (with_reducible refine Kd.C_drew ?_))); (case side2 => exact (Kd.R_reads' HO333.out).2.1); rintro e w33 ⟨v336, rfl, ho0, hb⟩; refine ⟨_, rfl, ?_⟩; have n0_ := Aside0.mk (Kd.R_elder' (zR HO333.out) (Kd.R_base ho0) hb); have n1_ := Aside0.mk (Kd.R_lower (Kd.R_new' ho0 (Kd.R_lt (zR HO333.out))) (keep_size (w := w) (g := g) (row := none) (by repeat (first | (with_reducible first | exact HK.out | apply KeepBut.set_ | apply keep_drewN | apply keep_drew | apply keep_alloc | refine keep_far ?_ GW311.out _) | exact HK.out)))); have n2_ := Aside0.mk (blk_below (g := gb311) (o := .cells #[.bool false, .slice none 0 0] 27 (0, 0)) (zk BK311.out) hb); have n3_ := Aside0.mk (IsS102.below (by repeat (first | (with_reducible first | exact HI0.out | apply IsS102.alloc | apply IsS102.drewN | apply IsS102.drew | apply IsS102.set_1 | refine IsS102.far ?_ NB0_311.out _) | exact HI0.out)) hb); have n4_ := Aside0.mk (KeepBut.trans (by repeat (first | (with_reducible first | exact HK.out | apply KeepBut.set_ | apply keep_drewN | apply keep_drew | apply keep_alloc | refine keep_far ?_ GW311.out _) | exact HK.out)) (KeepBut.of_below hb g none) (.inl rfl)); have n5_ := Aside0.mk (below_step (by repeat (first | (with_reducible first | exact HB.out | apply below_alloc | apply pw_below_drewN | apply below_drew1 | refine below_set ?_ (IsS102.ge HI0.out) | refine below_set ?_ GE311.out) | exact HB.out)) hb); clear HO333; clear BK311; clear HI0; clear HK; clear HB; have HO333 := n0_; have HO337 := n1_; have BK311 := n2_; have HI0 := n3_; have HK := n4_; have HB := n5_; clear n0_ n1_ n2_ n3_ n4_ n5_; (try clear hb); (try clear hb2); (try clear hk); (try clear hi); (try clear ho0)) | ((with_reducible refine gate_dst (N := 7) rfl ?_); refine box_event ?hg (N := 7) ?hd (cs := #[.bool false, .slice none 0 0]) (t := 27) ?hr ?_; (case hd => rfl); (case hg => rfl); (case hr => first | (go_simp; done) | (go_simp; rfl)); intro gb339 hg w34 hbox hb; have n0_ := Aside0.mk (Kd.R_below (zR HO333.out) hb); have n1_ := Aside0.mk (Kd.R_below (zR HO337.out) hb); have n2_ := Aside0.mk (blk_below (g := gb311) (o := .cells #[.bool false, .slice none 0 0] 27 (0, 0)) (zk BK311.out) hb); have n3_ := Aside0.mk (IsS102.below (by repeat (first | (with_reducible first | exact HI0.out | apply IsS102.alloc | apply IsS102.drewN | apply IsS102.drew | apply IsS102.set_1 | refine IsS102.far ?_ NB0_311.out _) | exact HI0.out)) hb); have n4_ := Aside0.mk (KeepBut.trans (by repeat (first | (with_reducible first | exact HK.out | apply KeepBut.set_ | apply keep_drewN | apply keep_drew | apply keep_alloc | refine keep_far ?_ GW311.out _) | exact HK.out)) (KeepBut.of_below hb g none) (.inl rfl)); have n5_ := Aside0.mk (below_step (by repeat (first | (with_reducible first | exact HB.out | apply below_alloc | apply pw_below_drewN | apply below_drew1 | refine below_set ?_ (IsS102.ge HI0.out) | refine below_set ?_ GE311.out) | exact HB.out)) hb); have n6_ := Aside0.mk (hbox); have n7_ := Aside0.mk ((by rw [hg]; exact (keep_size (w := w) (g := g) (row := none) (by repeat (first | (with_reducible first | exact HK.out | apply KeepBut.set_ | apply keep_drewN | apply keep_drew | apply keep_alloc | refine keep_far ?_ GW311.out _) | exact HK.out))) : w.heap.size ≤ gb339)); have n8_ := Aside0.mk ((Nat.le_trans HW0.out (by rw [hg]; exact (keep_size (w := w) (g := g) (row := none) (by repeat (first | (with_reducible first | exact HK.out | apply KeepBut.set_ | apply keep_drewN | apply keep_drew | apply keep_alloc | refine keep_far ?_ GW311.out _) | exact HK.out))) : w.heap.size ≤ gb339) : w0.heap.size ≤ gb339)); have n9_ := Aside0.mk ((by rw [hg]; exact Nat.ne_of_lt (blk_lt (g := gb311) (o := .cells #[.bool false, .slice none 0 0] 27 (0, 0)) (zk BK311.out)) : gb311 ≠ gb339)); have n10_ := Aside0.mk ((by rw [hg]; exact Nat.ne_of_gt (blk_lt (g := gb311) (o := .cells #[.bool false, .slice none 0 0] 27 (0, 0)) (zk BK311.out)) : gb339 ≠ gb311)); have n11_ := Aside0.mk ((by rw [hg]; exact Nat.ne_of_lt (IsS102.lt (show IsS102 w0 _ g s0_0 t330 from by repeat (first | (with_reducible first | exact HI0.out | apply IsS102.alloc | apply IsS102.drewN | apply IsS102.drew | apply IsS102.set_1 | refine IsS102.far ?_ NB0_311.out _) | exact HI0.out))) : g ≠ gb339)); have n12_ := Aside0.mk ((by rw [hg]; exact Nat.ne_of_gt (IsS102.lt (show IsS102 w0 _ g s0_0 t330 from by repeat (first | (with_reducible first | exact HI0.out | apply IsS102.alloc | apply IsS102.drewN | apply IsS102.drew | apply IsS102.set_1 | refine IsS102.far ?_ NB0_311.out _) | exact HI0.out))) : gb339 ≠ g)); clear HO333; clear HO337; clear BK311; clear HI0; clear HK; clear HB; have HO333 := n0_; have HO337 := n1_; have BK311 := n2_; have HI0 := n3_; have HK := n4_; have HB := n5_; have BK339 := n6_; have GW339 := n7_; have GE339 := n8_; have NB311_339 := n9_; have NB339_311 := n10_; have NB0_339 := n11_; have NB339_0 := n12_; clear n0_ n1_ n2_ n3_ n4_ n5_ n6_ n7_ n8_ n9_ n10_ n11_ n12_; clear hb hbox hg; have hnb35 := NB339_311.out; have hnc35 := NB311_339.out; have hnb36 := NB339_0.out; have hnc36 := NB0_339.out; have hcz37_0 : w34.cell? ⟨gb339, 0, none⟩ = some (.bool false) := (blk_cell BK339.out 0).trans rfl; have hcz37_1 : w34.cell? ⟨gb339, 1, none⟩ = some (.slice none 0 0) := (blk_cell BK339.out 1).trans rfl; have hfz37_0 := blk_frozen BK339.out 0; have hfz37_1 := blk_frozen BK339.out 1; obtain ⟨Ao38, co38, eo38⟩ := Kd.R_slice HO337.out; subst eo38; have hnb39 := NB311_0.out; have hnc39 := NB0_311.out; have hcz40_0 : w34.cell? ⟨gb311, 0, none⟩ = some (.bool false) := (blk_cell BK311.out 0).trans rfl; have hcz40_1 : w34.cell? ⟨gb311, 1, none⟩ = some (.slice none 0 0) := (blk_cell BK311.out 1).trans rfl; have hfz40_0 := blk_frozen BK311.out 0; have hfz40_1 := blk_frozen BK311.out 1))
            refine bodyPost_ret (results_cell_row rfl _ _ gb311 27 #[.bool t334, .slice Ao38 t335.length co38] (0, 0) _ rfl (by (with_reducible repeat (first | refine blk_drewN ?_ _ | refine blk_drew ?_ | refine blk_alloc ?_ _)); refine blk_put (cs := #[.bool t334, .slice none 0 0]) ?_ 1 _ rfl; (with_reducible repeat (first | refine blk_drewN ?_ _ | refine blk_drew ?_ | refine blk_alloc ?_ _)); refine blk_put (cs := #[.bool false, .slice none 0 0]) ?_ 0 _ rfl; (with_reducible repeat (first | refine blk_drewN ?_ _ | refine blk_drew ?_ | refine blk_alloc ?_ _)); refine blk_far ?_ NB311_339.out _; (with_reducible repeat (first | refine blk_drewN ?_ _ | refine blk_drew ?_ | refine blk_alloc ?_ _)); refine blk_far ?_ NB311_339.out _; (with_reducible repeat (first | refine blk_drewN ?_ _ | refine blk_drew ?_ | refine blk_alloc ?_ _)); exact BK311.out) Tryd.underlying27 rfl (by kernel_rfl)) rfl ?_
            exact ⟨_, by first | rfl | (simp [errW_none, errW_some] <;> rfl) | (simp [*, errW_none, errW_some] <;> rfl), by (with_reducible repeat (first | apply Kd.R_alloc | apply Kd.R_drewN | apply Kd.R_drew)); exact Kd.R_mono (Kd.R_far (p := ⟨gb311, 1, none⟩) (Kd.R_far (p := ⟨gb311, 0, none⟩) (Kd.R_far (p := ⟨gb339, 1, none⟩) (Kd.R_far (p := ⟨gb339, 0, none⟩) (Kd.R_types (Kd.R_types HO337.out BK339.out (by decide)) BK311.out (by decide)) (fun _ hk => hk.1.2) (.bool t334)) (fun _ hk => hk.1.2) (.slice Ao38 t335.length co38)) (fun _ hk => hk.2) (.bool t334)) (fun _ hk => hk.2) (.slice Ao38 t335.length co38)) (fun _ hk => trivial), by repeat (first | (with_reducible first | exact HI0.out | apply IsS102.alloc | apply IsS102.drewN | apply IsS102.drew | apply IsS102.set_1 | refine IsS102.far ?_ NB0_311.out _ | refine IsS102.far ?_ NB0_339.out _) | exact HI0.out), by repeat (first | (with_reducible first | exact HB.out | apply below_alloc | apply pw_below_drewN | apply below_drew1 | refine below_set ?_ (IsS102.ge HI0.out) | refine below_set ?_ GE311.out | refine below_set ?_ GE339.out) | exact HB.out), by repeat (first | (with_reducible first | exact HK.out | apply KeepBut.set_ | apply keep_drewN | apply keep_drew | apply keep_alloc | refine keep_far ?_ GW311.out _ | refine keep_far ?_ GW339.out _) | exact HK.out)⟩
          · rw [if_neg c24] at H
            have c24b0 : (t326 == 0) = false := beq_eq_false_iff_ne.mpr c24
            have c24b1 : (t326 != 0) = true := bne_iff_ne.mpr c24
            replace H := Option.bind_eq_some_iff.mp H
            obtain ⟨⟨t340, t341⟩, A410, H⟩ := H
            replace H : ((spec_l1FromFigures.f kj16 x6_16).bind fun t342 => ((spec_l1Big.f kj16 (t340 == 0) t342).bind fun bt345 => (some (bt345.1, bt345.2.1, t341)))) = some (r1, r2, r3) := H
            have A41 := Aside0.mk A410
            clear A410
            replace H := Option.bind_eq_some_iff.mp H
            obtain ⟨t342, A420, H⟩ := H
            replace H : ((spec_l1Big.f kj16 (t340 == 0) t342).bind fun bt345 => (some (bt345.1, bt345.2.1, t341))) = some (r1, r2, r3) := H
            have A42 := Aside0.mk A420
            clear A420
            replace H := Option.bind_eq_some_iff.mp H
            obtain ⟨⟨t345, t346, t349⟩, A430, H⟩ := H
            replace H : (some (t345, t346, t341)) = some (r1, r2, r3) := H
            have A43 := Aside0.mk A430
            clear A430
            simp only [Option.some.injEq, Prod.mk.injEq] at H
            obtain ⟨rfl, rfl, rfl⟩ := H
            go_wp2_with (first | ((with_reducible refine gate_callee (f := 53) rfl ?_); refine goesL_ (some 33) rfl rfl Tryd.func53 (by kernel_rfl) rfl #[.pointer (some ⟨g, 0, none⟩), .int .i64 6] rfl za ?_; (with_reducible refine (spec_l1Rd_pick.calls kj16 g s0_0 t324 6 t326 t327 w0 _ ?side1 ?side2 A23.out).mono ?_); (case side1 => repeat (first | (with_reducible first | exact HI0.out | apply IsS102.alloc | apply IsS102.drewN | apply IsS102.drew | apply IsS102.set_1 | refine IsS102.far ?_ NB0_311.out _) | exact HI0.out)); (case side2 => repeat (first | (with_reducible first | exact HB.out | apply below_alloc | apply pw_below_drewN | apply below_drew1 | refine below_set ?_ (IsS102.ge HI0.out) | refine below_set ?_ GE311.out) | exact HB.out)); rintro e w44 ⟨rfl, hi, hb, hk⟩; refine ⟨_, rfl, ?_⟩; have n0_ := Aside0.mk (KeepBut.blk hk (g' := gb311) (o := .cells #[.bool false, .slice none 0 0] 27 (0, 0)) (zk BK311.out) NB311_0.out (by simp)); have n1_ := Aside0.mk (KeepBut.trans (by repeat (first | (with_reducible first | exact HK.out | apply KeepBut.set_ | apply keep_drewN | apply keep_drew | apply keep_alloc | refine keep_far ?_ GW311.out _) | exact HK.out)) hk (.inl rfl)); have n2_ := Aside0.mk (hb); have n3_ := Aside0.mk (hi); clear BK311; clear HK; clear HB; clear HI0; have BK311 := n0_; have HK := n1_; have HB := n2_; have HI0 := n3_; clear n0_ n1_ n2_ n3_; (try clear hb); (try clear hb2); (try clear hk); (try clear hi)) | ((with_reducible refine gate_callee (f := 53) rfl ?_); refine goesL_ (some 39) rfl rfl Tryd.func53 (by kernel_rfl) rfl #[.pointer (some ⟨g, 0, none⟩), .int .i64 3] rfl za ?_; (with_reducible refine (spec_l1Rd_pick.calls kj16 g s0_0 t327 3 t340 t341 w0 _ ?side1 ?side2 A41.out).mono ?_); (case side1 => repeat (first | (with_reducible first | exact HI0.out | apply IsS102.alloc | apply IsS102.drewN | apply IsS102.drew | apply IsS102.set_1 | refine IsS102.far ?_ NB0_311.out _) | exact HI0.out)); (case side2 => repeat (first | (with_reducible first | exact HB.out | apply below_alloc | apply pw_below_drewN | apply below_drew1 | refine below_set ?_ (IsS102.ge HI0.out) | refine below_set ?_ GE311.out) | exact HB.out)); rintro e w45 ⟨rfl, hi, hb, hk⟩; refine ⟨_, rfl, ?_⟩; have n0_ := Aside0.mk (KeepBut.blk hk (g' := gb311) (o := .cells #[.bool false, .slice none 0 0] 27 (0, 0)) (zk BK311.out) NB311_0.out (by simp)); have n1_ := Aside0.mk (KeepBut.trans (by repeat (first | (with_reducible first | exact HK.out | apply KeepBut.set_ | apply keep_drewN | apply keep_drew | apply keep_alloc | refine keep_far ?_ GW311.out _) | exact HK.out)) hk (.inl rfl)); have n2_ := Aside0.mk (hb); have n3_ := Aside0.mk (hi); clear BK311; clear HK; clear HB; clear HI0; have BK311 := n0_; have HK := n1_; have HB := n2_; have HI0 := n3_; clear n0_ n1_ n2_ n3_; (try clear hb); (try clear hb2); (try clear hk); (try clear hi)) | ((with_reducible refine gate_callee (f := 45) rfl ?_); refine goesL_ (some 42) rfl rfl Tryd.func45 (by kernel_rfl) rfl #[.string x6_16] rfl za ?_; (with_reducible refine (spec_l1FromFigures.calls kj16 x6_16 t342 _ A42.out).mono ?_); rintro e w46 ⟨v343, rfl, ho0, hb⟩; refine ⟨_, rfl, ?_⟩; have n0_ := Aside0.mk (Kd.R_lower ho0 (keep_size (w := w) (g := g) (row := none) (by repeat (first | (with_reducible first | exact HK.out | apply KeepBut.set_ | apply keep_drewN | apply keep_drew | apply keep_alloc | refine keep_far ?_ GW311.out _) | exact HK.out)))); have n1_ := Aside0.mk (blk_below (g := gb311) (o := .cells #[.bool false, .slice none 0 0] 27 (0, 0)) (zk BK311.out) hb); have n2_ := Aside0.mk (IsS102.below (by repeat (first | (with_reducible first | exact HI0.out | apply IsS102.alloc | apply IsS102.drewN | apply IsS102.drew | apply IsS102.set_1 | refine IsS102.far ?_ NB0_311.out _) | exact HI0.out)) hb); have n3_ := Aside0.mk (KeepBut.trans (by repeat (first | (with_reducible first | exact HK.out | apply KeepBut.set_ | apply keep_drewN | apply keep_drew | apply keep_alloc | refine keep_far ?_ GW311.out _) | exact HK.out)) (KeepBut.of_below hb g none) (.inl rfl)); have n4_ := Aside0.mk (below_step (by repeat (first | (with_reducible first | exact HB.out | apply below_alloc | apply pw_below_drewN | apply below_drew1 | refine below_set ?_ (IsS102.ge HI0.out) | refine below_set ?_ GE311.out) | exact HB.out)) hb); clear BK311; clear HI0; clear HK; clear HB; have HO344 := n0_; have BK311 := n1_; have HI0 := n2_; have HK := n3_; have HB := n4_; clear n0_ n1_ n2_ n3_ n4_; (try clear hb); (try clear hb2); (try clear hk); (try clear hi); (try clear ho0); obtain ⟨Ao47, co47, eo47⟩ := Kd.R_slice HO344.out; subst eo47) | ((with_reducible refine gate_callee (f := 44) rfl ?_); refine goesL_ (some 43) rfl rfl Tryd.func44 (by kernel_rfl) rfl #[.bool (t340 == 0), .slice Ao47 t342.length co47] rfl za ?_; (with_reducible refine (spec_l1Big.calls kj16 (t340 == 0) _ _ t342 t345 t346 t349 _ ?side1 ?side2 A43.out).mono ?_); (case side1 => repeat (first | exact (Kd.R_reads' HO344.out).2.2 | (with_reducible refine Kd.C_alloc ?_ _) | (with_reducible refine Kd.C_drewN ?_ _) | (with_reducible refine Kd.C_drew ?_))); (case side2 => exact (Kd.R_reads' HO344.out).2.1); rintro e w48 ⟨v347, rfl, ho0, hb⟩; refine ⟨_, rfl, ?_⟩; have n0_ := Aside0.mk (Kd.R_elder' (zR HO344.out) (Kd.R_base ho0) hb); have n1_ := Aside0.mk (Kd.R_lower (Kd.R_new' ho0 (Kd.R_lt (zR HO344.out))) (keep_size (w := w) (g := g) (row := none) (by repeat (first | (with_reducible first | exact HK.out | apply KeepBut.set_ | apply keep_drewN | apply keep_drew | apply keep_alloc | refine keep_far ?_ GW311.out _) | exact HK.out)))); have n2_ := Aside0.mk (blk_below (g := gb311) (o := .cells #[.bool false, .slice none 0 0] 27 (0, 0)) (zk BK311.out) hb); have n3_ := Aside0.mk (IsS102.below (by repeat (first | (with_reducible first | exact HI0.out | apply IsS102.alloc | apply IsS102.drewN | apply IsS102.drew | apply IsS102.set_1 | refine IsS102.far ?_ NB0_311.out _) | exact HI0.out)) hb); have n4_ := Aside0.mk (KeepBut.trans (by repeat (first | (with_reducible first | exact HK.out | apply KeepBut.set_ | apply keep_drewN | apply keep_drew | apply keep_alloc | refine keep_far ?_ GW311.out _) | exact HK.out)) (KeepBut.of_below hb g none) (.inl rfl)); have n5_ := Aside0.mk (below_step (by repeat (first | (with_reducible first | exact HB.out | apply below_alloc | apply pw_below_drewN | apply below_drew1 | refine below_set ?_ (IsS102.ge HI0.out) | refine below_set ?_ GE311.out) | exact HB.out)) hb); clear HO344; clear BK311; clear HI0; clear HK; clear HB; have HO344 := n0_; have HO348 := n1_; have BK311 := n2_; have HI0 := n3_; have HK := n4_; have HB := n5_; clear n0_ n1_ n2_ n3_ n4_ n5_; (try clear hb); (try clear hb2); (try clear hk); (try clear hi); (try clear ho0)) | ((with_reducible refine gate_dst (N := 7) rfl ?_); refine box_event ?hg (N := 7) ?hd (cs := #[.bool false, .slice none 0 0]) (t := 27) ?hr ?_; (case hd => rfl); (case hg => rfl); (case hr => first | (go_simp; done) | (go_simp; rfl)); intro gb350 hg w49 hbox hb; have n0_ := Aside0.mk (Kd.R_below (zR HO344.out) hb); have n1_ := Aside0.mk (Kd.R_below (zR HO348.out) hb); have n2_ := Aside0.mk (blk_below (g := gb311) (o := .cells #[.bool false, .slice none 0 0] 27 (0, 0)) (zk BK311.out) hb); have n3_ := Aside0.mk (IsS102.below (by repeat (first | (with_reducible first | exact HI0.out | apply IsS102.alloc | apply IsS102.drewN | apply IsS102.drew | apply IsS102.set_1 | refine IsS102.far ?_ NB0_311.out _) | exact HI0.out)) hb); have n4_ := Aside0.mk (KeepBut.trans (by repeat (first | (with_reducible first | exact HK.out | apply KeepBut.set_ | apply keep_drewN | apply keep_drew | apply keep_alloc | refine keep_far ?_ GW311.out _) | exact HK.out)) (KeepBut.of_below hb g none) (.inl rfl)); have n5_ := Aside0.mk (below_step (by repeat (first | (with_reducible first | exact HB.out | apply below_alloc | apply pw_below_drewN | apply below_drew1 | refine below_set ?_ (IsS102.ge HI0.out) | refine below_set ?_ GE311.out) | exact HB.out)) hb); have n6_ := Aside0.mk (hbox); have n7_ := Aside0.mk ((by rw [hg]; exact (keep_size (w := w) (g := g) (row := none) (by repeat (first | (with_reducible first | exact HK.out | apply KeepBut.set_ | apply keep_drewN | apply keep_drew | apply keep_alloc | refine keep_far ?_ GW311.out _) | exact HK.out))) : w.heap.size ≤ gb350)); have n8_ := Aside0.mk ((Nat.le_trans HW0.out (by rw [hg]; exact (keep_size (w := w) (g := g) (row := none) (by repeat (first | (with_reducible first | exact HK.out | apply KeepBut.set_ | apply keep_drewN | apply keep_drew | apply keep_alloc | refine keep_far ?_ GW311.out _) | exact HK.out))) : w.heap.size ≤ gb350) : w0.heap.size ≤ gb350)); have n9_ := Aside0.mk ((by rw [hg]; exact Nat.ne_of_lt (blk_lt (g := gb311) (o := .cells #[.bool false, .slice none 0 0] 27 (0, 0)) (zk BK311.out)) : gb311 ≠ gb350)); have n10_ := Aside0.mk ((by rw [hg]; exact Nat.ne_of_gt (blk_lt (g := gb311) (o := .cells #[.bool false, .slice none 0 0] 27 (0, 0)) (zk BK311.out)) : gb350 ≠ gb311)); have n11_ := Aside0.mk ((by rw [hg]; exact Nat.ne_of_lt (IsS102.lt (show IsS102 w0 _ g s0_0 t341 from by repeat (first | (with_reducible first | exact HI0.out | apply IsS102.alloc | apply IsS102.drewN | apply IsS102.drew | apply IsS102.set_1 | refine IsS102.far ?_ NB0_311.out _) | exact HI0.out))) : g ≠ gb350)); have n12_ := Aside0.mk ((by rw [hg]; exact Nat.ne_of_gt (IsS102.lt (show IsS102 w0 _ g s0_0 t341 from by repeat (first | (with_reducible first | exact HI0.out | apply IsS102.alloc | apply IsS102.drewN | apply IsS102.drew | apply IsS102.set_1 | refine IsS102.far ?_ NB0_311.out _) | exact HI0.out))) : gb350 ≠ g)); clear HO344; clear HO348; clear BK311; clear HI0; clear HK; clear HB; have HO344 := n0_; have HO348 := n1_; have BK311 := n2_; have HI0 := n3_; have HK := n4_; have HB := n5_; have BK350 := n6_; have GW350 := n7_; have GE350 := n8_; have NB311_350 := n9_; have NB350_311 := n10_; have NB0_350 := n11_; have NB350_0 := n12_; clear n0_ n1_ n2_ n3_ n4_ n5_ n6_ n7_ n8_ n9_ n10_ n11_ n12_; clear hb hbox hg; have hnb50 := NB350_311.out; have hnc50 := NB311_350.out; have hnb51 := NB350_0.out; have hnc51 := NB0_350.out; have hcz52_0 : w49.cell? ⟨gb350, 0, none⟩ = some (.bool false) := (blk_cell BK350.out 0).trans rfl; have hcz52_1 : w49.cell? ⟨gb350, 1, none⟩ = some (.slice none 0 0) := (blk_cell BK350.out 1).trans rfl; have hfz52_0 := blk_frozen BK350.out 0; have hfz52_1 := blk_frozen BK350.out 1; obtain ⟨Ao53, co53, eo53⟩ := Kd.R_slice HO348.out; subst eo53; have hnb54 := NB311_0.out; have hnc54 := NB0_311.out; have hcz55_0 : w49.cell? ⟨gb311, 0, none⟩ = some (.bool false) := (blk_cell BK311.out 0).trans rfl; have hcz55_1 : w49.cell? ⟨gb311, 1, none⟩ = some (.slice none 0 0) := (blk_cell BK311.out 1).trans rfl; have hfz55_0 := blk_frozen BK311.out 0; have hfz55_1 := blk_frozen BK311.out 1))
            refine bodyPost_ret (results_cell_row rfl _ _ gb311 27 #[.bool t345, .slice Ao53 t346.length co53] (0, 0) _ rfl (by (with_reducible repeat (first | refine blk_drewN ?_ _ | refine blk_drew ?_ | refine blk_alloc ?_ _)); refine blk_put (cs := #[.bool t345, .slice none 0 0]) ?_ 1 _ rfl; (with_reducible repeat (first | refine blk_drewN ?_ _ | refine blk_drew ?_ | refine blk_alloc ?_ _)); refine blk_put (cs := #[.bool false, .slice none 0 0]) ?_ 0 _ rfl; (with_reducible repeat (first | refine blk_drewN ?_ _ | refine blk_drew ?_ | refine blk_alloc ?_ _)); refine blk_far ?_ NB311_350.out _; (with_reducible repeat (first | refine blk_drewN ?_ _ | refine blk_drew ?_ | refine blk_alloc ?_ _)); refine blk_far ?_ NB311_350.out _; (with_reducible repeat (first | refine blk_drewN ?_ _ | refine blk_drew ?_ | refine blk_alloc ?_ _)); exact BK311.out) Tryd.underlying27 rfl (by kernel_rfl)) rfl ?_
            exact ⟨_, by first | rfl | (simp [errW_none, errW_some] <;> rfl) | (simp [*, errW_none, errW_some] <;> rfl), by (with_reducible repeat (first | apply Kd.R_alloc | apply Kd.R_drewN | apply Kd.R_drew)); exact Kd.R_mono (Kd.R_far (p := ⟨gb311, 1, none⟩) (Kd.R_far (p := ⟨gb311, 0, none⟩) (Kd.R_far (p := ⟨gb350, 1, none⟩) (Kd.R_far (p := ⟨gb350, 0, none⟩) (Kd.R_types (Kd.R_types HO348.out BK350.out (by decide)) BK311.out (by decide)) (fun _ hk => hk.1.2) (.bool t345)) (fun _ hk => hk.1.2) (.slice Ao53 t346.length co53)) (fun _ hk => hk.2) (.bool t345)) (fun _ hk => hk.2) (.slice Ao53 t346.length co53)) (fun _ hk => trivial), by repeat (first | (with_reducible first | exact HI0.out | apply IsS102.alloc | apply IsS102.drewN | apply IsS102.drew | apply IsS102.set_1 | refine IsS102.far ?_ NB0_311.out _ | refine IsS102.far ?_ NB0_350.out _) | exact HI0.out), by repeat (first | (with_reducible first | exact HB.out | apply below_alloc | apply pw_below_drewN | apply below_drew1 | refine below_set ?_ (IsS102.ge HI0.out) | refine below_set ?_ GE311.out | refine below_set ?_ GE350.out) | exact HB.out), by repeat (first | (with_reducible first | exact HK.out | apply KeepBut.set_ | apply keep_drewN | apply keep_drew | apply keep_alloc | refine keep_far ?_ GW311.out _ | refine keep_far ?_ GW350.out _) | exact HK.out)⟩
def spec_DrawBigGet.f (k : Nat) (l0 : List Int) : Option (ByteArray) := (spec_l1Open.f l0).bind fun bt351 => ((spec_l1Rd_pick.f k bt351.1 bt351.2 12).bind fun bt354 => (if bt354.1 = 0 then ((spec_l1Many.f k (⟨#[57]⟩ : ByteArray) 64).bind fun t356 => ((spec_l1Many.f k (⟨#[57]⟩ : ByteArray) 65).bind fun t357 => ((spec_l1Rd_of.f k bt351.1 bt354.2 (([(⟨#[]⟩ : ByteArray), (⟨#[45]⟩ : ByteArray), (⟨#[45, 48]⟩ : ByteArray), (⟨#[48, 48]⟩ : ByteArray), (⟨#[48, 49]⟩ : ByteArray), t356, t357] : List ByteArray))).bind fun bt361 => (some bt361.1)))) else ((spec_l14Big.f k bt351.1 bt354.2 64).bind fun bt363 => ((spec_l1Put.f k bt363.1 bt363.2.1).bind fun t368 => ((spec_l14Bent.f k bt351.1 bt363.2.2 t368).bind fun bt369 => (some bt369.1))))))
set_option maxHeartbeats 8000000 in
set_option maxRecDepth 100000 in
theorem spec_DrawBigGet.calls (k : Nat) (A0 : Option Addr) (c0 : Nat) (l0 : List Int) (r : ByteArray) (w : World) (hr0 : Kd.C (Kd.int .u8) w A0 l0.length l0) (hc0 : l0.length ≤ c0) (h : spec_DrawBigGet.f k l0 = some r) :
    Calls Tryd.prog 25 #[.slice A0 l0.length c0] w fun e w' => e = .returned (.string r) ∧ Below w.heap.size w w' := by
  have HR0 := Aside0.mk hr0
  have HC0 := Aside0.mk hc0
  clear hr0 hc0
  have HB := Aside0.mk (Below.refl w.heap.size w)
  have H : ((spec_l1Open.f l0).bind fun bt351 => ((spec_l1Rd_pick.f k bt351.1 bt351.2 12).bind fun bt354 => (if bt354.1 = 0 then ((spec_l1Many.f k (⟨#[57]⟩ : ByteArray) 64).bind fun t356 => ((spec_l1Many.f k (⟨#[57]⟩ : ByteArray) 65).bind fun t357 => ((spec_l1Rd_of.f k bt351.1 bt354.2 (([(⟨#[]⟩ : ByteArray), (⟨#[45]⟩ : ByteArray), (⟨#[45, 48]⟩ : ByteArray), (⟨#[48, 48]⟩ : ByteArray), (⟨#[48, 49]⟩ : ByteArray), t356, t357] : List ByteArray))).bind fun bt361 => (some bt361.1)))) else ((spec_l14Big.f k bt351.1 bt354.2 64).bind fun bt363 => ((spec_l1Put.f k bt363.1 bt363.2.1).bind fun t368 => ((spec_l14Bent.f k bt351.1 bt363.2.2 t368).bind fun bt369 => (some bt369.1))))))) = some r := h
  clear h
  replace H := Option.bind_eq_some_iff.mp H
  obtain ⟨⟨t351, t352⟩, A20, H⟩ := H
  replace H : ((spec_l1Rd_pick.f k t351 t352 12).bind fun bt354 => (if bt354.1 = 0 then ((spec_l1Many.f k (⟨#[57]⟩ : ByteArray) 64).bind fun t356 => ((spec_l1Many.f k (⟨#[57]⟩ : ByteArray) 65).bind fun t357 => ((spec_l1Rd_of.f k t351 bt354.2 (([(⟨#[]⟩ : ByteArray), (⟨#[45]⟩ : ByteArray), (⟨#[45, 48]⟩ : ByteArray), (⟨#[48, 48]⟩ : ByteArray), (⟨#[48, 49]⟩ : ByteArray), t356, t357] : List ByteArray))).bind fun bt361 => (some bt361.1)))) else ((spec_l14Big.f k t351 bt354.2 64).bind fun bt363 => ((spec_l1Put.f k bt363.1 bt363.2.1).bind fun t368 => ((spec_l14Bent.f k t351 bt363.2.2 t368).bind fun bt369 => (some bt369.1)))))) = some r := H
  have A2 := Aside0.mk A20
  clear A20
  replace H := Option.bind_eq_some_iff.mp H
  obtain ⟨⟨t354, t355⟩, A30, H⟩ := H
  replace H : (if t354 = 0 then ((spec_l1Many.f k (⟨#[57]⟩ : ByteArray) 64).bind fun t356 => ((spec_l1Many.f k (⟨#[57]⟩ : ByteArray) 65).bind fun t357 => ((spec_l1Rd_of.f k t351 t355 (([(⟨#[]⟩ : ByteArray), (⟨#[45]⟩ : ByteArray), (⟨#[45, 48]⟩ : ByteArray), (⟨#[48, 48]⟩ : ByteArray), (⟨#[48, 49]⟩ : ByteArray), t356, t357] : List ByteArray))).bind fun bt361 => (some bt361.1)))) else ((spec_l14Big.f k t351 t355 64).bind fun bt363 => ((spec_l1Put.f k bt363.1 bt363.2.1).bind fun t368 => ((spec_l14Bent.f k t351 bt363.2.2 t368).bind fun bt369 => (some bt369.1))))) = some r := H
  have A3 := Aside0.mk A30
  clear A30
  by_cases c4 : t354 = 0
  · rw [if_pos c4] at H
    have c4b0 : (t354 == 0) = true := beq_iff_eq.mpr c4
    have c4b1 : (t354 != 0) = false := bne_eq_false_iff_eq.mpr c4
    clear c4
    replace H := Option.bind_eq_some_iff.mp H
    obtain ⟨t356, A50, H⟩ := H
    replace H : ((spec_l1Many.f k (⟨#[57]⟩ : ByteArray) 65).bind fun t357 => ((spec_l1Rd_of.f k t351 t355 (([(⟨#[]⟩ : ByteArray), (⟨#[45]⟩ : ByteArray), (⟨#[45, 48]⟩ : ByteArray), (⟨#[48, 48]⟩ : ByteArray), (⟨#[48, 49]⟩ : ByteArray), t356, t357] : List ByteArray))).bind fun bt361 => (some bt361.1))) = some r := H
    have A5 := Aside0.mk A50
    clear A50
    replace H := Option.bind_eq_some_iff.mp H
    obtain ⟨t357, A60, H⟩ := H
    replace H : ((spec_l1Rd_of.f k t351 t355 (([(⟨#[]⟩ : ByteArray), (⟨#[45]⟩ : ByteArray), (⟨#[45, 48]⟩ : ByteArray), (⟨#[48, 48]⟩ : ByteArray), (⟨#[48, 49]⟩ : ByteArray), t356, t357] : List ByteArray))).bind fun bt361 => (some bt361.1)) = some r := H
    have A6 := Aside0.mk A60
    clear A60
    obtain ⟨y358, hy358⟩ : ∃ y_ : List ByteArray, y_ = (([(⟨#[]⟩ : ByteArray), (⟨#[45]⟩ : ByteArray), (⟨#[45, 48]⟩ : ByteArray), (⟨#[48, 48]⟩ : ByteArray), (⟨#[48, 49]⟩ : ByteArray), t356, t357] : List ByteArray)) := ⟨_, rfl⟩
    replace H : ((spec_l1Rd_of.f k t351 t355 y358).bind fun bt361 => (some bt361.1)) = some r := by first | (rw [hy358]; with_reducible exact H) | (have H2_ := (Option.bind_some _ _).symm.trans H; rw [hy358]; with_reducible exact H2_) | (have H2_ := (Option.bind_some _ _).symm.trans H; with_reducible exact H2_) | with_reducible exact H | (rw [hy358]; exact H) | exact H
    have Ny358 := Aside0.mk hy358
    clear hy358
    replace H := Option.bind_eq_some_iff.mp H
    obtain ⟨⟨t361, t362⟩, A70, H⟩ := H
    replace H : (some t361) = some r := H
    have A7 := Aside0.mk A70
    clear A70
    obtain rfl := Option.some.inj H
    go_enter Tryd.func25, Tryd.ntmps25
    go_wp2_with (first | ((with_reducible refine gate_callee (f := 52) rfl ?_); refine goesL_ (some 5) rfl rfl Tryd.func52 (by kernel_rfl) rfl #[.slice A0 l0.length c0] rfl za ?_; (with_reducible refine (spec_l1Open.calls _ _ l0 t351 t352 w _ ?side1 ?side2 ?side3 A2.out).mono ?_); (case side1 => repeat (first | (with_reducible first | exact HB.out | apply below_alloc | apply pw_below_drewN | apply below_drew1) | exact HB.out)); (case side2 => exact HR0.out); (case side3 => exact HC0.out); rintro e w8 ⟨g353, rfl, hi, hb, hb2⟩; refine ⟨_, rfl, ?_⟩; have n0_ := Aside0.mk (hb); have n1_ := Aside0.mk (hi); clear HB; have HB := n0_; have HI353 := n1_; clear n0_ n1_; (try clear hb); (try clear hb2); (try clear hk); (try clear hi)) | ((with_reducible refine gate_callee (f := 53) rfl ?_); refine goesL_ (some 7) rfl rfl Tryd.func53 (by kernel_rfl) rfl #[.pointer (some ⟨g353, 0, none⟩), .int .i64 12] rfl za ?_; (with_reducible refine (spec_l1Rd_pick.calls k g353 t351 t352 12 t354 t355 w _ ?side1 ?side2 A3.out).mono ?_); (case side1 => repeat (first | (with_reducible first | exact HI353.out | apply IsS102.alloc | apply IsS102.drewN | apply IsS102.drew | apply IsS102.set_1) | exact HI353.out)); (case side2 => repeat (first | (with_reducible first | exact HB.out | apply below_alloc | apply pw_below_drewN | apply below_drew1 | refine below_set ?_ (IsS102.ge HI353.out)) | exact HB.out)); rintro e w9 ⟨rfl, hi, hb, hk⟩; refine ⟨_, rfl, ?_⟩; have n0_ := Aside0.mk (hb); have n1_ := Aside0.mk (hi); clear HB; clear HI353; have HB := n0_; have HI353 := n1_; clear n0_ n1_; (try clear hb); (try clear hb2); (try clear hk); (try clear hi)) | ((with_reducible refine gate_callee (f := 55) rfl ?_); refine goesL_ (some 10) rfl rfl Tryd.func55 (by kernel_rfl) rfl #[.string (⟨#[57]⟩ : ByteArray), .int .i64 64] rfl za ?_; (with_reducible refine (spec_l1Many.calls k (⟨#[57]⟩ : ByteArray) 64 t356 _ A5.out).mono ?_); rintro e w' ⟨rfl, ⟨nd, rfl⟩⟩; refine ⟨_, rfl, ?_⟩) | ((with_reducible refine gate_callee (f := 55) rfl ?_); refine goesL_ (some 11) rfl rfl Tryd.func55 (by kernel_rfl) rfl #[.string (⟨#[57]⟩ : ByteArray), .int .i64 65] rfl za ?_; (with_reducible refine (spec_l1Many.calls k (⟨#[57]⟩ : ByteArray) 65 t357 _ A6.out).mono ?_); rintro e w' ⟨rfl, ⟨nd, rfl⟩⟩; refine ⟨_, rfl, ?_⟩) | ((with_reducible refine gate_dst (N := 12) rfl ?_); refine Kd.R_lit Kd.string _ 9 ?hg (N := 12) ?hd (xs := ([(⟨#[]⟩ : ByteArray), (⟨#[45]⟩ : ByteArray), (⟨#[45, 48]⟩ : ByteArray), (⟨#[48, 48]⟩ : ByteArray), (⟨#[48, 49]⟩ : ByteArray), t356, t357] : List ByteArray)) (inner := [.string (⟨#[]⟩ : ByteArray), .string (⟨#[45]⟩ : ByteArray), .string (⟨#[45, 48]⟩ : ByteArray), .string (⟨#[48, 48]⟩ : ByteArray), .string (⟨#[48, 49]⟩ : ByteArray), .string t356, .string t357]) (ok := fun _ => True) (okp := fun _ => True) ?hr ?hp (fun _ hk => hk) trivial (Below.refl _ _) (Nat.le_refl _) (by simp) ?_; (case hd => rfl); (case hg => rfl); (case hr => first | (go_simp; done) | (go_simp; rfl)); (case hp => exact (Reps.one (show Kd.M Kd.string _ _ _ (⟨#[]⟩ : ByteArray) [.string (⟨#[]⟩ : ByteArray)] from rfl) (Reps.one (show Kd.M Kd.string _ _ _ (⟨#[45]⟩ : ByteArray) [.string (⟨#[45]⟩ : ByteArray)] from rfl) (Reps.one (show Kd.M Kd.string _ _ _ (⟨#[45, 48]⟩ : ByteArray) [.string (⟨#[45, 48]⟩ : ByteArray)] from rfl) (Reps.one (show Kd.M Kd.string _ _ _ (⟨#[48, 48]⟩ : ByteArray) [.string (⟨#[48, 48]⟩ : ByteArray)] from rfl) (Reps.one (show Kd.M Kd.string _ _ _ (⟨#[48, 49]⟩ : ByteArray) [.string (⟨#[48, 49]⟩ : ByteArray)] from rfl) (Reps.one (show Kd.M Kd.string _ _ _ t356 [.string t356] from rfl) (Reps.one (show Kd.M Kd.string _ _ _ t357 [.string t357] from rfl) (Reps.none _ _))))))))); intro v359 w10 ho11 hb hg_ hnew_; clear hg_ hnew_; (first | rw [← Ny358.out] at ho11 | (simp only [Int.reduceToNat] at ho11; rw [← Ny358.out] at ho11)); have n0_ := Aside0.mk (Kd.R_lower ho11 (below_size (by repeat (first | (with_reducible first | exact HB.out | apply below_alloc | apply pw_below_drewN | apply below_drew1 | refine below_set ?_ (IsS102.ge HI353.out)) | exact HB.out)))); have n1_ := Aside0.mk (IsS102.below (by repeat (first | (with_reducible first | exact HI353.out | apply IsS102.alloc | apply IsS102.drewN | apply IsS102.drew | apply IsS102.set_1) | exact HI353.out)) hb); have n2_ := Aside0.mk (below_step (by repeat (first | (with_reducible first | exact HB.out | apply below_alloc | apply pw_below_drewN | apply below_drew1 | refine below_set ?_ (IsS102.ge HI353.out)) | exact HB.out)) hb); clear HI353; clear HB; have HO360 := n0_; have HI353 := n1_; have HB := n2_; clear n0_ n1_ n2_; clear hb ho11; obtain ⟨Ao12, co12, eo12⟩ := Kd.R_slice HO360.out; subst eo12) | ((with_reducible refine gate_callee (f := 54) rfl ?_); refine goesL_ (some 13) rfl rfl Tryd.func54 (by kernel_rfl) rfl #[.pointer (some ⟨g353, 0, none⟩), .slice Ao12 y358.length co12] rfl za ?_; (with_reducible refine (spec_l1Rd_of.calls k g353 t351 t355 _ _ y358 t361 t362 w _ ?side1 ?side2 ?side3 ?side4 ?side5 A7.out).mono ?_); (case side1 => repeat (first | (with_reducible first | exact HI353.out | apply IsS102.alloc | apply IsS102.drewN | apply IsS102.drew | apply IsS102.set_1) | exact HI353.out)); (case side2 => repeat (first | (with_reducible first | exact HB.out | apply below_alloc | apply pw_below_drewN | apply below_drew1 | refine below_set ?_ (IsS102.ge HI353.out)) | exact HB.out)); (case side3 => repeat (first | exact (Kd.R_reads' HO360.out).2.2 | (with_reducible refine Kd.C_alloc ?_ _) | (with_reducible refine Kd.C_drewN ?_ _) | (with_reducible refine Kd.C_drew ?_))); (case side4 => exact (Kd.R_reads' HO360.out).2.1); (case side5 => exact far_slice (IsS102.own_ne HI353.out HO360.out (by decide))); rintro e w13 ⟨rfl, hi, hb, hk⟩; refine ⟨_, rfl, ?_⟩; have n0_ := Aside0.mk (Kd.R_mono (Kd.R_keep (IsS102.apart (show IsS102 w _ g353 t351 t355 from by repeat (first | (with_reducible first | exact HI353.out | apply IsS102.alloc | apply IsS102.drewN | apply IsS102.drew | apply IsS102.set_1) | exact HI353.out)) (zR HO360.out) (by decide)) hk (fun _ h => h.2)) (fun _ h => h.1)); have n1_ := Aside0.mk (hb); have n2_ := Aside0.mk (hi); clear HO360; clear HB; clear HI353; have HO360 := n0_; have HB := n1_; have HI353 := n2_; clear n0_ n1_ n2_; (try clear hb); (try clear hb2); (try clear hk); (try clear hi)))
    go_ret
    exact ⟨by first | rfl | (simp [errW_none, errW_some] <;> rfl) | (simp [*, errW_none, errW_some] <;> rfl), by repeat (first | (with_reducible first | exact HB.out | apply below_alloc | apply pw_below_drewN | apply below_drew1 | refine below_set ?_ (IsS102.ge HI353.out)) | exact HB.out)⟩
  · rw [if_neg c4] at H
    have c4b0 : (t354 == 0) = false := beq_eq_false_iff_ne.mpr c4
    have c4b1 : (t354 != 0) = true := bne_iff_ne.mpr c4
    replace H := Option.bind_eq_some_iff.mp H
    obtain ⟨⟨t363, t364, t367⟩, A140, H⟩ := H
    replace H : ((spec_l1Put.f k t363 t364).bind fun t368 => ((spec_l14Bent.f k t351 t367 t368).bind fun bt369 => (some bt369.1))) = some r := H
    have A14 := Aside0.mk A140
    clear A140
    replace H := Option.bind_eq_some_iff.mp H
    obtain ⟨t368, A150, H⟩ := H
    replace H : ((spec_l14Bent.f k t351 t367 t368).bind fun bt369 => (some bt369.1)) = some r := H
    have A15 := Aside0.mk A150
    clear A150
    replace H := Option.bind_eq_some_iff.mp H
    obtain ⟨⟨t369, t370⟩, A160, H⟩ := H
    replace H : (some t369) = some r := H
    have A16 := Aside0.mk A160
    clear A160
    obtain rfl := Option.some.inj H
    go_enter Tryd.func25, Tryd.ntmps25
    go_wp2_with (first | ((with_reducible refine gate_callee (f := 52) rfl ?_); refine goesL_ (some 5) rfl rfl Tryd.func52 (by kernel_rfl) rfl #[.slice A0 l0.length c0] rfl za ?_; (with_reducible refine (spec_l1Open.calls _ _ l0 t351 t352 w _ ?side1 ?side2 ?side3 A2.out).mono ?_); (case side1 => repeat (first | (with_reducible first | exact HB.out | apply below_alloc | apply pw_below_drewN | apply below_drew1) | exact HB.out)); (case side2 => exact HR0.out); (case side3 => exact HC0.out); rintro e w17 ⟨g353, rfl, hi, hb, hb2⟩; refine ⟨_, rfl, ?_⟩; have n0_ := Aside0.mk (hb); have n1_ := Aside0.mk (hi); clear HB; have HB := n0_; have HI353 := n1_; clear n0_ n1_; (try clear hb); (try clear hb2); (try clear hk); (try clear hi)) | ((with_reducible refine gate_callee (f := 53) rfl ?_); refine goesL_ (some 7) rfl rfl Tryd.func53 (by kernel_rfl) rfl #[.pointer (some ⟨g353, 0, none⟩), .int .i64 12] rfl za ?_; (with_reducible refine (spec_l1Rd_pick.calls k g353 t351 t352 12 t354 t355 w _ ?side1 ?side2 A3.out).mono ?_); (case side1 => repeat (first | (with_reducible first | exact HI353.out | apply IsS102.alloc | apply IsS102.drewN | apply IsS102.drew | apply IsS102.set_1) | exact HI353.out)); (case side2 => repeat (first | (with_reducible first | exact HB.out | apply below_alloc | apply pw_below_drewN | apply below_drew1 | refine below_set ?_ (IsS102.ge HI353.out)) | exact HB.out)); rintro e w18 ⟨rfl, hi, hb, hk⟩; refine ⟨_, rfl, ?_⟩; have n0_ := Aside0.mk (hb); have n1_ := Aside0.mk (hi); clear HB; clear HI353; have HB := n0_; have HI353 := n1_; clear n0_ n1_; (try clear hb); (try clear hb2); (try clear hk); (try clear hi)) | ((with_reducible refine gate_callee (f := 57) rfl ?_); refine goesL_ (some 16) rfl rfl Tryd.func57 (by kernel_rfl) rfl #[.pointer (some ⟨g353, 0, none⟩), .int .i64 64] rfl za ?_; (with_reducible refine (spec_l14Big.calls k g353 t351 t355 64 t363 t364 t367 w _ ?side1 ?side2 A14.out).mono ?_); (case side1 => repeat (first | (with_reducible first | exact HI353.out | apply IsS102.alloc | apply IsS102.drewN | apply IsS102.drew | apply IsS102.set_1) | exact HI353.out)); (case side2 => repeat (first | (with_reducible first | exact HB.out | apply below_alloc | apply pw_below_drewN | apply below_drew1 | refine below_set ?_ (IsS102.ge HI353.out)) | exact HB.out)); rintro e w19 ⟨v365, rfl, ho0, hi, hb, hk⟩; refine ⟨_, rfl, ?_⟩; have n0_ := Aside0.mk (Kd.R_lower ho0 (below_size (by repeat (first | (with_reducible first | exact HB.out | apply below_alloc | apply pw_below_drewN | apply below_drew1 | refine below_set ?_ (IsS102.ge HI353.out)) | exact HB.out)))); have n1_ := Aside0.mk (hb); have n2_ := Aside0.mk (hi); clear HB; clear HI353; have HO366 := n0_; have HB := n1_; have HI353 := n2_; clear n0_ n1_ n2_; (try clear hb); (try clear hb2); (try clear hk); (try clear hi); (try clear ho0); obtain ⟨Ao20, co20, eo20⟩ := Kd.R_slice HO366.out; subst eo20) | ((with_reducible refine gate_callee (f := 34) rfl ?_); refine goesL_ (some 17) rfl rfl Tryd.func34 (by kernel_rfl) rfl #[.agg #[.bool t363, .slice Ao20 t364.length co20]] rfl za ?_; (with_reducible refine (spec_l1Put.calls k t363 _ _ t364 t368 _ ?side1 ?side2 A15.out).mono ?_); (case side1 => repeat (first | exact (Kd.R_reads' HO366.out).2.2 | (with_reducible refine Kd.C_alloc ?_ _) | (with_reducible refine Kd.C_drewN ?_ _) | (with_reducible refine Kd.C_drew ?_))); (case side2 => exact (Kd.R_reads' HO366.out).2.1); rintro e w21 ⟨rfl, hb⟩; refine ⟨_, rfl, ?_⟩; have n0_ := Aside0.mk (Kd.R_below (zR HO366.out) hb); have n1_ := Aside0.mk (IsS102.below (by repeat (first | (with_reducible first | exact HI353.out | apply IsS102.alloc | apply IsS102.drewN | apply IsS102.drew | apply IsS102.set_1) | exact HI353.out)) hb); have n2_ := Aside0.mk (below_step (by repeat (first | (with_reducible first | exact HB.out | apply below_alloc | apply pw_below_drewN | apply below_drew1 | refine below_set ?_ (IsS102.ge HI353.out)) | exact HB.out)) hb); clear HO366; clear HI353; clear HB; have HO366 := n0_; have HI353 := n1_; have HB := n2_; clear n0_ n1_ n2_; (try clear hb); (try clear hb2); (try clear hk); (try clear hi)) | ((with_reducible refine gate_callee (f := 56) rfl ?_); refine goesL_ (some 18) rfl rfl Tryd.func56 (by kernel_rfl) rfl #[.pointer (some ⟨g353, 0, none⟩), .string t368] rfl za ?_; (with_reducible refine (spec_l14Bent.calls k g353 t351 t367 t368 t369 t370 w _ ?side1 ?side2 A16.out).mono ?_); (case side1 => repeat (first | (with_reducible first | exact HI353.out | apply IsS102.alloc | apply IsS102.drewN | apply IsS102.drew | apply IsS102.set_1) | exact HI353.out)); (case side2 => repeat (first | (with_reducible first | exact HB.out | apply below_alloc | apply pw_below_drewN | apply below_drew1 | refine below_set ?_ (IsS102.ge HI353.out)) | exact HB.out)); rintro e w22 ⟨rfl, hi, hb, hk⟩; refine ⟨_, rfl, ?_⟩; have n0_ := Aside0.mk (Kd.R_mono (Kd.R_keep (IsS102.apart (show IsS102 w _ g353 t351 t367 from by repeat (first | (with_reducible first | exact HI353.out | apply IsS102.alloc | apply IsS102.drewN | apply IsS102.drew | apply IsS102.set_1) | exact HI353.out)) (zR HO366.out) (by decide)) hk (fun _ h => h.2)) (fun _ h => h.1)); have n1_ := Aside0.mk (hb); have n2_ := Aside0.mk (hi); clear HO366; clear HB; clear HI353; have HO366 := n0_; have HB := n1_; have HI353 := n2_; clear n0_ n1_ n2_; (try clear hb); (try clear hb2); (try clear hk); (try clear hi)))
    go_ret
    exact ⟨by first | rfl | (simp [errW_none, errW_some] <;> rfl) | (simp [*, errW_none, errW_some] <;> rfl), by repeat (first | (with_reducible first | exact HB.out | apply below_alloc | apply pw_below_drewN | apply below_drew1 | refine below_set ?_ (IsS102.ge HI353.out)) | exact HB.out)⟩
def spec_DrawBigTen.f (k : Nat) (l0 : List Int) : Option (Int) := (spec_l1Open.f l0).bind fun bt393 => ((spec_l1Rd_pick.f k bt393.1 bt393.2 70).bind fun bt396 => (some (wrap64 (bt396.1 - 3))))
mutual
def spec_l1TenAbs.l0 : Nat → Int → List Int → Option (List Int)
  | 0, _, _ => none
  | k + 1, x0, x3 => if x0 ≥ 4 then (if x3.length < 17592186044416 then (spec_l1TenAbs.l0 k (wrap64 (x0 - 4)) (x3 ++ [0])) else (none)) else (spec_l1TenAbs.l1 k x0 x3 1)
def spec_l1TenAbs.l1 : Nat → Int → List Int → Int → Option (List Int)
  | 0, _, _, _ => none
  | k + 1, x0, x3, x4 => if x0 > 0 then (spec_l1TenAbs.l1 k (wrap64 (x0 - 1)) x3 (wrap64 (x4 * 10))) else (if x3.length < 17592186044416 then (some (x3 ++ [x4])) else (none))
end
def spec_l1TenAbs.f (k : Nat) (a0 : Int) : Option (List Int) := spec_l1TenAbs.l0 k a0 (([] : List Int))
def spec_BigTen.f (k : Nat) (a0 : Int) : Option (Bool × List Int × Bool) := (spec_l1In.f a0 0 63).bind fun t439 => (if t439 = true then ((spec_l1TenAbs.f k a0).bind fun t440 => ((spec_l1Big.f k false t440).bind fun bt443 => (some (bt443.1, bt443.2.1, bt443.2.2)))) else (some (false, ([] : List Int), false)))
end Go.Proofs.YtdbgpoileffbeaaDoor.Pr
end
section
namespace Go.Proofs.YtdbgpoileffbeaaDoor.Pr
open Go.RowKit Go.Proofs.YtdbgpoileffbeaaDoorW.PrintWords Go.Proofs.YtdbgpoileffbeaaDoorW.PrintLast Go.Proofs.YtdbgpoileffbeaaDoor.Ext Go.Proofs.YtdbgpoileffbeaaDoorW.PrintMore
attribute [local go_sem] max2_int min2_int max_two min_two max_three min_three max_four min_four
set_option linter.unusedVariables false
set_option linter.unusedSimpArgs false
def laws_FnBigGet.j0 : Nat → ByteArray → Bool → Bool → Bool → Bool → List Int → Bool → List Int → Option (Bool)
  | 0, _, _, _, _, _, _, _, _ => none
  | k + 1, x3, x5, x7, x35, x383000, x383001, x389000, x389001 => if x35 = true then (if (x5 == x7) = true then ((laws_jtBig.f k x383000 x383001 x389000 x389001).bind fun t390 => (some t390)) else (some false)) else ((impl_BigPut.f x383000 x383001).bind fun t391 => (if t391.toList = x3.toList then ((impl_BigOk.f x383000 x383001).bind fun t392 => (some t392)) else (some false)))
def laws_FnBigGet.f (k : Nat) (l0 : List Int) : Option (Bool) := if (l0.length : Int) > 1048576 then (some true) else ((spec_DrawBigGet.f k l0).bind fun t376 => ((impl_BigGet.f k t376).bind fun bt377 => ((spec_BigGet.f k t376).bind fun bt383 => (if (bt377.2.2 != bt383.2.2) = true then (laws_FnBigGet.j0 k t376 bt377.2.2 bt383.2.2 true bt377.1 bt377.2.1 bt383.1 bt383.2.1) else ((laws_jtBig.f k bt377.1 bt377.2.1 bt383.1 bt383.2.1).bind fun t389 => (if t389 = true then (laws_FnBigGet.j0 k t376 bt377.2.2 bt383.2.2 (!bt377.2.2) bt377.1 bt377.2.1 bt383.1 bt383.2.1) else (laws_FnBigGet.j0 k t376 bt377.2.2 bt383.2.2 true bt377.1 bt377.2.1 bt383.1 bt383.2.1)))))))
set_option maxHeartbeats 8000000 in
set_option maxRecDepth 100000 in
theorem laws_FnBigGet.calls (k : Nat) (A0 : Option Addr) (c0 : Nat) (l0 : List Int) (r : Bool) (w : World) (hT : EnvA w) (hr0 : Kd.C (Kd.int .u8) w A0 l0.length l0) (hc0 : l0.length ≤ c0) (h : laws_FnBigGet.f k l0 = some r) :
    Calls Tryd.prog 7 #[.slice A0 l0.length c0] w fun e w' => e = .returned (.bool r) ∧ Below w.heap.size w w' := by
  have hu27 := Tryd.underlying27
  have HR0 := Aside0.mk hr0
  have HC0 := Aside0.mk hc0
  clear hr0 hc0
  have HB := Aside0.mk (Below.refl w.heap.size w)
  have HT := Aside0.mk hT
  clear hT
  have H : (if (l0.length : Int) > 1048576 then (some true) else ((spec_DrawBigGet.f k l0).bind fun t376 => ((impl_BigGet.f k t376).bind fun bt377 => ((spec_BigGet.f k t376).bind fun bt383 => (if (bt377.2.2 != bt383.2.2) = true then (laws_FnBigGet.j0 k t376 bt377.2.2 bt383.2.2 true bt377.1 bt377.2.1 bt383.1 bt383.2.1) else ((laws_jtBig.f k bt377.1 bt377.2.1 bt383.1 bt383.2.1).bind fun t389 => (if t389 = true then (laws_FnBigGet.j0 k t376 bt377.2.2 bt383.2.2 (!bt377.2.2) bt377.1 bt377.2.1 bt383.1 bt383.2.1) else (laws_FnBigGet.j0 k t376 bt377.2.2 bt383.2.2 true bt377.1 bt377.2.1 bt383.1 bt383.2.1)))))))) = some r := h
  clear h
  by_cases c2 : (l0.length : Int) > 1048576
  · rw [if_pos c2] at H
    have c2b0 : decide (1048576 < (l0.length : Int)) = true := decide_eq_true c2
    have c2b1 : decide (1048576 < l0.length) = true := decide_eq_true (by omega)
    clear c2
    obtain rfl := Option.some.inj H
    go_enter Tryd.func7, Tryd.ntmps7
    go_wp2
    go_ret
    exact ⟨by first | rfl | (simp [errW_none, errW_some] <;> rfl) | (simp [*, errW_none, errW_some] <;> rfl), zb⟩
  · rw [if_neg c2] at H
    have c2b0 : decide (1048576 < (l0.length : Int)) = false := decide_eq_false c2
    have c2b1 : decide (1048576 < l0.length) = false := decide_eq_false (by omega)
    clear c2
    replace H := Option.bind_eq_some_iff.mp H
    obtain ⟨t376, A30, H⟩ := H
    replace H : ((impl_BigGet.f k t376).bind fun bt377 => ((spec_BigGet.f k t376).bind fun bt383 => (if (bt377.2.2 != bt383.2.2) = true then (laws_FnBigGet.j0 k t376 bt377.2.2 bt383.2.2 true bt377.1 bt377.2.1 bt383.1 bt383.2.1) else ((laws_jtBig.f k bt377.1 bt377.2.1 bt383.1 bt383.2.1).bind fun t389 => (if t389 = true then (laws_FnBigGet.j0 k t376 bt377.2.2 bt383.2.2 (!bt377.2.2) bt377.1 bt377.2.1 bt383.1 bt383.2.1) else (laws_FnBigGet.j0 k t376 bt377.2.2 bt383.2.2 true bt377.1 bt377.2.1 bt383.1 bt383.2.1)))))) = some r := H
    have A3 := Aside0.mk A30
    clear A30
    replace H := Option.bind_eq_some_iff.mp H
    obtain ⟨⟨t377, t378, t381⟩, A40, H⟩ := H
    replace H : ((spec_BigGet.f k t376).bind fun bt383 => (if (t381 != bt383.2.2) = true then (laws_FnBigGet.j0 k t376 t381 bt383.2.2 true t377 t378 bt383.1 bt383.2.1) else ((laws_jtBig.f k t377 t378 bt383.1 bt383.2.1).bind fun t389 => (if t389 = true then (laws_FnBigGet.j0 k t376 t381 bt383.2.2 (!t381) t377 t378 bt383.1 bt383.2.1) else (laws_FnBigGet.j0 k t376 t381 bt383.2.2 true t377 t378 bt383.1 bt383.2.1))))) = some r := H
    have A4 := Aside0.mk A40
    clear A40
    replace H := Option.bind_eq_some_iff.mp H
    obtain ⟨⟨t383, t384, t387⟩, A50, H⟩ := H
    replace H : (if (t381 != t387) = true then (laws_FnBigGet.j0 k t376 t381 t387 true t377 t378 t383 t384) else ((laws_jtBig.f k t377 t378 t383 t384).bind fun t389 => (if t389 = true then (laws_FnBigGet.j0 k t376 t381 t387 (!t381) t377 t378 t383 t384) else (laws_FnBigGet.j0 k t376 t381 t387 true t377 t378 t383 t384)))) = some r := H
    have A5 := Aside0.mk A50
    clear A50
    have HC6 := Aside0.mk H
    clear H
    go_enter Tryd.func7, Tryd.ntmps7
    go_upto_region 6 with (first | ((with_reducible refine gate_callee (f := 25) rfl ?_); refine goesL_ (some 12) rfl rfl Tryd.func25 (by kernel_rfl) rfl #[.slice A0 l0.length c0] rfl za ?_; (with_reducible refine (spec_DrawBigGet.calls k _ _ l0 t376 _ ?side1 ?side2 A3.out).mono ?_); (case side1 => repeat (first | exact HR0.out | (with_reducible refine Kd.C_alloc ?_ _) | (with_reducible refine Kd.C_drewN ?_ _) | (with_reducible refine Kd.C_drew ?_))); (case side2 => exact HC0.out); rintro e w7 ⟨rfl, hb⟩; refine ⟨_, rfl, ?_⟩; have n0_ := Aside0.mk (below_step zb hb); clear HB; have HB := n0_; clear n0_; (try clear hb); (try clear hb2); (try clear hk); (try clear hi)) | ((with_reducible refine gate_callee (f := 22) rfl ?_); refine goesL_ (some 15) rfl rfl Tryd.func22 (by kernel_rfl) rfl #[.string t376] rfl za ?_; (with_reducible refine (impl_BigGet.calls k t376 t377 t378 t381 _ ?side1 A4.out).mono ?_); (case side1 => exact HT.out.below zb); rintro e w8 ⟨v379, rfl, ho0, hb⟩; refine ⟨_, rfl, ?_⟩; have n0_ := Aside0.mk (Kd.V_lower (Kd.V_mono (ok' := fun k_ => True) ho0 (fun k_ hk_ => trivial)) (below_size zb)); have n1_ := Aside0.mk (below_step zb hb); clear HB; have HO380 := n0_; have HB := n1_; clear n0_ n1_; (try clear hb); (try clear hb2); (try clear hk); (try clear hi); (try clear ho0)) | ((with_reducible refine gate_dst (N := 4) rfl ?_); refine box_event ?hg (N := 4) ?hd (cs := #[.bool false, .slice none 0 0]) (t := 27) ?hr ?_; (case hd => rfl); (case hg => rfl); (case hr => first | (go_simp; done) | (go_simp; rfl)); intro gb382 hg w9 hbox hb; have n0_ := Aside0.mk (Kd.V_below (Kd.V_elderB (zV HO380.out) gb382 (Nat.le_of_eq hg.symm)) hb); have n1_ := Aside0.mk (below_step zb hb); have n2_ := Aside0.mk (hbox); have n3_ := Aside0.mk ((by rw [hg]; exact (below_size zb) : w.heap.size ≤ gb382)); have n4_ := Aside0.mk ((by rw [hg]; exact (below_size zb) : w.heap.size ≤ gb382)); clear HO380; clear HB; have HO380 := n0_; have HB := n1_; have BK382 := n2_; have GW382 := n3_; have GE382 := n4_; clear n0_ n1_ n2_ n3_ n4_; clear hb hbox hg; have hcz10_0 : w9.cell? ⟨gb382, 0, none⟩ = some (.bool false) := (blk_cell BK382.out 0).trans rfl; have hcz10_1 : w9.cell? ⟨gb382, 1, none⟩ = some (.slice none 0 0) := (blk_cell BK382.out 1).trans rfl; have hfz10_0 := blk_frozen BK382.out 0; have hfz10_1 := blk_frozen BK382.out 1; obtain ⟨Ao11, co11, eo11⟩ := Kd.V_slice HO380.out; subst eo11) | ((with_reducible refine gate_callee (f := 21) rfl ?_); refine goesL_ (some 20) rfl rfl Tryd.func21 (by kernel_rfl) rfl #[.string t376] rfl za ?_; (with_reducible refine (spec_BigGet.calls k t376 t383 t384 t387 _ A5.out).mono ?_); rintro e w12 ⟨v385, rfl, ho0, hb⟩; refine ⟨_, rfl, ?_⟩; have n0_ := Aside0.mk (Kd.V_elder' (by (with_reducible repeat (first | apply Kd.V_alloc | apply Kd.V_drewN | apply Kd.V_drew)); exact (Kd.V_mono (Kd.V_far (p := ⟨gb382, 1, none⟩) (Kd.V_far (p := ⟨gb382, 0, none⟩) (Kd.V_mono HO380.out (fun k_ hk => (⟨hk, hk.2⟩ : _ ∧ k_ ≠ gb382))) (fun _ hk => hk.2) (.bool t377)) (fun _ hk => hk.2) (.slice Ao11 t378.length co11)) (fun _ h_ => h_.1))) (Kd.R_base ho0) hb); have n1_ := Aside0.mk (Kd.R_lower ho0 (below_size zb)); have n2_ := Aside0.mk (blk_below (g := gb382) (o := .cells #[.bool t377, .slice Ao11 t378.length co11] 27 (0, 0)) (by (with_reducible repeat (first | refine blk_drewN ?_ _ | refine blk_drew ?_ | refine blk_alloc ?_ _)); refine blk_put (cs := #[.bool t377, .slice none 0 0]) ?_ 1 _ rfl; (with_reducible repeat (first | refine blk_drewN ?_ _ | refine blk_drew ?_ | refine blk_alloc ?_ _)); refine blk_put (cs := #[.bool false, .slice none 0 0]) ?_ 0 _ rfl; (with_reducible repeat (first | refine blk_drewN ?_ _ | refine blk_drew ?_ | refine blk_alloc ?_ _)); exact BK382.out) hb); have n3_ := Aside0.mk (below_step zb hb); clear HO380; clear BK382; clear HB; have HO380 := n0_; have HO386 := n1_; have BK382 := n2_; have HB := n3_; clear n0_ n1_ n2_ n3_; (try clear hb); (try clear hb2); (try clear hk); (try clear hi); (try clear ho0)) | ((with_reducible refine gate_dst (N := 6) rfl ?_); refine box_event ?hg (N := 6) ?hd (cs := #[.bool false, .slice none 0 0]) (t := 27) ?hr ?_; (case hd => rfl); (case hg => rfl); (case hr => first | (go_simp; done) | (go_simp; rfl)); intro gb388 hg w13 hbox hb; have n0_ := Aside0.mk (Kd.V_below (Kd.V_elderB (zV HO380.out) gb388 (Nat.le_of_eq hg.symm)) hb); have n1_ := Aside0.mk (Kd.R_below (zR HO386.out) hb); have n2_ := Aside0.mk (blk_below (g := gb382) (o := .cells #[.bool t377, .slice Ao11 t378.length co11] 27 (0, 0)) (zk BK382.out) hb); have n3_ := Aside0.mk (below_step zb hb); have n4_ := Aside0.mk (hbox); have n5_ := Aside0.mk ((by rw [hg]; exact (below_size zb) : w.heap.size ≤ gb388)); have n6_ := Aside0.mk ((by rw [hg]; exact (below_size zb) : w.heap.size ≤ gb388)); have n7_ := Aside0.mk ((by rw [hg]; exact Nat.ne_of_lt (blk_lt (g := gb382) (o := .cells #[.bool t377, .slice Ao11 t378.length co11] 27 (0, 0)) (zk BK382.out)) : gb382 ≠ gb388)); have n8_ := Aside0.mk ((by rw [hg]; exact Nat.ne_of_gt (blk_lt (g := gb382) (o := .cells #[.bool t377, .slice Ao11 t378.length co11] 27 (0, 0)) (zk BK382.out)) : gb388 ≠ gb382)); clear HO380; clear HO386; clear BK382; clear HB; have HO380 := n0_; have HO386 := n1_; have BK382 := n2_; have HB := n3_; have BK388 := n4_; have GW388 := n5_; have GE388 := n6_; have NB382_388 := n7_; have NB388_382 := n8_; clear n0_ n1_ n2_ n3_ n4_ n5_ n6_ n7_ n8_; clear hb hbox hg; have hnb14 := NB388_382.out; have hnc14 := NB382_388.out; have hcz15_0 : w13.cell? ⟨gb388, 0, none⟩ = some (.bool false) := (blk_cell BK388.out 0).trans rfl; have hcz15_1 : w13.cell? ⟨gb388, 1, none⟩ = some (.slice none 0 0) := (blk_cell BK388.out 1).trans rfl; have hfz15_0 := blk_frozen BK388.out 0; have hfz15_1 := blk_frozen BK388.out 1; obtain ⟨Ao16, co16, eo16⟩ := Kd.R_slice HO386.out; subst eo16))
    (try simp only [Act.put, List.setIfInBounds_toArray, List.set_cons_zero, List.set_cons_succ])
    go_cut [35] (fun v35 wc => ∃ (kq : Nat) (x35_5 : Bool), v35 = .bool x35_5 ∧ Aside0 (laws_FnBigGet.j0 kq t376 t381 t387 x35_5 t377 t378 t383 t384 = some r) ∧ Aside0 (kq ≤ k) ∧ Aside0 (Kd.V (Kd.int .i64) 3 wc w.heap.size (fun k_ => some k_ ≠ ((.slice Ao16 t384.length co16) : Value).ownBlock ∧ k_ ≠ gb382 ∧ k_ ≠ gb388) (.slice Ao11 t378.length co11) t378) ∧ Aside0 (Kd.R (Kd.int .i64) 3 wc w.heap.size (fun _ => True) (.slice Ao16 t384.length co16) t384) ∧ Aside0 (wc.heap[gb382]? = some (.cells #[.bool t377, (.slice Ao11 t378.length co11)] 27 (0, 0))) ∧ Aside0 (wc.heap[gb388]? = some (.cells #[.bool t383, (.slice Ao16 t384.length co16)] 27 (0, 0))) ∧ Aside0 (Below w.heap.size w wc))
    case first =>
      have H := HC6.out
      clear HC6
      by_cases c17 : (t381 != t387) = true
      · rw [if_pos c17] at H
        have c17b0 : (t381 != t387) = true := c17
        (try (have c17b1 : decide (t381 = t387) = false := by simpa using c17))
        (try (have c17b2 : (t381 == t387) = false := by simpa using c17))
        (try (have c17b3 : ¬ (t381 = t387) := by simpa using c17))
        clear c17
        (first | rw [c17b0] | (simp only [i64_w, i32_w]; rw [c17b0]) | skip)
        have H' := Aside0.mk H
        clear H
        go_wp2
        go_meet
        case rel => exact ⟨_, (true), (by first | rfl | (simp; done) | (simp [*]; done)), H', ⟨by first | omega | exact Nat.le_refl _⟩, ⟨by (with_reducible repeat (first | apply Kd.V_alloc | apply Kd.V_drewN | apply Kd.V_drew)); exact Kd.V_mono (Kd.V_far (p := ⟨gb388, 1, none⟩) (Kd.V_far (p := ⟨gb388, 0, none⟩) (Kd.V_mono HO380.out (fun k_ hk => (⟨hk, hk.2⟩ : _ ∧ k_ ≠ gb388))) (fun _ hk => hk.2) (.bool t383)) (fun _ hk => hk.2) (.slice Ao16 t384.length co16)) (fun _ hk => ⟨hk.1.1.2, ⟨hk.1.1.1.2, hk.1.2⟩⟩)⟩, ⟨by (with_reducible repeat (first | apply Kd.R_alloc | apply Kd.R_drewN | apply Kd.R_drew)); exact Kd.R_mono (Kd.R_far (p := ⟨gb388, 1, none⟩) (Kd.R_far (p := ⟨gb388, 0, none⟩) (Kd.R_types HO386.out BK388.out (by decide)) (fun _ hk => hk.2) (.bool t383)) (fun _ hk => hk.2) (.slice Ao16 t384.length co16)) (fun _ hk => trivial)⟩, ⟨by (with_reducible repeat (first | refine blk_drewN ?_ _ | refine blk_drew ?_ | refine blk_alloc ?_ _)); refine blk_far ?_ NB382_388.out _; (with_reducible repeat (first | refine blk_drewN ?_ _ | refine blk_drew ?_ | refine blk_alloc ?_ _)); refine blk_far ?_ NB382_388.out _; (with_reducible repeat (first | refine blk_drewN ?_ _ | refine blk_drew ?_ | refine blk_alloc ?_ _)); exact BK382.out⟩, ⟨by (with_reducible repeat (first | refine blk_drewN ?_ _ | refine blk_drew ?_ | refine blk_alloc ?_ _)); refine blk_put (cs := #[.bool t383, .slice none 0 0]) ?_ 1 _ rfl; (with_reducible repeat (first | refine blk_drewN ?_ _ | refine blk_drew ?_ | refine blk_alloc ?_ _)); refine blk_put (cs := #[.bool false, .slice none 0 0]) ?_ 0 _ rfl; (with_reducible repeat (first | refine blk_drewN ?_ _ | refine blk_drew ?_ | refine blk_alloc ?_ _)); exact BK388.out⟩, ⟨zb⟩⟩
      · rw [if_neg c17] at H
        have c17b0 : (t381 != t387) = false := by simpa using c17
        (try (have c17b1 : decide (t381 = t387) = true := by simpa using c17))
        (try (have c17b2 : (t381 == t387) = true := by simpa using c17))
        clear c17
        (first | rw [c17b0] | (simp only [i64_w, i32_w]; rw [c17b0]) | skip)
        replace H := Option.bind_eq_some_iff.mp H
        obtain ⟨t389, A180, H⟩ := H
        replace H : (if t389 = true then (laws_FnBigGet.j0 k t376 t381 t387 (!t381) t377 t378 t383 t384) else (laws_FnBigGet.j0 k t376 t381 t387 true t377 t378 t383 t384)) = some r := H
        have A18 := Aside0.mk A180
        clear A180
        by_cases c19 : t389 = true
        · subst c19
          have H1 : (laws_FnBigGet.j0 k t376 t381 t387 (!t381) t377 t378 t383 t384) = some r := by rw [if_pos rfl] at H; exact H
          clear H
          have H := H1
          clear H1
          have H' := Aside0.mk H
          clear H
          have hnb20 := NB382_388.out
          have hnc20 := NB388_382.out
          have hcz21_0 : w13.cell? ⟨gb382, 0, none⟩ = some (.bool t377) := (blk_cell BK382.out 0).trans rfl
          have hcz21_1 : w13.cell? ⟨gb382, 1, none⟩ = some (.slice Ao11 t378.length co11) := (blk_cell BK382.out 1).trans rfl
          have hfz21_0 := blk_frozen BK382.out 0
          have hfz21_1 := blk_frozen BK382.out 1
          have hcz22_0 : w13.cell? ⟨gb388, 0, none⟩ = some (.bool false) := (blk_cell BK388.out 0).trans rfl
          have hcz22_1 : w13.cell? ⟨gb388, 1, none⟩ = some (.slice none 0 0) := (blk_cell BK388.out 1).trans rfl
          have hfz22_0 := blk_frozen BK388.out 0
          have hfz22_1 := blk_frozen BK388.out 1
          go_wp2_with (first | (go_at_call 26; (with_reducible refine (laws_jtBig.calls k t377 _ _ t378 t383 _ _ t384 true _ ?side1 ?side2 ?side3 ?side4 A18.out).mono ?_); (case side1 => refine (Kd.V_reads' (e := 3) (base := w.heap.size) (ok := fun k_ => (((True ∧ k_ ≠ gb382) ∧ some k_ ≠ (.slice Ao16 t384.length co16 : Value).ownBlock) ∧ k_ ≠ gb388)) (n := t378.length) (c := co11) ?_).2.2; exact (by (with_reducible repeat (first | apply Kd.V_alloc | apply Kd.V_drewN | apply Kd.V_drew)); exact (Kd.V_mono (Kd.V_far (p := ⟨gb388, 1, none⟩) (Kd.V_far (p := ⟨gb388, 0, none⟩) (Kd.V_mono HO380.out (fun k_ hk => (⟨hk, hk.2⟩ : _ ∧ k_ ≠ gb388))) (fun _ hk => hk.2) (.bool t383)) (fun _ hk => hk.2) (.slice Ao16 t384.length co16)) (fun _ h_ => h_.1)))); (case side2 => exact (Kd.V_reads' HO380.out).2.1); (case side3 => refine (Kd.R_reads' (e := 3) (base := w.heap.size) (ok := fun k_ => True) (n := t384.length) (c := co16) ?_).2.2; exact (by (with_reducible repeat (first | apply Kd.R_alloc | apply Kd.R_drewN | apply Kd.R_drew)); exact (Kd.R_mono (Kd.R_far (p := ⟨gb388, 1, none⟩) (Kd.R_far (p := ⟨gb388, 0, none⟩) (Kd.R_types HO386.out BK388.out (by decide)) (fun _ hk => hk.2) (.bool t383)) (fun _ hk => hk.2) (.slice Ao16 t384.length co16)) (fun _ h_ => h_.1)))); (case side4 => exact (Kd.R_reads' HO386.out).2.1); rintro e w23 ⟨rfl, hb⟩; have n0_ := Aside0.mk (Kd.V_below (by (with_reducible repeat (first | apply Kd.V_alloc | apply Kd.V_drewN | apply Kd.V_drew)); exact (Kd.V_mono (Kd.V_far (p := ⟨gb388, 1, none⟩) (Kd.V_far (p := ⟨gb388, 0, none⟩) (Kd.V_mono HO380.out (fun k_ hk => (⟨hk, hk.2⟩ : _ ∧ k_ ≠ gb388))) (fun _ hk => hk.2) (.bool t383)) (fun _ hk => hk.2) (.slice Ao16 t384.length co16)) (fun _ h_ => h_.1))) hb); have n1_ := Aside0.mk (Kd.R_below (by (with_reducible repeat (first | apply Kd.R_alloc | apply Kd.R_drewN | apply Kd.R_drew)); exact (Kd.R_mono (Kd.R_far (p := ⟨gb388, 1, none⟩) (Kd.R_far (p := ⟨gb388, 0, none⟩) (Kd.R_types HO386.out BK388.out (by decide)) (fun _ hk => hk.2) (.bool t383)) (fun _ hk => hk.2) (.slice Ao16 t384.length co16)) (fun _ h_ => h_.1))) hb); have n2_ := Aside0.mk (blk_below (g := gb382) (o := .cells #[.bool t377, .slice Ao11 t378.length co11] 27 (0, 0)) (zk BK382.out) hb); have n3_ := Aside0.mk (blk_below (g := gb388) (o := .cells #[.bool t383, .slice Ao16 t384.length co16] 27 (0, 0)) (by (with_reducible repeat (first | refine blk_drewN ?_ _ | refine blk_drew ?_ | refine blk_alloc ?_ _)); refine blk_put (cs := #[.bool t383, .slice none 0 0]) ?_ 1 _ rfl; (with_reducible repeat (first | refine blk_drewN ?_ _ | refine blk_drew ?_ | refine blk_alloc ?_ _)); refine blk_put (cs := #[.bool false, .slice none 0 0]) ?_ 0 _ rfl; (with_reducible repeat (first | refine blk_drewN ?_ _ | refine blk_drew ?_ | refine blk_alloc ?_ _)); exact BK388.out) hb); have n4_ := Aside0.mk (below_step zb hb); clear HO380; clear HO386; clear BK382; clear BK388; clear HB; have HO380 := n0_; have HO386 := n1_; have BK382 := n2_; have BK388 := n3_; have HB := n4_; clear n0_ n1_ n2_ n3_ n4_; (try clear hb); (try clear hb2); (try clear hk); (try clear hi)))
          go_meet
          case rel => exact ⟨_, (!t381), (by first | rfl | (simp; done) | (simp [*]; done)), H', ⟨by first | omega | exact Nat.le_refl _⟩, ⟨by (with_reducible repeat (first | apply Kd.V_alloc | apply Kd.V_drewN | apply Kd.V_drew)); exact Kd.V_mono HO380.out (fun _ hk => ⟨hk.1.2, ⟨hk.1.1.2, hk.2⟩⟩)⟩, ⟨by (with_reducible repeat (first | apply Kd.R_alloc | apply Kd.R_drewN | apply Kd.R_drew)); exact HO386.out⟩, ⟨by (with_reducible repeat (first | refine blk_drewN ?_ _ | refine blk_drew ?_ | refine blk_alloc ?_ _)); exact BK382.out⟩, ⟨by (with_reducible repeat (first | refine blk_drewN ?_ _ | refine blk_drew ?_ | refine blk_alloc ?_ _)); exact BK388.out⟩, ⟨zb⟩⟩
        · replace c19 := Bool.eq_false_iff.mpr c19
          subst c19
          have H1 : (laws_FnBigGet.j0 k t376 t381 t387 true t377 t378 t383 t384) = some r := by rw [if_neg (show ¬ (false = true) by decide)] at H; exact H
          clear H
          have H := H1
          clear H1
          have H' := Aside0.mk H
          clear H
          have hnb24 := NB382_388.out
          have hnc24 := NB388_382.out
          have hcz25_0 : w13.cell? ⟨gb382, 0, none⟩ = some (.bool t377) := (blk_cell BK382.out 0).trans rfl
          have hcz25_1 : w13.cell? ⟨gb382, 1, none⟩ = some (.slice Ao11 t378.length co11) := (blk_cell BK382.out 1).trans rfl
          have hfz25_0 := blk_frozen BK382.out 0
          have hfz25_1 := blk_frozen BK382.out 1
          have hcz26_0 : w13.cell? ⟨gb388, 0, none⟩ = some (.bool false) := (blk_cell BK388.out 0).trans rfl
          have hcz26_1 : w13.cell? ⟨gb388, 1, none⟩ = some (.slice none 0 0) := (blk_cell BK388.out 1).trans rfl
          have hfz26_0 := blk_frozen BK388.out 0
          have hfz26_1 := blk_frozen BK388.out 1
          go_wp2_with (first | (go_at_call 26; (with_reducible refine (laws_jtBig.calls k t377 _ _ t378 t383 _ _ t384 false _ ?side1 ?side2 ?side3 ?side4 A18.out).mono ?_); (case side1 => refine (Kd.V_reads' (e := 3) (base := w.heap.size) (ok := fun k_ => (((True ∧ k_ ≠ gb382) ∧ some k_ ≠ (.slice Ao16 t384.length co16 : Value).ownBlock) ∧ k_ ≠ gb388)) (n := t378.length) (c := co11) ?_).2.2; exact (by (with_reducible repeat (first | apply Kd.V_alloc | apply Kd.V_drewN | apply Kd.V_drew)); exact (Kd.V_mono (Kd.V_far (p := ⟨gb388, 1, none⟩) (Kd.V_far (p := ⟨gb388, 0, none⟩) (Kd.V_mono HO380.out (fun k_ hk => (⟨hk, hk.2⟩ : _ ∧ k_ ≠ gb388))) (fun _ hk => hk.2) (.bool t383)) (fun _ hk => hk.2) (.slice Ao16 t384.length co16)) (fun _ h_ => h_.1)))); (case side2 => exact (Kd.V_reads' HO380.out).2.1); (case side3 => refine (Kd.R_reads' (e := 3) (base := w.heap.size) (ok := fun k_ => True) (n := t384.length) (c := co16) ?_).2.2; exact (by (with_reducible repeat (first | apply Kd.R_alloc | apply Kd.R_drewN | apply Kd.R_drew)); exact (Kd.R_mono (Kd.R_far (p := ⟨gb388, 1, none⟩) (Kd.R_far (p := ⟨gb388, 0, none⟩) (Kd.R_types HO386.out BK388.out (by decide)) (fun _ hk => hk.2) (.bool t383)) (fun _ hk => hk.2) (.slice Ao16 t384.length co16)) (fun _ h_ => h_.1)))); (case side4 => exact (Kd.R_reads' HO386.out).2.1); rintro e w27 ⟨rfl, hb⟩; have n0_ := Aside0.mk (Kd.V_below (by (with_reducible repeat (first | apply Kd.V_alloc | apply Kd.V_drewN | apply Kd.V_drew)); exact (Kd.V_mono (Kd.V_far (p := ⟨gb388, 1, none⟩) (Kd.V_far (p := ⟨gb388, 0, none⟩) (Kd.V_mono HO380.out (fun k_ hk => (⟨hk, hk.2⟩ : _ ∧ k_ ≠ gb388))) (fun _ hk => hk.2) (.bool t383)) (fun _ hk => hk.2) (.slice Ao16 t384.length co16)) (fun _ h_ => h_.1))) hb); have n1_ := Aside0.mk (Kd.R_below (by (with_reducible repeat (first | apply Kd.R_alloc | apply Kd.R_drewN | apply Kd.R_drew)); exact (Kd.R_mono (Kd.R_far (p := ⟨gb388, 1, none⟩) (Kd.R_far (p := ⟨gb388, 0, none⟩) (Kd.R_types HO386.out BK388.out (by decide)) (fun _ hk => hk.2) (.bool t383)) (fun _ hk => hk.2) (.slice Ao16 t384.length co16)) (fun _ h_ => h_.1))) hb); have n2_ := Aside0.mk (blk_below (g := gb382) (o := .cells #[.bool t377, .slice Ao11 t378.length co11] 27 (0, 0)) (zk BK382.out) hb); have n3_ := Aside0.mk (blk_below (g := gb388) (o := .cells #[.bool t383, .slice Ao16 t384.length co16] 27 (0, 0)) (by (with_reducible repeat (first | refine blk_drewN ?_ _ | refine blk_drew ?_ | refine blk_alloc ?_ _)); refine blk_put (cs := #[.bool t383, .slice none 0 0]) ?_ 1 _ rfl; (with_reducible repeat (first | refine blk_drewN ?_ _ | refine blk_drew ?_ | refine blk_alloc ?_ _)); refine blk_put (cs := #[.bool false, .slice none 0 0]) ?_ 0 _ rfl; (with_reducible repeat (first | refine blk_drewN ?_ _ | refine blk_drew ?_ | refine blk_alloc ?_ _)); exact BK388.out) hb); have n4_ := Aside0.mk (below_step zb hb); clear HO380; clear HO386; clear BK382; clear BK388; clear HB; have HO380 := n0_; have HO386 := n1_; have BK382 := n2_; have BK388 := n3_; have HB := n4_; clear n0_ n1_ n2_ n3_ n4_; (try clear hb); (try clear hb2); (try clear hk); (try clear hi)))
          go_meet
          case rel => exact ⟨_, (true), (by first | rfl | (simp; done) | (simp [*]; done)), H', ⟨by first | omega | exact Nat.le_refl _⟩, ⟨by (with_reducible repeat (first | apply Kd.V_alloc | apply Kd.V_drewN | apply Kd.V_drew)); exact Kd.V_mono HO380.out (fun _ hk => ⟨hk.1.2, ⟨hk.1.1.2, hk.2⟩⟩)⟩, ⟨by (with_reducible repeat (first | apply Kd.R_alloc | apply Kd.R_drewN | apply Kd.R_drew)); exact HO386.out⟩, ⟨by (with_reducible repeat (first | refine blk_drewN ?_ _ | refine blk_drew ?_ | refine blk_alloc ?_ _)); exact BK382.out⟩, ⟨by (with_reducible repeat (first | refine blk_drewN ?_ _ | refine blk_drew ?_ | refine blk_alloc ?_ _)); exact BK388.out⟩, ⟨zb⟩⟩
    case rest =>
      clear HC6
      try clear c1
      try clear c2
      try clear c2b0
      try clear c2b1
      try clear p2
      try clear c7
      try clear c14
      try clear c17
      try clear c17b0
      try clear c17b1
      try clear c17b2
      try clear c19
      try clear c20
      try clear c21
      try clear c22
      try clear c24
      try clear c25
      try clear hcz10_0
      try clear hcz10_1
      try clear hcz15_0
      try clear hcz15_1
      try clear hcz21_0
      try clear hcz21_1
      try clear hcz22_0
      try clear hcz22_1
      try clear hcz25_0
      try clear hcz25_1
      try clear hcz26_0
      try clear hcz26_1
      try clear hfz10_0
      try clear hfz10_1
      try clear hfz15_0
      try clear hfz15_1
      try clear hfz21_0
      try clear hfz21_1
      try clear hfz22_0
      try clear hfz22_1
      try clear hfz25_0
      try clear hfz25_1
      try clear hfz26_0
      try clear hfz26_1
      obtain ⟨kq, x35_5, rfl, HA, HJ5, HO_383001, HO_389001, BK382, BK388, HB⟩ := hcut
      cases kq with
      | zero => exact absurd HA.out (by simp [laws_FnBigGet.j0])
      | succ kj5 =>
        have H := HA.out
        clear HA
        simp only [laws_FnBigGet.j0] at H
        by_cases c28 : x35_5 = true
        · subst c28
          have H1 : (if (t381 == t387) = true then ((laws_jtBig.f kj5 t377 t378 t383 t384).bind fun t390 => (some t390)) else (some false)) = some r := by rw [if_pos rfl] at H; exact H
          clear H
          have H := H1
          clear H1
          by_cases c29 : (t381 == t387) = true
          · rw [if_pos c29] at H
            have c29b0 : (t381 == t387) = true := c29
            (try (have c29b1 : decide (t381 = t387) = true := by simpa using c29))
            (try (have c29b2 : (t381 == t387) = true := by simpa using c29))
            clear c29
            replace H := Option.bind_eq_some_iff.mp H
            obtain ⟨t390, A300, H⟩ := H
            replace H : (some t390) = some r := H
            have A30 := Aside0.mk A300
            clear A300
            obtain rfl := Option.some.inj H
            have hnb31 := NB382_388.out
            have hnc31 := NB388_382.out
            have hcz32_0 : wc.cell? ⟨gb382, 0, none⟩ = some (.bool t377) := (blk_cell BK382.out 0).trans rfl
            have hcz32_1 : wc.cell? ⟨gb382, 1, none⟩ = some (.slice Ao11 t378.length co11) := (blk_cell BK382.out 1).trans rfl
            have hfz32_0 := blk_frozen BK382.out 0
            have hfz32_1 := blk_frozen BK382.out 1
            have hcz33_0 : wc.cell? ⟨gb388, 0, none⟩ = some (.bool t383) := (blk_cell BK388.out 0).trans rfl
            have hcz33_1 : wc.cell? ⟨gb388, 1, none⟩ = some (.slice Ao16 t384.length co16) := (blk_cell BK388.out 1).trans rfl
            have hfz33_0 := blk_frozen BK388.out 0
            have hfz33_1 := blk_frozen BK388.out 1
            go_wp2_with (first | (go_at_call 26; (with_reducible refine (laws_jtBig.calls kj5 t377 _ _ t378 t383 _ _ t384 t390 _ ?side1 ?side2 ?side3 ?side4 A30.out).mono ?_); (case side1 => repeat (first | exact (Kd.V_reads' HO_383001.out).2.2 | (with_reducible refine Kd.C_alloc ?_ _) | (with_reducible refine Kd.C_drewN ?_ _) | (with_reducible refine Kd.C_drew ?_))); (case side2 => exact (Kd.V_reads' HO_383001.out).2.1); (case side3 => repeat (first | exact (Kd.R_reads' HO_389001.out).2.2 | (with_reducible refine Kd.C_alloc ?_ _) | (with_reducible refine Kd.C_drewN ?_ _) | (with_reducible refine Kd.C_drew ?_))); (case side4 => exact (Kd.R_reads' HO_389001.out).2.1); rintro e w34 ⟨rfl, hb⟩; have n0_ := Aside0.mk (Kd.V_below (zV HO_383001.out) hb); have n1_ := Aside0.mk (Kd.R_below (zR HO_389001.out) hb); have n2_ := Aside0.mk (blk_below (g := gb382) (o := .cells #[.bool t377, .slice Ao11 t378.length co11] 27 (0, 0)) (zk BK382.out) hb); have n3_ := Aside0.mk (blk_below (g := gb388) (o := .cells #[.bool t383, .slice Ao16 t384.length co16] 27 (0, 0)) (zk BK388.out) hb); have n4_ := Aside0.mk (below_step zb hb); clear HO_383001; clear HO_389001; clear BK382; clear BK388; clear HB; have HO_383001 := n0_; have HO_389001 := n1_; have BK382 := n2_; have BK388 := n3_; have HB := n4_; clear n0_ n1_ n2_ n3_ n4_; (try clear hb); (try clear hb2); (try clear hk); (try clear hi)))
            go_ret
            exact ⟨by first | rfl | (simp [errW_none, errW_some] <;> rfl) | (simp [*, errW_none, errW_some] <;> rfl), zb⟩
          · rw [if_neg c29] at H
            have c29b0 : (t381 == t387) = false := by simpa using c29
            (try (have c29b1 : decide (t381 = t387) = false := by simpa using c29))
            (try (have c29b2 : (t381 == t387) = false := by simpa using c29))
            (try (have c29b3 : ¬ (t381 = t387) := by simpa using c29))
            clear c29
            obtain rfl := Option.some.inj H
            go_wp2
            go_ret
            exact ⟨by first | rfl | (simp [errW_none, errW_some] <;> rfl) | (simp [*, errW_none, errW_some] <;> rfl), zb⟩
        · replace c28 := Bool.eq_false_iff.mpr c28
          subst c28
          have H1 : ((impl_BigPut.f t377 t378).bind fun t391 => (if t391.toList = t376.toList then ((impl_BigOk.f t377 t378).bind fun t392 => (some t392)) else (some false))) = some r := by rw [if_neg (show ¬ (false = true) by decide)] at H; exact H
          clear H
          have H := H1
          clear H1
          replace H := Option.bind_eq_some_iff.mp H
          obtain ⟨t391, A350, H⟩ := H
          replace H : (if t391.toList = t376.toList then ((impl_BigOk.f t377 t378).bind fun t392 => (some t392)) else (some false)) = some r := H
          have A35 := Aside0.mk A350
          clear A350
          by_cases c36 : t391.toList = t376.toList
          · rw [if_pos c36] at H
            have c36b0 : (t391.toList == t376.toList) = true := beq_iff_eq.mpr c36
            have c36b1 : (t391.toList != t376.toList) = false := bne_eq_false_iff_eq.mpr c36
            clear c36
            replace H := Option.bind_eq_some_iff.mp H
            obtain ⟨t392, A370, H⟩ := H
            replace H : (some t392) = some r := H
            have A37 := Aside0.mk A370
            clear A370
            obtain rfl := Option.some.inj H
            have hnb38 := NB382_388.out
            have hnc38 := NB388_382.out
            have hcz39_0 : wc.cell? ⟨gb382, 0, none⟩ = some (.bool t377) := (blk_cell BK382.out 0).trans rfl
            have hcz39_1 : wc.cell? ⟨gb382, 1, none⟩ = some (.slice Ao11 t378.length co11) := (blk_cell BK382.out 1).trans rfl
            have hfz39_0 := blk_frozen BK382.out 0
            have hfz39_1 := blk_frozen BK382.out 1
            go_wp2_with (first | ((with_reducible refine gate_callee (f := 12) rfl ?_); refine goesL_ (some 45) rfl rfl Tryd.func12 (by kernel_rfl) rfl #[.agg #[.bool t377, .slice Ao11 t378.length co11]] rfl za ?_; (with_reducible refine (impl_BigPut.calls t377 _ _ t378 t391 _ ?side1 ?side2 ?side3 A35.out).mono ?_); (case side1 => exact HT.out.toI.below zb); (case side2 => repeat (first | exact (Kd.V_reads' HO_383001.out).2.2 | (with_reducible refine Kd.C_alloc ?_ _) | (with_reducible refine Kd.C_drewN ?_ _) | (with_reducible refine Kd.C_drew ?_))); (case side3 => exact (Kd.V_reads' HO_383001.out).2.1); rintro e w40 ⟨rfl, hb⟩; refine ⟨_, rfl, ?_⟩; have n0_ := Aside0.mk (Kd.V_below (zV HO_383001.out) hb); have n1_ := Aside0.mk (Kd.R_below (zR HO_389001.out) hb); have n2_ := Aside0.mk (blk_below (g := gb382) (o := .cells #[.bool t377, .slice Ao11 t378.length co11] 27 (0, 0)) (zk BK382.out) hb); have n3_ := Aside0.mk (blk_below (g := gb388) (o := .cells #[.bool t383, .slice Ao16 t384.length co16] 27 (0, 0)) (zk BK388.out) hb); have n4_ := Aside0.mk (below_step zb hb); clear HO_383001; clear HO_389001; clear BK382; clear BK388; clear HB; have HO_383001 := n0_; have HO_389001 := n1_; have BK382 := n2_; have BK388 := n3_; have HB := n4_; clear n0_ n1_ n2_ n3_ n4_; (try clear hb); (try clear hb2); (try clear hk); (try clear hi); have hcz41_0 : w40.cell? ⟨gb382, 0, none⟩ = some (.bool t377) := (blk_cell BK382.out 0).trans rfl; have hcz41_1 : w40.cell? ⟨gb382, 1, none⟩ = some (.slice Ao11 t378.length co11) := (blk_cell BK382.out 1).trans rfl; have hfz41_0 := blk_frozen BK382.out 0; have hfz41_1 := blk_frozen BK382.out 1) | (go_at_call 27; (with_reducible refine (impl_BigOk.calls t377 _ _ t378 t392 _ ?side1 ?side2 A37.out).mono ?_); (case side1 => repeat (first | exact (Kd.V_reads' HO_383001.out).2.2 | (with_reducible refine Kd.C_alloc ?_ _) | (with_reducible refine Kd.C_drewN ?_ _) | (with_reducible refine Kd.C_drew ?_))); (case side2 => exact (Kd.V_reads' HO_383001.out).2.1); rintro e w42 ⟨rfl, hb⟩; have n0_ := Aside0.mk (Kd.V_below (zV HO_383001.out) hb); have n1_ := Aside0.mk (Kd.R_below (zR HO_389001.out) hb); have n2_ := Aside0.mk (blk_below (g := gb382) (o := .cells #[.bool t377, .slice Ao11 t378.length co11] 27 (0, 0)) (zk BK382.out) hb); have n3_ := Aside0.mk (blk_below (g := gb388) (o := .cells #[.bool t383, .slice Ao16 t384.length co16] 27 (0, 0)) (zk BK388.out) hb); have n4_ := Aside0.mk (below_step zb hb); clear HO_383001; clear HO_389001; clear BK382; clear BK388; clear HB; have HO_383001 := n0_; have HO_389001 := n1_; have BK382 := n2_; have BK388 := n3_; have HB := n4_; clear n0_ n1_ n2_ n3_ n4_; (try clear hb); (try clear hb2); (try clear hk); (try clear hi)))
            go_ret
            exact ⟨by first | rfl | (simp [errW_none, errW_some] <;> rfl) | (simp [*, errW_none, errW_some] <;> rfl), zb⟩
          · rw [if_neg c36] at H
            have c36b0 : (t391.toList == t376.toList) = false := beq_eq_false_iff_ne.mpr c36
            have c36b1 : (t391.toList != t376.toList) = true := bne_iff_ne.mpr c36
            obtain rfl := Option.some.inj H
            have hnb43 := NB382_388.out
            have hnc43 := NB388_382.out
            have hcz44_0 : wc.cell? ⟨gb382, 0, none⟩ = some (.bool t377) := (blk_cell BK382.out 0).trans rfl
            have hcz44_1 : wc.cell? ⟨gb382, 1, none⟩ = some (.slice Ao11 t378.length co11) := (blk_cell BK382.out 1).trans rfl
            have hfz44_0 := blk_frozen BK382.out 0
            have hfz44_1 := blk_frozen BK382.out 1
            go_wp2_with (first | ((with_reducible refine gate_callee (f := 12) rfl ?_); refine goesL_ (some 45) rfl rfl Tryd.func12 (by kernel_rfl) rfl #[.agg #[.bool t377, .slice Ao11 t378.length co11]] rfl za ?_; (with_reducible refine (impl_BigPut.calls t377 _ _ t378 t391 _ ?side1 ?side2 ?side3 A35.out).mono ?_); (case side1 => exact HT.out.toI.below zb); (case side2 => repeat (first | exact (Kd.V_reads' HO_383001.out).2.2 | (with_reducible refine Kd.C_alloc ?_ _) | (with_reducible refine Kd.C_drewN ?_ _) | (with_reducible refine Kd.C_drew ?_))); (case side3 => exact (Kd.V_reads' HO_383001.out).2.1); rintro e w45 ⟨rfl, hb⟩; refine ⟨_, rfl, ?_⟩; have n0_ := Aside0.mk (Kd.V_below (zV HO_383001.out) hb); have n1_ := Aside0.mk (Kd.R_below (zR HO_389001.out) hb); have n2_ := Aside0.mk (blk_below (g := gb382) (o := .cells #[.bool t377, .slice Ao11 t378.length co11] 27 (0, 0)) (zk BK382.out) hb); have n3_ := Aside0.mk (blk_below (g := gb388) (o := .cells #[.bool t383, .slice Ao16 t384.length co16] 27 (0, 0)) (zk BK388.out) hb); have n4_ := Aside0.mk (below_step zb hb); clear HO_383001; clear HO_389001; clear BK382; clear BK388; clear HB; have HO_383001 := n0_; have HO_389001 := n1_; have BK382 := n2_; have BK388 := n3_; have HB := n4_; clear n0_ n1_ n2_ n3_ n4_; (try clear hb); (try clear hb2); (try clear hk); (try clear hi)))
            go_ret
            exact ⟨by first | rfl | (simp [errW_none, errW_some] <;> rfl) | (simp [*, errW_none, errW_some] <;> rfl), zb⟩
def laws_FnBigGet.Pure : Prop := ∀ (l0 : List Int), l0.length ≤ maxLen → l0.length * 1 ≤ 140737488351232 → (∀ x ∈ l0, (Lit.int .u8 x).wf = true) → ∃ k, laws_FnBigGet.f k l0 = some true
theorem laws_FnBigGet.walk (P : laws_FnBigGet.Pure) (a0 : Option Addr) (len0 cap0 : Nat) (z0 : List Int) (w : World) (hT : EnvA w) (w0 : (a0 = none ∧ len0 = 0 ∧ cap0 = 0 ∧ z0 = []) ∨ ∃ x, a0 = some x ∧ len0 ≤ cap0 ∧ cap0 ≤ maxLen ∧ z0.length = cap0 ∧ (∀ i, i < z0.length → w.cell? (x.add i) = some (.int .u8 (z0.getD i 0))) ∧ ∀ n ∈ z0, (Lit.int .u8 n).wf = true) (y0 : len0 * 1 ≤ 140737488351232) :
    Calls Tryd.prog 7 #[.slice a0 len0 cap0] w fun e w' => e = .returned (.bool true) ∧ Below w.heap.size w w' := by
  obtain ⟨l0, rfl, hr0, hm0, hw0, hc0⟩ := ReadsInt.ofRowC w0
  obtain ⟨k, h⟩ := P l0 hm0 y0 hw0
  refine (laws_FnBigGet.calls k _ _ l0 true w hT (Kd.C_of_reads (d := (0 : Int)) (h1 := fun _ => rfl) hr0) hc0 h).mono ?_
  rintro e w' ⟨rfl, hd⟩
  exact ⟨rfl, hd⟩
end Go.Proofs.YtdbgpoileffbeaaDoor.Pr
end
section
namespace Go.Proofs.YtdbgpoileffbeaaDoor.Str
open Go.Lib Go.RowKit Go.Proofs.YtdbgpoileffbeaaDoor.Dec Go.Proofs.YtdbgpoileffbeaaDoor.Pr Go.Proofs.YtdbgpoileffbeaaDoor.Ext Go.Proofs.YtdbgpoileffbeaaDoorW.PrintWords Go.Proofs.YtdbgpoileffbeaaDoorW.PrintLast Go.Proofs.YtdbgpoileffbeaaDoorW.PrintMore
set_option linter.unusedVariables false
set_option linter.unusedSimpArgs false
def str (l : List UInt8) : ByteArray := ⟨l.toArray⟩
theorem str_eta (s : ByteArray) : s = str s.data.toList := by unfold str; simp
theorem str_size (l : List UInt8) : (str l).size = l.length := by unfold str; simp [ByteArray.size]
theorem str_data (l : List UInt8) : (str l).data.toList = l := by unfold str; simp
theorem str_toList (l : List UInt8) : (str l).toList = l := by rw [ByteArray.toList_eq, str_data]
theorem str_append (a b : List UInt8) : str a ++ str b = str (a ++ b) := by
  apply ByteArray.ext
  simp [str]
theorem str_extract (l : List UInt8) (a b : Nat) : (str l).extract a b = str ((l.drop a).take (b - a)) := by
  rw [extract_eq, str_data]; rfl
theorem str_bt (l : List UInt8) {i : Int} (h0 : 0 ≤ i) (h1 : i < l.length) : bt (str l) i = ((l[i.toNat]'(by omega)).toNat : Int) := by
  unfold bt
  rw [dif_pos (by rw [str_size]; omega)]
  rfl
theorem str_btD (l : List UInt8) {i : Int} (h0 : 0 ≤ i) (h1 : i < l.length) : bt (str l) i = ((l.getD i.toNat 0).toNat : Int) := by
  rw [str_bt l h0 h1, List.getD_eq_getElem?_getD, List.getElem?_eq_getElem (by omega)]; rfl
theorem bS {α β : Type} (a : α) (f : α → Option β) : (some a).bind f = f a := by have h := Option.bind_some a f; rw [h]
theorem w64 {x : Int} (h : -9223372036854775808 ≤ x) (h' : x ≤ 9223372036854775807) : wrap64 x = x := by unfold wrap64; omega
theorem strOf_one {d : Int} (h0 : 0 ≤ d) (h1 : d < 10) : strOfNums [(wrap64 (48 + d)) % 256] = str [UInt8.ofNat (48 + d.toNat)] := by
  rw [w64 (by omega) (by omega), show (48 + d) % 256 = 48 + d from by omega]
  have e : (48 + d).toNat = 48 + d.toNat := by omega
  unfold strOfNums str
  simp [e]
theorem itoa_nonneg {n : Int} (h : 0 ≤ n) : itoa n = decDigits n.toNat := by unfold itoa; rw [if_neg (by omega)]
theorem itoa_neg {n : Int} (h : n < 0) : itoa n = 45 :: decDigits n.natAbs := by unfold itoa; rw [if_pos h]
theorem decDigits_le (n : Nat) : (decDigits n).length ≤ n + 1 := by
  induction n using Nat.strongRecOn with
  | ind n ih =>
    rw [decDigits]
    split
    · simp
    · have := ih (n / 10) (by omega)
      rw [List.length_append, List.length_singleton]; omega
theorem l1Dec_nonneg (m : Nat) : ∀ (k : Nat) (n : Int), 0 ≤ n → n ≤ 9223372036854775807 → n < 10 ^ m → m < k → spec_l1Dec.f k n = some (str (decDigits n.toNat)) := by
  induction m with
  | zero =>
    intro k n h0 _ hm hk
    obtain ⟨k, rfl⟩ : ∃ j, k = j + 1 := ⟨k - 1, by omega⟩
    have hn : n = 0 := by simp at hm; omega
    subst hn
    rw [spec_l1Dec.f, if_neg (by omega), if_neg (by omega), if_pos (by omega), strOf_one (by omega) (by omega), decDigits, dif_pos (by decide)]
  | succ m ih =>
    intro k n h0 h1 hm hk
    obtain ⟨k, rfl⟩ : ∃ j, k = j + 1 := ⟨k - 1, by omega⟩
    rw [spec_l1Dec.f, if_neg (by omega), if_neg (by omega)]
    by_cases h : n < 10
    · rw [if_pos h, strOf_one h0 h, decDigits, dif_pos (by omega)]
    · have hp : (10 : Int) ^ (m + 1) = 10 ^ m * 10 := Int.pow_succ ..
      rw [if_neg h, Int.tdiv_eq_ediv_of_nonneg h0, w64 (by omega) (by omega), ih k (n / 10) (by omega) (by omega) (by rw [hp] at hm; omega) (by omega), Int.tmod_eq_emod_of_nonneg h0]
      simp only [bS]
      have hd := decDigits_le (n / 10).toNat
      have hd2 : (decDigits (n / 10).toNat).length ≤ 19 := decDigits_len_le (by decide) (by omega)
      rw [strOf_one (by omega) (by omega), str_size, str_size, if_pos (by simp; omega), str_append]
      congr 2
      rw [show n.toNat = n.toNat from rfl, decDigits.eq_def n.toNat, dif_neg (by omega)]
      rw [show (n / 10).toNat = n.toNat / 10 from by omega, show (n % 10).toNat = n.toNat % 10 from by omega]
theorem p19 : (10 : Int) ^ 19 = 10000000000000000000 := by decide
theorem l1Dec_eq {n : Int} (h0 : -9223372036854775808 ≤ n) (h1 : n ≤ 9223372036854775807) (k : Nat) (hk : 25 ≤ k) : spec_l1Dec.f k n = some (str (itoa n)) := by
  by_cases h : 0 ≤ n
  · rw [l1Dec_nonneg 19 k n h h1 (by rw [p19]; omega) (by omega), itoa_nonneg h]
  · obtain ⟨k, rfl⟩ : ∃ j, k = j + 1 := ⟨k - 1, by omega⟩
    rw [spec_l1Dec.f]
    by_cases hm : n < -9223372036854775807
    · have : n = -9223372036854775808 := by omega
      subst this
      rw [if_pos hm]
      have e : itoa (-9223372036854775808) = [45, 57, 50, 50, 51, 51, 55, 50, 48, 51, 54, 56, 53, 52, 55, 55, 53, 56, 48, 56] := by decide +kernel
      rw [e]; rfl
    · have hd2 : (decDigits (-n).toNat).length ≤ 19 := decDigits_len_le (by decide) (by omega)
      rw [if_neg hm, if_pos (by omega), w64 (by omega) (by omega), l1Dec_nonneg 19 k (-n) (by omega) (by omega) (by rw [p19]; omega) (by omega)]
      simp only [bS]
      rw [str_size, if_pos (by omega), itoa_neg (by omega), show n.natAbs = (-n).toNat from by omega]
      exact congrArg some (str_append [45] _)
theorem itoa_len {n : Int} (h0 : -9223372036854775808 ≤ n) (h1 : n ≤ 9223372036854775807) : (itoa n).length ≤ 20 := by
  by_cases h : 0 ≤ n
  · rw [itoa_nonneg h]
    have : (decDigits n.toNat).length ≤ 19 := decDigits_len_le (by decide) (by omega)
    omega
  · rw [itoa_neg (by omega)]
    have : (decDigits n.natAbs).length ≤ 19 := decDigits_len_le (by decide) (by omega)
    rw [List.length_cons]; omega
end Go.Proofs.YtdbgpoileffbeaaDoor.Str
end
section
namespace Go.Proofs.YtdbgpoileffbeaaDoor.Val
open Go.RowKit Go.Proofs.YtdbgpoileffbeaaDoor.Pr Go.Proofs.YtdbgpoileffbeaaDoor.Ext Go.Proofs.YtdbgpoileffbeaaDoor.Jt Go.Proofs.YtdbgpoileffbeaaDoorW.PrintWords Go.Proofs.YtdbgpoileffbeaaDoorW.PrintLast Go.Proofs.YtdbgpoileffbeaaDoorW.PrintMore
set_option linter.unusedVariables false
set_option linter.unusedSimpArgs false
theorem w64 {x : Int} (h : -9223372036854775808 ≤ x) (h' : x ≤ 9223372036854775807) : wrap64 x = x := by unfold wrap64; omega
theorem rdn (l : List Int) (i : Int) : rd l i = l.getD i.toNat 0 := rfl
def okD (x : Int) : Bool := decide (0 ≤ x) && decide (x ≤ 9999)
def okB (neg : Bool) (l : List Int) : Bool := decide (l.length ≤ 16) && l.all okD && (decide (l.length = 0) || decide (l.getD (l.length - 1) 0 ≠ 0)) && (!neg || decide (l.length ≠ 0))
theorem okB_iff (neg : Bool) (l : List Int) : okB neg l = true ↔ BOk neg l := by
  unfold okB BOk Dig Nz
  simp only [Bool.and_eq_true, decide_eq_true_eq, List.all_eq_true, okD, Bool.or_eq_true, Bool.not_eq_true']
  constructor
  · rintro ⟨⟨⟨a, b⟩, c⟩, d⟩
    exact ⟨a, b, c, fun h => d.resolve_left (by simp [h])⟩
  · rintro ⟨a, b, c, d⟩
    refine ⟨⟨⟨a, b⟩, c⟩, ?_⟩
    cases neg
    · exact .inl rfl
    · exact .inr (d rfl)
theorem any_bad (l : List Int) : l.any bad = !(l.all okD) := by
  induction l with
  | nil => rfl
  | cons x xs ih => rw [List.any_cons, List.all_cons, ih, Bool.not_and]; rfl
theorem bigOk_f (neg : Bool) (l : List Int) : impl_BigOk.f neg l = some (okB neg l) := by
  unfold impl_BigOk.f okB containsBad.f
  simp only [any_bad, Option.bind_some, Bool.not_not]
  by_cases h16 : (l.length : Int) ≤ 16
  · rw [if_pos h16, decide_eq_true (show l.length ≤ 16 by omega), Bool.true_and]
    by_cases h0 : (l.length : Int) = 0
    · rw [if_pos h0]
      have h0' : l.length = 0 := by omega
      cases neg
      · rw [if_neg (by decide)]; simp [h0']
      · rw [if_pos rfl, if_neg (by omega)]; simp [h0']
    · have h0' : l.length ≠ 0 := by omega
      rw [if_neg h0, if_pos (by omega), w64 (by omega) (by omega), if_pos (by omega), if_pos (by omega), rdn, show ((l.length : Int) - 1).toNat = l.length - 1 from by omega, decide_eq_false h0', decide_eq_true (show l.length ≠ 0 from h0'), Bool.false_or, Bool.or_true, Bool.and_true]
      by_cases hz : l.getD (l.length - 1) 0 = 0
      · rw [if_pos hz, decide_eq_false (by simpa using hz)]; simp
      · rw [if_neg hz, decide_eq_true hz]; simp
  · rw [if_neg h16, decide_eq_false (show ¬ l.length ≤ 16 by omega)]; simp
theorem rdN (l : List Int) (i : Nat) : rd l (i : Int) = l.getD i 0 := by unfold rd; rw [Int.toNat_natCast]
theorem getD_set_ne {l : List Int} {i j : Nat} (v : Int) (h : i < l.length) (hne : j ≠ i) : (l.set i v).getD j 0 = l.getD j 0 := by rw [getD_set l i j v h, if_neg hne]
end Go.Proofs.YtdbgpoileffbeaaDoor.Val
end
section
namespace Go.Proofs.YtdbgpoileffbeaaDoor.Str
open Go.Lib Go.RowKit Go.Proofs.YtdbgpoileffbeaaDoor.Dec Go.Proofs.YtdbgpoileffbeaaDoor.Jt Go.Proofs.YtdbgpoileffbeaaDoor.Val Go.Proofs.YtdbgpoileffbeaaDoor.Pr Go.Proofs.YtdbgpoileffbeaaDoor.Ext Go.Proofs.YtdbgpoileffbeaaDoorW.PrintWords Go.Proofs.YtdbgpoileffbeaaDoorW.PrintLast Go.Proofs.YtdbgpoileffbeaaDoorW.PrintMore
set_option linter.unusedVariables false
set_option linter.unusedSimpArgs false
theorem specWide_l0 (d : Nat) : ∀ (k : Nat) (w : Int) (l : List UInt8), w ≤ 100 → l.length ≤ 100 → w - l.length ≤ d → d < k → spec_l1Wide.l0 k w (str l) = some (str (zerosL (w.toNat - l.length) ++ l)) := by
  induction d with
  | zero =>
    intro k w l hw hl hd hk
    obtain ⟨k, rfl⟩ : ∃ j, k = j + 1 := ⟨k - 1, by omega⟩
    rw [spec_l1Wide.l0, str_size, if_neg (by omega), show w.toNat - l.length = 0 by omega]
    rfl
  | succ d ih =>
    intro k w l hw hl hd hk
    obtain ⟨k, rfl⟩ : ∃ j, k = j + 1 := ⟨k - 1, by omega⟩
    rw [spec_l1Wide.l0, str_size]
    by_cases h : (l.length : Int) < w
    · rw [if_pos h, if_pos (by omega), show (⟨#[48]⟩ : ByteArray) = str [48] from rfl, str_append]
      by_cases h2 : l.length + 1 ≤ 100
      · rw [ih k w ([48] ++ l) hw (by simp; omega) (by simp; omega) (by omega)]
        congr 2
        rw [List.length_append, List.length_singleton, ← List.append_assoc]
        congr 1
        rw [show w.toNat - l.length = (w.toNat - (1 + l.length)) + 1 by omega]
        unfold zerosL
        rw [List.replicate_succ']
      · exfalso; omega
    · rw [if_neg h, show w.toNat - l.length = 0 by omega]
      rfl
theorem specWide {n w : Int} (h0 : 0 ≤ n) (h1 : n ≤ 9223372036854775807) (w0 : 0 ≤ w) (w1 : w ≤ 90) (k : Nat) (hk : 120 ≤ k) : spec_l1Wide.f k n w = some (str (padL n.toNat w.toNat)) := by
  unfold spec_l1Wide.f
  have hl := itoa_len (n := n) (by omega) h1
  rw [l1Dec_eq (by omega) h1 k (by omega)]
  simp only [bS]
  rw [itoa_nonneg h0] at hl ⊢
  rw [specWide_l0 100 k w _ (by omega) (by omega) (by omega) (by omega)]
  rfl
theorem textB_len {l : List Int} (hd : Dig l) (k : Nat) : (textB (l.drop k)).length ≤ 4 * l.length + 1 := by
  unfold textB
  split
  · simp
  · have h := textL_len (l.drop k) (fun x hx => hd x (List.mem_of_mem_drop hx))
    rw [List.length_drop] at h
    omega
theorem dig_getD {l : List Int} (hd : Dig l) (i : Nat) : 0 ≤ l.getD i 0 ∧ l.getD i 0 ≤ 9999 := by
  by_cases h : i < l.length
  · rw [getD_lt h]; exact hd _ (List.getElem_mem h)
  · rw [getD_ge (by omega)]; omega
theorem figs_l0 {l : List Int} (hd : Dig l) (hl : l.length ≤ 16) : ∀ (m k : Nat), m < l.length → m + 130 ≤ k → spec_l1Figures.l0 k l (str (textB (l.drop m))) ((m : Int) - 1) = some (str (textB l)) := by
  intro m
  induction m with
  | zero =>
    intro k hm hk
    obtain ⟨k, rfl⟩ : ∃ j, k = j + 1 := ⟨k - 1, by omega⟩
    rw [spec_l1Figures.l0, if_neg (by omega), List.drop_zero]
  | succ m ih =>
    intro k hm hk
    obtain ⟨k, rfl⟩ : ∃ j, k = j + 1 := ⟨k - 1, by omega⟩
    have e : ((m + 1 : Nat) : Int) - 1 = (m : Int) := by omega
    have hb := dig_getD hd m
    have hp := pad4_len hb.1 hb.2
    have ht := textB_len hd (m + 1)
    rw [e, spec_l1Figures.l0, if_pos (by omega), if_pos (by omega), if_pos (by omega), rdN, specWide hb.1 (by omega) (by omega) (by omega) k (by omega), show (4 : Int).toNat = 4 from rfl]
    simp only [bS]
    rw [show padL (l.getD m 0).toNat 4 = pad4 (l.getD m 0) from rfl, str_size, str_size, if_pos (by omega), str_append, Str.w64 (by omega) (by omega)]
    have hs := textB_step l (k := m) (by omega)
    rw [if_pos (by omega)] at hs
    rw [← hs]
    exact ih k (by omega) (by omega)
theorem figs {l : List Int} (hd : Dig l) (hl : l.length ≤ 16) (k : Nat) (hk : 200 ≤ k) : spec_l1Figures.f k l = some (str (textL l)) := by
  unfold spec_l1Figures.f
  by_cases h0 : l = []
  · subst h0; rfl
  · have hpos : 0 < l.length := List.length_pos_iff.2 h0
    have hb := dig_getD hd (l.length - 1)
    rw [if_neg (by omega), Str.w64 (by omega) (by omega), if_pos (by omega), if_pos (by omega), show ((l.length : Int) - 1) = ((l.length - 1 : Nat) : Int) by omega, rdN, l1Dec_eq (by omega) (by omega) k (by omega)]
    simp only [bS]
    have hs := textB_step l (k := l.length - 1) (by omega)
    rw [if_neg (by omega), show l.length - 1 + 1 = l.length by omega, List.drop_length, show textB [] = [] from rfl, List.nil_append] at hs
    rw [itoa_nonneg hb.1, ← hs, Str.w64 (by omega) (by omega), show ((l.length : Int) - 2) = ((l.length - 1 : Nat) : Int) - 1 by omega, figs_l0 hd hl (l.length - 1) k (by omega) (by omega)]
    unfold textB
    rw [if_neg h0]
theorem textS {l : List Int} (hd : Dig l) (hl : l.length ≤ 16) : impl_limbs_text.f l = some (str (textL l)) := by
  unfold impl_limbs_text.f
  rw [if_pos ⟨hd, by omega⟩]; rfl
def bigT (n : Bool) (l : List Int) : List UInt8 := if n = true then 45 :: textL l else textL l
theorem textL_16 {l : List Int} (hd : Dig l) (hl : l.length ≤ 16) : (textL l).length ≤ 65 := by have := textL_len l hd; omega
theorem implBigPut (n : Bool) (l : List Int) : impl_BigPut.f n l = some (str (if okB n l = true then bigT n l else [])) := by
  unfold impl_BigPut.f bigT
  rw [bigOk_f]; simp only [bS]
  by_cases h : okB n l = true
  · obtain ⟨hl, hd, hz, hn⟩ := (okB_iff n l).1 h
    have h65 := textL_16 hd hl
    rw [if_pos h, if_pos h, textS hd hl]; simp only [bS]
    cases n
    · rfl
    · rw [if_pos rfl, if_pos rfl, str_size, if_pos (by omega), show (⟨#[45]⟩ : ByteArray) = str [45] from rfl, str_append]; rfl
  · rw [if_neg h, if_neg h]; rfl
theorem specPut {n : Bool} {l : List Int} (hd : Dig l) (hl : l.length ≤ 16) (k : Nat) (hk : 200 ≤ k) : spec_l1Put.f k n l = some (str (bigT n l)) := by
  unfold spec_l1Put.f bigT
  have h65 := textL_16 hd hl
  rw [figs hd hl k hk]; simp only [bS]
  cases n
  · rfl
  · rw [if_pos rfl, if_pos rfl, str_size, if_pos (by omega), show (⟨#[45]⟩ : ByteArray) = str [45] from rfl, str_append]; rfl
end Go.Proofs.YtdbgpoileffbeaaDoor.Str
end
section
namespace Go.Proofs.YtdbgpoileffbeaaDoor.Pr
open Go.RowKit Go.Proofs.YtdbgpoileffbeaaDoorW.PrintWords Go.Proofs.YtdbgpoileffbeaaDoorW.PrintLast Go.Proofs.YtdbgpoileffbeaaDoor.Ext Go.Proofs.YtdbgpoileffbeaaDoorW.PrintMore
attribute [local go_sem] max2_int min2_int max_two min_two max_three min_three max_four min_four
set_option linter.unusedVariables false
set_option linter.unusedSimpArgs false
def impl_BigMul.f (k : Nat) (a0_0 : Bool) (l0_1 : List Int) (a1_0 : Bool) (l1_1 : List Int) : Option (Bool × List Int × Bool) := (impl_bigs.f a0_0 l0_1 a1_0 l1_1).bind fun t463 => (if t463 = true then ((impl_Big_signed.f a0_0 l0_1).bind fun bt464 => ((impl_Big_signed.f a1_0 l1_1).bind fun bt468 => ((impl_signed_mul.f k bt464.1 bt464.2 bt468.1 bt468.2).bind fun bt472 => ((impl_big.f k bt472.1 bt472.2).bind fun bt477 => (some (bt477.1, bt477.2.1, bt477.2.2)))))) else (some (false, ([] : List Int), false)))
end Go.Proofs.YtdbgpoileffbeaaDoor.Pr
end
section
namespace Go.Proofs.YtdbgpoileffbeaaDoor.Val
open Go.RowKit Go.Proofs.YtdbgpoileffbeaaDoor.Pr Go.Proofs.YtdbgpoileffbeaaDoor.Ext Go.Proofs.YtdbgpoileffbeaaDoor.Jt Go.Proofs.YtdbgpoileffbeaaDoorW.PrintWords Go.Proofs.YtdbgpoileffbeaaDoorW.PrintLast Go.Proofs.YtdbgpoileffbeaaDoorW.PrintMore
set_option linter.unusedVariables false
set_option linter.unusedSimpArgs false
def trimN (l : List Int) : Nat → Nat
  | 0 => 0
  | n + 1 => if l.getD n 0 = 0 then trimN l n else n + 1
def trimL (l : List Int) : List Int := l.take (trimN l l.length)
theorem trimN_le (l : List Int) (n : Nat) : trimN l n ≤ n := by
  induction n with
  | zero => exact Nat.le_refl _
  | succ n ih => unfold trimN; split <;> omega
theorem trimN_hi (l : List Int) (n : Nat) : ∀ j, trimN l n ≤ j → j < n → l.getD j 0 = 0 := by
  induction n with
  | zero => intro j _ h; omega
  | succ n ih =>
    intro j h1 h2
    unfold trimN at h1
    split at h1
    · rename_i h
      by_cases hj : j = n
      · rw [hj]; exact h
      · exact ih j h1 (by omega)
    · omega
theorem trimN_nz (l : List Int) (n : Nat) : 0 < trimN l n → l.getD (trimN l n - 1) 0 ≠ 0 := by
  induction n with
  | zero => intro h; simp [trimN] at h
  | succ n ih =>
    unfold trimN
    split
    · exact ih
    · rename_i h; intro _; rw [Nat.add_sub_cancel]; exact h
theorem trimL_of (l : List Int) : TrimOf l (trimL l) := ⟨trimN l l.length, trimN_le _ _, rfl, trimN_hi _ _, trimN_nz _ _⟩
theorem trimL_len (l : List Int) : (trimL l).length ≤ l.length := (trimL_of l).len
theorem trimL_rep {l : List Int} (hd : Dig l) : trimL l = rep (val l) := (trimL_of l).rep hd rfl
theorem sTrim_l0 (l : List Int) (hl : l.length < 1000000) : ∀ (n k : Nat), n ≤ l.length → n + 1 ≤ k → spec_l1Trim.l0 k l (n : Int) = some (l.take (trimN l n)) := by
  intro n
  induction n with
  | zero =>
    intro k hn hk
    obtain ⟨k, rfl⟩ : ∃ j, k = j + 1 := ⟨k - 1, by omega⟩
    rw [spec_l1Trim.l0, if_neg (by omega)]
    simp only [Option.bind_some]
    rw [if_pos (by omega), if_pos (by omega), if_pos (by simp)]
    simp [trimN]
  | succ n ih =>
    intro k hn hk
    obtain ⟨k, rfl⟩ : ∃ j, k = j + 1 := ⟨k - 1, by omega⟩
    rw [spec_l1Trim.l0, if_pos (by omega), w64 (by omega) (by omega), show (((n + 1 : Nat) : Int) - 1) = (n : Int) from by omega, if_pos (by omega), if_pos (by omega), rdn, Int.toNat_natCast]
    unfold trimN
    by_cases h : l.getD n 0 = 0
    · rw [if_pos h, if_pos h]; exact ih k (by omega) (by omega)
    · rw [if_neg h, if_neg h]
      simp only [Option.bind_some]
      rw [if_pos (by omega), if_pos (by omega), Int.toNat_natCast, if_pos (by rw [List.length_take]; simp; omega)]
      simp
theorem sTrim_ge (l : List Int) (hl : l.length < 1000000) (k : Nat) (hk : l.length + 1 ≤ k) : spec_l1Trim.f k l = some (trimL l) := sTrim_l0 l hl l.length k (Nat.le_refl _) hk
theorem iTrim_l0 (l : List Int) (hl : l.length < 1000000) : ∀ (n k : Nat), n ≤ l.length → n + 1 ≤ k → impl_limbs_trim.l0 k (l.take n) = some (l.take (trimN l n)) := by
  intro n
  induction n with
  | zero =>
    intro k hn hk
    obtain ⟨k, rfl⟩ : ∃ j, k = j + 1 := ⟨k - 1, by omega⟩
    rw [impl_limbs_trim.l0, if_neg (by simp)]
    rfl
  | succ n ih =>
    intro k hn hk
    obtain ⟨k, rfl⟩ : ∃ j, k = j + 1 := ⟨k - 1, by omega⟩
    have hlen : (l.take (n + 1)).length = n + 1 := by rw [List.length_take]; omega
    rw [impl_limbs_trim.l0, hlen, if_pos (by omega), w64 (by omega) (by omega), show (((n + 1 : Nat) : Int) - 1) = (n : Int) from by omega, if_pos (by omega), if_pos (by omega), rdn, Int.toNat_natCast, getD_take l (by omega)]
    unfold trimN
    by_cases h : l.getD n 0 = 0
    · rw [if_pos h, if_pos h, if_pos (by omega), List.take_take, Nat.min_eq_left (by omega)]; exact ih k (by omega) (by omega)
    · rw [if_neg h, if_neg h]
theorem iTrim_ge (l : List Int) (hl : l.length < 1000000) (k : Nat) (hk : l.length + 1 ≤ k) : impl_limbs_trim.f k l = some (trimL l) := by
  have e := iTrim_l0 l hl l.length k (Nat.le_refl _) hk
  rw [List.take_length] at e
  exact e
def bigR (x : Int) : Bool × List Int × Bool := if -pw 16 < x ∧ x < pw 16 then (mkN x, mkL x, true) else (false, [], false)
theorem bigR_of {neg : Bool} {l : List Int} (hd : Dig l) :
    (if ((rep (val l)).length : Int) > 16 then (false, ([] : List Int), false) else if neg = true then (decide (0 < (rep (val l)).length), rep (val l), true) else (false, rep (val l), true)) = bigR (bigv neg l) := by
  have h0 := val_nonneg hd
  have hr := rep_len h0 16
  have hp := pw_pos 16
  unfold bigR
  by_cases h : ((rep (val l)).length : Int) > 16
  · have hv : ¬ val l < pw 16 := fun hc => by have := hr.2 hc; omega
    rw [if_pos h, if_neg]
    unfold bigv
    split <;> omega
  · have hv : val l < pw 16 := hr.1 (by omega)
    have hin : -pw 16 < bigv neg l ∧ bigv neg l < pw 16 := by unfold bigv; split <;> omega
    rw [if_neg h, if_pos hin]
    cases neg
    · rw [if_neg (by decide)]
      unfold bigv mkN mkL
      rw [if_neg (by decide), if_neg (by omega), decide_eq_false (by omega)]
    · rw [if_pos rfl]
      unfold bigv mkN mkL
      rw [if_pos rfl]
      have hz := rep_nil h0
      by_cases hv0 : val l = 0
      · rw [hv0, rep_zero]; simp [rep_zero]
      · rw [if_pos (by omega), Int.neg_neg, decide_eq_true (show -val l < 0 by omega)]
        have : 0 < (rep (val l)).length := by
          apply Nat.pos_of_ne_zero
          intro hc
          exact hv0 (hz.1 (List.length_eq_zero_iff.1 hc))
        rw [decide_eq_true this]
theorem l1Big_ge {l : List Int} (hd : Dig l) (hl : l.length ≤ 1000) (neg : Bool) (k : Nat) (hk : 1010 ≤ k) : spec_l1Big.f k neg l = some (bigR (bigv neg l)) := by
  unfold spec_l1Big.f
  rw [sTrim_ge l (by omega) k (by omega), ← bigR_of hd, trimL_rep hd]
  simp only [Option.bind_some]
  (repeat' split) <;> simp_all
theorem big_ge {l : List Int} (hd : Dig l) (hl : l.length ≤ 1000) (neg : Bool) (k : Nat) (hk : 1010 ≤ k) : impl_big.f k neg l = some (bigR (bigv neg l)) := by
  unfold impl_big.f impl_clone_int.f clone99.f
  rw [iTrim_ge l (by omega) k (by omega), ← bigR_of hd]
  have := trimL_len l
  simp only [Option.bind_some]
  rw [if_pos (show (trimL l).length < 17592186044416 by omega), trimL_rep hd]
  simp only [Option.bind_some]
  (repeat' split) <;> simp_all
theorem bigR_ok {neg : Bool} {l : List Int} (h : BOk neg l) : bigR (bigv neg l) = (neg, l, true) := by
  unfold bigR
  rw [if_pos (bigv_bd h), (mk_of h).1, (mk_of h).2]
theorem rep_len_le {v : Int} (h0 : 0 ≤ v) {n : Nat} (h : v < pw n) : (rep v).length ≤ n := (rep_len h0 n).2 h
theorem jtInts_l0 {a b : List Int} (hl : a.length = b.length) (hL : a.length < 1000000) : ∀ (m k i : Nat), i + m = a.length → m + 1 ≤ k → laws_jtInts.l0 k a b (i : Int) = some (decide (a.drop i = b.drop i)) := by
  intro m
  induction m with
  | zero =>
    intro k i hi hk
    obtain ⟨k, rfl⟩ : ∃ j, k = j + 1 := ⟨k - 1, by omega⟩
    rw [laws_jtInts.l0, if_neg (by omega), List.drop_eq_nil_of_le (by omega), List.drop_eq_nil_of_le (by omega)]
    simp
  | succ m ih =>
    intro k i hi hk
    obtain ⟨k, rfl⟩ : ∃ j, k = j + 1 := ⟨k - 1, by omega⟩
    rw [laws_jtInts.l0, if_pos (by omega), if_pos (by omega), if_pos (by omega), rdN, rdN, drop_cons (l := a) (by omega), drop_cons (l := b) (by omega)]
    by_cases h : a.getD i 0 = b.getD i 0
    · rw [if_pos h, w64 (by omega) (by omega), show ((i : Int) + 1) = ((i + 1 : Nat) : Int) from by omega, ih k (i + 1) (by omega) (by omega), h]
      simp
    · rw [if_neg h]
      simp only [List.cons.injEq, h, false_and, decide_false]
theorem jtBig_ge (n : Bool) (l : List Int) (n' : Bool) (l' : List Int) (hl : l.length ≤ 1000) (k : Nat) (hk : 1010 ≤ k) : laws_jtBig.f k n l n' l' = some (decide (n = n' ∧ l = l')) := by
  unfold laws_jtBig.f laws_jtInts.f
  by_cases hn : n = n'
  · rw [if_pos (by simp [hn])]
    by_cases h : (l.length : Int) = (l'.length : Int)
    · have e := jtInts_l0 (a := l) (b := l') (by omega) (by omega) l.length k 0 (by omega) (by omega)
      rw [List.drop_zero, List.drop_zero] at e
      rw [if_pos h]
      simp only [hn, true_and]
      rw [show (0 : Int) = ((0 : Nat) : Int) from rfl, e]
      rfl
    · rw [if_neg h]
      have : l ≠ l' := fun hc => h (by rw [hc])
      simp [this]
  · rw [if_neg (by simp [hn])]
    simp [hn]
theorem bS {α β : Type} (a : α) (f : α → Option β) : (some a).bind f = f a := by have h := Option.bind_some a f; rw [h]
end Go.Proofs.YtdbgpoileffbeaaDoor.Val
end
section
namespace Go.Proofs.YtdbgpoileffbeaaDoor.Str
open Go.Lib Go.RowKit Go.Proofs.YtdbgpoileffbeaaDoor.Dec Go.Proofs.YtdbgpoileffbeaaDoor.Jt Go.Proofs.YtdbgpoileffbeaaDoor.Val Go.Proofs.YtdbgpoileffbeaaDoor.Pr Go.Proofs.YtdbgpoileffbeaaDoor.Ext Go.Proofs.YtdbgpoileffbeaaDoorW.PrintWords Go.Proofs.YtdbgpoileffbeaaDoorW.PrintLast Go.Proofs.YtdbgpoileffbeaaDoorW.PrintMore
set_option linter.unusedVariables false
set_option linter.unusedSimpArgs false
theorem parse_digs : ∀ (l : List UInt8) (a : Nat), Digs l → (a + 1) * 10 ^ l.length ≤ 10 ^ 18 → parseUint10 a l = .ok (dvalA a l)
  | [], a, _, _ => by rw [parseUint10, dvalA_nil]
  | b :: r, a, hd, hb => by
    have h0 := hd.head
    unfold IsD at h0
    rw [List.length_cons, Nat.pow_succ] at hb
    have hp : 1 ≤ 10 ^ r.length := Nat.one_le_pow _ _ (by decide)
    have h1 : (a + 1) * 1 ≤ (a + 1) * 10 ^ r.length := Nat.mul_le_mul_left _ hp
    have h2 : (a + 1) * (10 ^ r.length * 10) = ((a + 1) * 10 ^ r.length) * 10 := (Nat.mul_assoc ..).symm
    rw [h2] at hb
    have e18 : 10 ^ 18 = 1000000000000000000 := by decide
    rw [e18] at hb
    have ha : a + 1 ≤ 100000000000000000 := by omega
    simp only [parseUint10]
    rw [if_pos h0, if_neg (by omega), if_neg (by omega), dvalA_cons]
    refine parse_digs r _ hd.tail ?_
    rw [e18]
    have h3 : (a * 10 + (b.toNat - 48) + 1) * 10 ^ r.length ≤ ((a + 1) * 10) * 10 ^ r.length := Nat.mul_le_mul_right _ (by omega)
    have h4 : ((a + 1) * 10) * 10 ^ r.length = ((a + 1) * 10 ^ r.length) * 10 := by rw [Nat.mul_assoc, Nat.mul_comm 10, ← Nat.mul_assoc]
    omega
theorem atoiAll_digs {l : List UInt8} (hd : Digs l) (h0 : l ≠ []) (hl : l.length ≤ 18) : atoiAll l = .ok (dval l : Int) := by
  cases l with
  | nil => exact absurd rfl h0
  | cons b r =>
    have hb := hd.head
    unfold IsD at hb
    have hp := parse_digs (b :: r) 0 hd (by
      have : 10 ^ (b :: r).length ≤ 10 ^ 18 := Nat.pow_le_pow_right (by decide) hl
      omega)
    have hv : dvalA 0 (b :: r) < 9223372036854775808 := by
      have h1 := dval_lt hd
      have h2 : 10 ^ (b :: r).length ≤ 10 ^ 18 := Nat.pow_le_pow_right (by decide) hl
      have e18 : 10 ^ 18 = 1000000000000000000 := by decide
      unfold dval at h1
      omega
    unfold atoiAll
    simp only
    rw [if_neg (by omega)]
    unfold parseMag
    rw [if_neg (by simp), hp]
    simp only
    rw [if_neg (by omega), if_neg (by omega), if_neg (by omega)]
    rfl
theorem getD_get {l : List UInt8} {i : Nat} (h : i < l.length) : l[i]? = some (l.getD i 0) := by
  rw [List.getD_eq_getElem?_getD, List.getElem?_eq_getElem h]; rfl
theorem digs_take {l : List UInt8} {i : Nat} (h : i < l.length) (hd : Digs (l.take i)) (hb : IsD (l.getD i 0)) : Digs (l.take (i + 1)) := by
  rw [List.take_succ_eq_append_getElem h]
  refine hd.append (fun b hb' => ?_)
  rw [List.mem_singleton.1 hb']
  have := getD_get h
  rw [List.getElem?_eq_getElem h] at this
  rw [Option.some.inj this]; exact hb
theorem isDigits_l0 (l : List UInt8) (hl : l.length ≤ 4000000000) : ∀ (d k i : Nat), i + d = l.length → d < k → Digs (l.take i) → impl_isDigits.l0 k (str l) (l.length : Int) (i : Int) = some (decide (Digs l ∧ l ≠ [])) := by
  intro d
  induction d with
  | zero =>
    intro k i hi hk hD
    obtain ⟨k, rfl⟩ : ∃ j, k = j + 1 := ⟨k - 1, by omega⟩
    have e : i = l.length := by omega
    rw [impl_isDigits.l0, if_neg (by omega), str_toList]
    rw [e, List.take_length] at hD
    congr 1
    by_cases h : l = []
    · subst h; rfl
    · rw [decide_eq_true ⟨hD, h⟩, bne_iff_ne.2 h]
  | succ d ih =>
    intro k i hi hk hD
    obtain ⟨k, rfl⟩ : ∃ j, k = j + 1 := ⟨k - 1, by omega⟩
    have bad : ¬ IsD (l.getD i 0) → decide (Digs l ∧ l ≠ []) = false := fun h => decide_eq_false (fun hn => h (hn.1.get (getD_get (by omega))))
    rw [impl_isDigits.l0, if_pos (by omega), if_pos (by omega), str_size, if_pos (by omega), str_btD l (by omega) (by omega), Int.toNat_natCast]
    by_cases h1 : ((l.getD i 0).toNat : Int) < 48
    · rw [if_pos h1, bad (by unfold IsD; omega)]
    · rw [if_neg h1]
      by_cases h2 : ((l.getD i 0).toNat : Int) > 57
      · rw [if_pos h2, bad (by unfold IsD; omega)]
      · rw [if_neg h2, Str.w64 (by omega) (by omega), show ((i : Int) + 1) = ((i + 1 : Nat) : Int) by omega]
        exact ih k (i + 1) (by omega) (by omega) (digs_take (by omega) hD (by unfold IsD; omega))
theorem isDigits_eq (l : List UInt8) (hl : l.length ≤ 4000000000) (k : Nat) (hk : l.length + 1 ≤ k) : impl_isDigits.f k (str l) = some (decide (Digs l ∧ l ≠ [])) := by
  unfold impl_isDigits.f
  rw [str_size]
  exact isDigits_l0 l hl l.length k 0 (by omega) (by omega) (by rw [List.take_zero]; exact Digs.nil)
theorem isFigures_l0 (l : List UInt8) (hl : l.length ≤ 4000000000) : ∀ (d k i : Nat), i + d = l.length → d < k → Digs (l.take i) → spec_l1IsFigures.l0 k (str l) (i : Int) = some (decide (Digs l ∧ Canon l)) := by
  intro d
  induction d with
  | zero =>
    intro k i hi hk hD
    obtain ⟨k, rfl⟩ : ∃ j, k = j + 1 := ⟨k - 1, by omega⟩
    have e : i = l.length := by omega
    rw [spec_l1IsFigures.l0, str_size, if_neg (by omega)]
    rw [e, List.take_length] at hD
    by_cases h1 : (l.length : Int) = 1
    · rw [if_pos h1, decide_eq_true ⟨hD, .inl (by omega)⟩]
    · rw [if_neg h1]
      by_cases h2 : (l.length : Int) > 1
      · rw [if_pos h2, if_pos (by omega)]
        cases l with
        | nil => simp at h2
        | cons b r =>
          rw [str_btD _ (by omega) (by omega)]
          congr 1
          have hb := UInt8.toNat_lt b
          by_cases h3 : b = 48
          · rw [decide_eq_false (by rintro ⟨_, c | ⟨_, c⟩⟩; · omega
                                    · exact c (by rw [h3]; rfl))]
            subst h3; rfl
          · rw [decide_eq_true ⟨hD, .inr ⟨by omega, fun e => h3 (Option.some.inj e)⟩⟩, bne_iff_ne.2 (fun e => h3 (UInt8.toNat_inj.1 (show b.toNat = (48 : UInt8).toNat by have : (48 : UInt8).toNat = 48 := rfl; have e' : ((b.toNat : Nat) : Int) = 48 := e; omega)))]
      · rw [if_neg h2, decide_eq_false (by rintro ⟨_, c | ⟨c, _⟩⟩ <;> omega)]
  | succ d ih =>
    intro k i hi hk hD
    obtain ⟨k, rfl⟩ : ∃ j, k = j + 1 := ⟨k - 1, by omega⟩
    have bad : ¬ IsD (l.getD i 0) → decide (Digs l ∧ Canon l) = false := fun h => decide_eq_false (fun hn => h (hn.1.get (getD_get (by omega))))
    rw [spec_l1IsFigures.l0, str_size, if_pos (by omega), if_pos (by omega), str_btD l (by omega) (by omega), Int.toNat_natCast]
    by_cases h1 : ((l.getD i 0).toNat : Int) < 48
    · rw [if_pos h1, bad (by unfold IsD; omega)]
    · rw [if_neg h1]
      by_cases h2 : ((l.getD i 0).toNat : Int) > 57
      · rw [if_pos h2, bad (by unfold IsD; omega)]
      · rw [if_neg h2, Str.w64 (by omega) (by omega), show ((i : Int) + 1) = ((i + 1 : Nat) : Int) by omega]
        exact ih k (i + 1) (by omega) (by omega) (digs_take (by omega) hD (by unfold IsD; omega))
theorem isFigures_eq (l : List UInt8) (hl : l.length ≤ 4000000000) (k : Nat) (hk : l.length + 1 ≤ k) : spec_l1IsFigures.f k (str l) = some (decide (Digs l ∧ Canon l)) := by
  unfold spec_l1IsFigures.f
  exact isFigures_l0 l hl l.length k 0 (by omega) (by omega) (by rw [List.take_zero]; exact Digs.nil)
theorem readL_split {s : List UInt8} {m : Nat} (h0 : 0 < m) (hm : m ≤ s.length) : readL (s.take m) = (dval ((s.take m).drop (m - 4)) : Int) :: readL (s.take (m - 4)) := by
  have hne : s.take m ≠ [] := by intro e; have := congrArg List.length e; rw [List.length_take, List.length_nil] at this; omega
  rw [readL_cons hne]
  have hl : (s.take m).length = m := by rw [List.length_take]; omega
  unfold cutL restL
  rw [hl, List.take_take, Nat.min_eq_left (by omega)]
theorem readLimbs_l0 {s : List UInt8} (hs : Digs s) (hl : s.length ≤ 64) : ∀ (d k m : Nat) (acc : List Int), m ≤ s.length → m ≤ d → 2 * d + acc.length + 200 ≤ k → acc.length + d ≤ 150 → impl_readLimbs.l0 k (str s) acc (m : Int) = some (trimL (acc ++ readL (s.take m))) := by
  intro d
  induction d with
  | zero =>
    intro k m acc hm hd hk ha
    obtain rfl : m = 0 := by omega
    obtain ⟨k, rfl⟩ : ∃ j, k = j + 1 := ⟨k - 1, by omega⟩
    rw [impl_readLimbs.l0, if_neg (by omega), List.take_zero, readL_nil, List.append_nil, iTrim_ge acc (by omega) k (by omega)]
    rfl
  | succ d ih =>
    intro k m acc hm hd hk ha
    by_cases h0 : m = 0
    · subst h0
      obtain ⟨k, rfl⟩ : ∃ j, k = j + 1 := ⟨k - 1, by omega⟩
      rw [impl_readLimbs.l0, if_neg (by omega), List.take_zero, readL_nil, List.append_nil, iTrim_ge acc (by omega) k (by omega)]
      rfl
    · obtain ⟨k, rfl⟩ : ∃ j, k = j + 1 := ⟨k - 1, by omega⟩
      have e : mx 0 ((m : Int) - 4) = ((m - 4 : Nat) : Int) := by unfold mx; split <;> omega
      rw [impl_readLimbs.l0, if_pos (by omega), Str.w64 (by omega) (by omega), e, if_pos (by omega), if_pos (by omega), str_size, if_pos (by omega), str_extract, Int.toNat_natCast, Int.toNat_natCast]
      have ec : (s.drop (m - 4)).take (m - (m - 4)) = (s.take m).drop (m - 4) := by rw [List.drop_take]
      have hD : Digs ((s.take m).drop (m - 4)) := (hs.take _).drop _
      have hcl : ((s.take m).drop (m - 4)).length = m - (m - 4) := by rw [List.length_drop, List.length_take]; omega
      have ha2 : lib_Atoi.f (str ((s.take m).drop (m - 4))) = some ((dval ((s.take m).drop (m - 4)) : Int), true) := by
        unfold lib_Atoi.f atoiV
        rw [if_pos (by rw [str_size]; omega), str_data, atoiAll_digs hD (by intro e; rw [e] at hcl; simp at hcl; omega) (by omega)]
      rw [ec, ha2]; simp only [Str.bS]
      rw [if_pos (by omega)]
      by_cases h4 : 4 ≤ m
      · rw [show ((m : Int) - 4) = ((m - 4 : Nat) : Int) by omega, ih k (m - 4) _ (by omega) (by omega) (by simp; omega) (by simp; omega), readL_split (by omega) hm, List.append_assoc]
        rfl
      · obtain ⟨k, rfl⟩ : ∃ j, k = j + 1 := ⟨k - 1, by omega⟩
        rw [impl_readLimbs.l0, if_neg (by omega), iTrim_ge _ (by simp; omega) k (by simp; omega), readL_split (by omega) hm, show m - 4 = 0 by omega, List.take_zero, readL_nil]
        rfl
theorem readLimbs_eq {s : List UInt8} (hs : Digs s) (hl : s.length ≤ 64) (k : Nat) (hk : 400 ≤ k) : impl_readLimbs.f k (str s) = some (rep (dval s : Int)) := by
  unfold impl_readLimbs.f
  rw [str_size, readLimbs_l0 hs hl s.length k s.length [] (Nat.le_refl _) (Nat.le_refl _) (by simp; omega) (by simp; omega), List.nil_append, List.take_length]
  obtain ⟨d1, d2, _⟩ := readL_ok s.length s (Nat.le_refl _) hs
  rw [trimL_rep d1, d2]
theorem fromF_l1 {s : List UInt8} (hD : Digs s) (hl : s.length ≤ 64) (acc : List Int) (ha : acc.length ≤ 200) (x4 : Nat) (h4 : x4 ≤ s.length) (h5 : s.length ≤ x4 + 4) : ∀ (d k i : Nat), i + d = s.length → x4 ≤ i →
    spec_l1FromFigures.l1 (k + d + 1) (str s) acc (x4 : Int) (dval ((s.take i).drop x4) : Int) (i : Int) = spec_l1FromFigures.l0 k (str (s.take x4)) (acc ++ [(dval (s.drop x4) : Int)]) := by
  intro d
  induction d with
  | zero =>
    intro k i hi hx
    have e : i = s.length := by omega
    rw [spec_l1FromFigures.l1, str_size, if_neg (by omega), if_pos (by omega), if_pos (by omega), if_pos (by omega), str_extract, Int.toNat_natCast, List.drop_zero, Nat.sub_zero, e, List.take_length]
  | succ d ih =>
    intro k i hi hx
    have hb : IsD (s.getD i 0) := hD.get (getD_get (by omega))
    have hbb := hb
    unfold IsD at hb
    have hDi : Digs ((s.take i).drop x4) := (hD.take _).drop _
    have hv := dval_lt hDi
    have hlen : ((s.take i).drop x4).length = i - x4 := by rw [List.length_drop, List.length_take]; omega
    rw [hlen] at hv
    have h10 : 10 ^ (i - x4) ≤ 10 ^ 4 := Nat.pow_le_pow_right (by decide) (by omega)
    have e4 : 10 ^ 4 = 10000 := by decide
    rw [show k + (d + 1) + 1 = (k + d + 1) + 1 by omega, spec_l1FromFigures.l1, str_size, if_pos (by omega), if_pos (by omega), str_btD s (by omega) (by omega), Int.toNat_natCast, Str.w64 (x := (dval ((s.take i).drop x4) : Int) * 10) (by omega) (by omega), Str.w64 (x := (i : Int) + 1) (by omega) (by omega), Str.w64 (by omega) (by omega)]
    have e : ((dval ((s.take i).drop x4) : Int) * 10 + (((s.getD i 0).toNat : Int) - 48) % 256) = (dval ((s.take (i + 1)).drop x4) : Int) := by
      have et : (s.take (i + 1)).drop x4 = (s.take i).drop x4 ++ [s.getD i 0] := by
        have hi' : i < s.length := by omega
        rw [List.take_succ_eq_append_getElem hi', List.drop_append_of_le_length (by rw [List.length_take]; omega)]
        congr 2
        have := getD_get hi'
        rw [List.getElem?_eq_getElem hi'] at this
        exact Option.some.inj this
      rw [et, dval_snoc]
      omega
    rw [e, show ((i : Int) + 1) = ((i + 1 : Nat) : Int) from by omega]
    exact ih k (i + 1) (by omega) (by omega)
theorem fromF_l0 : ∀ (n : Nat) (s : List UInt8) (acc : List Int) (k : Nat), s.length ≤ n → Digs s → s.length ≤ 64 → acc.length + s.length ≤ 150 → 8 * s.length + 200 ≤ k → spec_l1FromFigures.l0 k (str s) acc = some (trimL (acc ++ readL s)) := by
  intro n
  induction n with
  | zero =>
    intro s acc k hn hD hl ha hk
    obtain rfl : s = [] := List.eq_nil_of_length_eq_zero (by omega)
    obtain ⟨k, rfl⟩ : ∃ j, k = j + 1 := ⟨k - 1, by omega⟩
    rw [spec_l1FromFigures.l0, str_size, if_neg (by simp), readL_nil, List.append_nil, sTrim_ge acc (by omega) k (by omega)]
    rfl
  | succ n ih =>
    intro s acc k hn hD hl ha hk
    by_cases h0 : s = []
    · subst h0
      obtain ⟨k, rfl⟩ : ∃ j, k = j + 1 := ⟨k - 1, by omega⟩
      rw [spec_l1FromFigures.l0, str_size, if_neg (by simp), readL_nil, List.append_nil, sTrim_ge acc (by omega) k (by omega)]
      rfl
    · have hpos : 0 < s.length := List.length_pos_iff.2 h0
      obtain ⟨k, rfl⟩ : ∃ j, k = j + 2 := ⟨k - 2, by omega⟩
      have hj : spec_l1FromFigures.l0 (k + 2) (str s) acc = spec_l1FromFigures.l1 k (str s) acc ((s.length - 4 : Nat) : Int) 0 ((s.length - 4 : Nat) : Int) := by
        rw [spec_l1FromFigures.l0, str_size, if_pos (by omega), Str.w64 (by omega) (by omega)]
        by_cases h4 : (s.length : Int) - 4 < 0
        · rw [if_pos h4, spec_l1FromFigures.j1, show ((s.length - 4 : Nat) : Int) = 0 by omega]
        · rw [if_neg h4, spec_l1FromFigures.j1, show ((s.length - 4 : Nat) : Int) = (s.length : Int) - 4 by omega]
      have h1 := fromF_l1 hD hl acc (by omega) (s.length - 4) (by omega) (by omega) (s.length - (s.length - 4)) (k - (s.length - (s.length - 4)) - 1) (s.length - 4) (by omega) (Nat.le_refl _)
      rw [List.drop_take, Nat.sub_self, List.take_zero, dval_nil, show k - (s.length - (s.length - 4)) - 1 + (s.length - (s.length - 4)) + 1 = k by omega] at h1
      rw [hj]
      refine Eq.trans h1 ?_
      have hl4 : (s.take (s.length - 4)).length = s.length - 4 := by rw [List.length_take]; omega
      rw [ih (s.take (s.length - 4)) _ _ (by omega) (hD.take _) (by omega) (by simp; omega) (by omega), readL_cons h0, List.append_assoc]
      rfl
theorem fromF_eq {s : List UInt8} (hs : Digs s) (hl : s.length ≤ 64) (k : Nat) (hk : 800 ≤ k) : spec_l1FromFigures.f k (str s) = some (rep (dval s : Int)) := by
  unfold spec_l1FromFigures.f
  rw [fromF_l0 s.length s [] k (Nat.le_refl _) hs hl (by simp; omega) (by omega), List.nil_append]
  obtain ⟨d1, d2, _⟩ := readL_ok s.length s (Nat.le_refl _) hs
  rw [trimL_rep d1, d2]
def IsBig (s : List UInt8) (n : Bool) (l : List Int) : Prop := BOk n l ∧ s = bigT n l
def ToldB (s : List UInt8) (r : Bool × List Int × Bool) : Prop := (r.2.2 = true ∧ IsBig s r.1 r.2.1) ∨ (r = (false, [], false) ∧ ∀ n l, ¬ IsBig s n l)
theorem ten64 : ((10 ^ 64 : Nat) : Int) = pw 16 := by decide
theorem textL_of {n : Bool} {l : List Int} (h : BOk n l) : textL l = decDigits (val l).toNat := textL_eq l h.2.1 h.2.2.1
theorem val_of_ok {n : Bool} {l : List Int} (h : BOk n l) : 0 ≤ val l ∧ val l < pw 16 := ⟨val_nonneg h.2.1, Int.lt_of_lt_of_le (val_lt h.2.1) (pw_mono h.1)⟩
theorem textL_64 {n : Bool} {l : List Int} (h : BOk n l) : (textL l).length ≤ 64 := by
  obtain ⟨h0, h1⟩ := val_of_ok h
  rw [textL_of h]
  refine decDigits_len_le (by decide) ?_
  have := ten64
  omega
theorem textL_head {l : List Int} : (textL l).head? ≠ some 45 := by
  intro e
  cases h : textL l with
  | nil => rw [h] at e; cases e
  | cons b r =>
    rw [h] at e
    have hb := textL_digs l b (by rw [h]; simp)
    have : b = 45 := Option.some.inj e
    subst this
    exact absurd hb (by decide)
theorem sign_parts (s : List UInt8) : ∃ (g : Bool) (d : List UInt8), s = (if g = true then 45 :: d else d) ∧ (g = false → d.head? ≠ some 45) ∧ trimPrefix s [45] = d ∧ hasPrefix s [45] = g := by
  cases s with
  | nil => exact ⟨false, [], rfl, fun _ => by simp, rfl, rfl⟩
  | cons b r =>
    by_cases h : b = 45
    · subst h
      exact ⟨true, r, rfl, (fun h => absurd h (by decide)), (by unfold trimPrefix hasPrefix; simp), (by unfold hasPrefix; simp)⟩
    · have hp : hasPrefix (b :: r) [45] = false := by
        unfold hasPrefix
        rw [List.isPrefixOf_cons_cons, beq_eq_false_iff_ne.2 (fun e => h e.symm), Bool.false_and]
      exact ⟨false, b :: r, rfl, fun _ e => h (Option.some.inj e), by unfold trimPrefix; rw [hp]; rfl, hp⟩
theorem parts_of {g : Bool} {d : List UInt8} (hg : g = false → d.head? ≠ some 45) {n : Bool} {l : List Int} (h : IsBig (if g = true then 45 :: d else d) n l) : g = n ∧ d = textL l := by
  obtain ⟨ho, e⟩ := h
  unfold bigT at e
  cases g <;> cases n
  · exact ⟨rfl, by simpa using e⟩
  · rw [if_neg (by decide), if_pos rfl] at e
    exact absurd (by rw [e]; rfl) (hg rfl)
  · rw [if_pos rfl, if_neg (by decide)] at e
    exact absurd (by rw [← e]; rfl) (textL_head (l := l))
  · rw [if_pos rfl, if_pos rfl] at e
    exact ⟨rfl, (List.cons.inj e).2⟩
theorem dval_64 {d : List UInt8} (hd : Digs d) (hl : d.length ≤ 64) : (dval d : Int) < pw 16 := by
  have h := dval_lt hd
  have h2 : 10 ^ d.length ≤ 10 ^ 64 := Nat.pow_le_pow_right (by decide) hl
  have := ten64
  omega
theorem bigv_rep (g : Bool) {v : Int} (h : 0 ≤ v) : bigv g (rep v) = if g = true then -v else v := by unfold bigv; rw [rep_val h]
theorem bigR_yes {x : Int} (h1 : -pw 16 < x) (h2 : x < pw 16) : bigR x = (mkN x, mkL x, true) := by unfold bigR; rw [if_pos ⟨h1, h2⟩]
theorem read_of {g : Bool} {d : List UInt8} {n : Bool} {l : List Int} (hgn : g = n) (ho : BOk n l) (hd : d = textL l) : bigv g (rep (dval d : Int)) = bigv n l := by
  subst hgn
  obtain ⟨h0, h1⟩ := val_of_ok ho
  rw [bigv_rep g (by omega), hd, textL_of ho, decDigits_dval, Int.toNat_of_nonneg h0]
  rfl
theorem implBigGet (s : List UInt8) (hs : s.length ≤ 2000000000) : ∃ r, (∀ k, s.length + 2000 ≤ k → impl_BigGet.f k (str s) = some r) ∧ ToldB s r := by
  obtain ⟨g, d, es, hg, tp, hp⟩ := sign_parts s
  have hdl : d.length ≤ s.length := by rw [es]; split <;> simp
  have hcut : lib_CutPrefix.f (str s) (⟨#[45]⟩ : ByteArray) = some (str d, g) := by
    unfold lib_CutPrefix.f
    rw [show (⟨#[45]⟩ : ByteArray) = str [45] from rfl, str_data, str_data, tp, hp]
    rfl
  have yes : ∀ n l, IsBig s n l → g = n ∧ d = textL l := fun n l h => parts_of hg (es ▸ h)
  by_cases hD : Digs d ∧ d ≠ []
  · by_cases hl : d.length ≤ 64
    · have hv := dval_64 hD.1 hl
      have hx : -pw 16 < bigv g (rep (dval d : Int)) ∧ bigv g (rep (dval d : Int)) < pw 16 := by
        rw [bigv_rep g (by omega)]
        split <;> omega
      have hmk := mk_ok hx.1 hx.2
      have hok : okB (mkN (bigv g (rep (dval d : Int)))) (mkL (bigv g (rep (dval d : Int)))) = true := (okB_iff _ _).2 hmk
      by_cases he : bigT (mkN (bigv g (rep (dval d : Int)))) (mkL (bigv g (rep (dval d : Int)))) = s
      · refine ⟨(mkN (bigv g (rep (dval d : Int))), mkL (bigv g (rep (dval d : Int))), true), fun k hk => ?_, .inl ⟨rfl, hmk, he.symm⟩⟩
        obtain ⟨k, rfl⟩ : ∃ j, k = j + 1 := ⟨k - 1, by omega⟩
        unfold impl_BigGet.f
        rw [hcut]; simp only [Str.bS]
        rw [isDigits_eq d (by omega) _ (by omega), decide_eq_true hD]; simp only [Str.bS]
        rw [if_pos trivial, impl_BigGet.j0, str_size, if_neg (by simp; omega), readLimbs_eq hD.1 hl k (by omega)]; simp only [Str.bS]
        rw [big_ge (rep_dig _) (by have := rep_len_le (v := (dval d : Int)) (by omega) hv; omega) g k (by omega), bigR_yes hx.1 hx.2]; simp only [Str.bS]
        rw [if_pos trivial, implBigPut, if_pos hok]; simp only [Str.bS]
        rw [str_toList, str_toList, if_pos he]
      · have no : ∀ n l, ¬ IsBig s n l := by
          intro n l h
          obtain ⟨e1, e2⟩ := yes n l h
          have ev := read_of e1 h.1 e2
          have hr := bigR_ok h.1
          rw [← ev, bigR_yes hx.1 hx.2] at hr
          have h1 := (Prod.mk.inj hr).1
          have h2 := (Prod.mk.inj (Prod.mk.inj hr).2).1
          exact he (by rw [h1, h2]; exact h.2.symm)
        refine ⟨(false, [], false), fun k hk => ?_, .inr ⟨rfl, no⟩⟩
        obtain ⟨k, rfl⟩ : ∃ j, k = j + 1 := ⟨k - 1, by omega⟩
        unfold impl_BigGet.f
        rw [hcut]; simp only [Str.bS]
        rw [isDigits_eq d (by omega) _ (by omega), decide_eq_true hD]; simp only [Str.bS]
        rw [if_pos trivial, impl_BigGet.j0, str_size, if_neg (by simp; omega), readLimbs_eq hD.1 hl k (by omega)]; simp only [Str.bS]
        rw [big_ge (rep_dig _) (by have := rep_len_le (v := (dval d : Int)) (by omega) hv; omega) g k (by omega), bigR_yes hx.1 hx.2]; simp only [Str.bS]
        rw [if_pos trivial, implBigPut, if_pos hok]; simp only [Str.bS]
        rw [str_toList, str_toList, if_neg he]
    · refine ⟨(false, [], false), fun k hk => ?_, .inr ⟨rfl, fun n l h => ?_⟩⟩
      · obtain ⟨k, rfl⟩ : ∃ j, k = j + 1 := ⟨k - 1, by omega⟩
        unfold impl_BigGet.f
        rw [hcut]; simp only [Str.bS]
        rw [isDigits_eq d (by omega) _ (by omega), decide_eq_true hD]; simp only [Str.bS]
        rw [if_pos trivial, impl_BigGet.j0, str_size, if_pos (by simp; omega)]
      · obtain ⟨_, e2⟩ := yes n l h
        have := textL_64 h.1
        rw [← e2] at this
        exact hl this
  · refine ⟨(false, [], false), fun k hk => ?_, .inr ⟨rfl, fun n l h => ?_⟩⟩
    · obtain ⟨k, rfl⟩ : ∃ j, k = j + 1 := ⟨k - 1, by omega⟩
      unfold impl_BigGet.f
      rw [hcut]; simp only [Str.bS]
      rw [isDigits_eq d (by omega) _ (by omega), decide_eq_false hD]; simp only [Str.bS]
      rw [if_neg (by decide), impl_BigGet.j0, if_pos rfl]
    · obtain ⟨_, e2⟩ := yes n l h
      exact hD (e2 ▸ ⟨textL_digs l, textL_ne l⟩)
theorem canon_zero {d : List UInt8} (hd : Digs d) (hc : Canon d) (h : dval d = 0) : d = [48] := by
  have e := decDigits_of hd hc
  rw [h, decDigits, dif_pos (by decide)] at e
  exact e.symm
theorem bt45 {b : UInt8} {r : List UInt8} : ((bt (str (b :: r)) 0) == 45) = decide (b = 45) := by
  rw [str_btD _ (by omega) (by simp)]
  have hb := UInt8.toNat_lt b
  by_cases h : b = 45
  · subst h; rfl
  · rw [decide_eq_false h, beq_eq_false_iff_ne]
    intro e
    have e' : ((b.toNat : Nat) : Int) = 45 := e
    exact h (UInt8.toNat_inj.1 (show b.toNat = (45 : UInt8).toNat by have : (45 : UInt8).toNat = 45 := rfl; omega))
theorem spec_to_j1 (s : List UInt8) {g : Bool} {d : List UInt8} (es : s = if g = true then 45 :: d else d) (hg : g = false → d.head? ≠ some 45) (k : Nat) : spec_BigGet.f (k + 1) (str s) = spec_BigGet.j1 k (str d) g := by
  unfold spec_BigGet.f
  rw [str_size]
  cases g
  · rw [if_neg (by decide)] at es
    subst es
    cases s with
    | nil => rw [if_neg (by simp), spec_BigGet.j0, if_neg (by decide)]
    | cons b r =>
      have hb : b ≠ 45 := fun e => hg rfl (by rw [e]; rfl)
      rw [if_pos (by simp), if_pos (by simp), bt45, decide_eq_false hb, spec_BigGet.j0, if_neg (by decide)]
  · rw [if_pos rfl] at es
    subst es
    rw [if_pos (by simp), if_pos (by simp), bt45, decide_eq_true rfl, spec_BigGet.j0, if_pos rfl, str_size, if_pos (by simp; omega), str_extract]
    simp
theorem specBigGet (s : List UInt8) (hs : s.length ≤ 2000000000) : ∃ r, (∀ k, s.length + 2000 ≤ k → spec_BigGet.f k (str s) = some r) ∧ ToldB s r := by
  obtain ⟨g, d, es, hg, tp, hp⟩ := sign_parts s
  have hdl : d.length ≤ s.length := by rw [es]; split <;> simp
  have yes : ∀ n l, IsBig s n l → g = n ∧ d = textL l := fun n l h => parts_of hg (es ▸ h)
  by_cases hD : Digs d ∧ Canon d
  · by_cases hl : d.length ≤ 64
    · by_cases hz : g = true ∧ d = [48]
      · refine ⟨(false, [], false), fun k hk => ?_, .inr ⟨rfl, fun n l h => ?_⟩⟩
        · obtain ⟨k, rfl⟩ : ∃ j, k = j + 3 := ⟨k - 3, by omega⟩
          rw [spec_to_j1 s es hg, spec_BigGet.j1, isFigures_eq d (by omega) _ (by omega), decide_eq_true hD]; simp only [Str.bS]
          rw [if_pos trivial, str_size, if_neg (by omega), if_pos hz.1, str_toList, hz.2, spec_BigGet.j2, if_pos (by decide)]
        · obtain ⟨e1, e2⟩ := yes n l h
          have hn : n = true := e1 ▸ hz.1
          have hpos := nz_pos h.1.2.1 h.1.2.2.1 (h.1.2.2.2 hn)
          have hd := decDigits_dval (val l).toNat
          rw [← textL_of h.1, ← e2, hz.2] at hd
          have : dval [48] = 0 := rfl
          omega
      · have hv := dval_64 hD.1 hl
        have hx : -pw 16 < bigv g (rep (dval d : Int)) ∧ bigv g (rep (dval d : Int)) < pw 16 := by
          rw [bigv_rep g (by omega)]
          split <;> omega
        have hmk := mk_ok hx.1 hx.2
        have hbig : s = bigT (mkN (bigv g (rep (dval d : Int)))) (mkL (bigv g (rep (dval d : Int)))) := by
          have ht : textL (rep (dval d : Int)) = d := by
            rw [textL_eq _ (rep_dig _) (rep_nz _), rep_val (by omega), Int.toNat_natCast, decDigits_of hD.1 hD.2]
          rw [bigv_rep g (by omega)]
          unfold bigT mkN mkL
          cases g
          · rw [if_neg (by decide)] at es
            simp only [Bool.false_eq_true, if_false]
            rw [decide_eq_false (by omega), if_neg (by decide), if_neg (by omega), ht]
            exact es
          · rw [if_pos rfl] at es
            have hne : dval d ≠ 0 := fun e => hz ⟨rfl, canon_zero hD.1 hD.2 e⟩
            simp only [if_true]
            rw [decide_eq_true (by omega), if_pos rfl, if_pos (by omega), Int.neg_neg, ht]
            exact es
        refine ⟨(mkN (bigv g (rep (dval d : Int))), mkL (bigv g (rep (dval d : Int))), true), fun k hk => ?_, .inl ⟨rfl, hmk, hbig⟩⟩
        obtain ⟨k, rfl⟩ : ∃ j, k = j + 3 := ⟨k - 3, by omega⟩
        have j2 : spec_BigGet.j2 (k + 1) (str d) g false = some (mkN (bigv g (rep (dval d : Int))), mkL (bigv g (rep (dval d : Int))), true) := by
          rw [spec_BigGet.j2, if_neg (by decide), fromF_eq hD.1 hl k (by omega)]; simp only [Str.bS]
          rw [l1Big_ge (rep_dig _) (by have := rep_len_le (v := (dval d : Int)) (by omega) hv; omega) g k (by omega), bigR_yes hx.1 hx.2]; simp only [Str.bS]
        rw [spec_to_j1 s es hg, spec_BigGet.j1, isFigures_eq d (by omega) _ (by omega), decide_eq_true hD]; simp only [Str.bS]
        rw [if_pos trivial, str_size, if_neg (by omega)]
        by_cases hgt : g = true
        · have hd48 : d ≠ [48] := fun e => hz ⟨hgt, e⟩
          rw [if_pos hgt, str_toList, beq_eq_false_iff_ne.2 hd48]
          exact j2
        · rw [if_neg hgt]
          exact j2
    · refine ⟨(false, [], false), fun k hk => ?_, .inr ⟨rfl, fun n l h => ?_⟩⟩
      · obtain ⟨k, rfl⟩ : ∃ j, k = j + 3 := ⟨k - 3, by omega⟩
        rw [spec_to_j1 s es hg, spec_BigGet.j1, isFigures_eq d (by omega) _ (by omega), decide_eq_true hD]; simp only [Str.bS]
        rw [if_pos trivial, str_size, if_pos (by omega), spec_BigGet.j2, if_pos rfl]
      · obtain ⟨_, e2⟩ := yes n l h
        have := textL_64 h.1
        rw [← e2] at this
        exact hl this
  · refine ⟨(false, [], false), fun k hk => ?_, .inr ⟨rfl, fun n l h => ?_⟩⟩
    · obtain ⟨k, rfl⟩ : ∃ j, k = j + 3 := ⟨k - 3, by omega⟩
      rw [spec_to_j1 s es hg, spec_BigGet.j1, isFigures_eq d (by omega) _ (by omega), decide_eq_false hD]; simp only [Str.bS]
      rw [if_neg (by decide), spec_BigGet.j2, if_pos rfl]
    · obtain ⟨_, e2⟩ := yes n l h
      exact hD (e2 ▸ ⟨textL_digs l, by rw [textL_of h.1]; exact decDigits_canon _⟩)
theorem IsBig.uniq {s : List UInt8} {n n' : Bool} {l l' : List Int} (h : IsBig s n l) (h' : IsBig s n' l') : n = n' ∧ l = l' := by
  obtain ⟨g, d, es, hg, _, _⟩ := sign_parts s
  obtain ⟨a1, a2⟩ := parts_of hg (es ▸ h)
  obtain ⟨b1, b2⟩ := parts_of hg (es ▸ h')
  have r1 := read_of a1 h.1 a2
  have r2 := read_of b1 h'.1 b2
  have q1 := bigR_ok h.1
  have q2 := bigR_ok h'.1
  rw [← r1] at q1
  rw [← r2, q1] at q2
  exact ⟨(Prod.mk.inj q2).1, (Prod.mk.inj (Prod.mk.inj q2).2).1⟩
theorem ToldB.uniq {s : List UInt8} {r r' : Bool × List Int × Bool} (h : ToldB s r) (h' : ToldB s r') : r = r' := by
  obtain ⟨a, b, c⟩ := r
  obtain ⟨a', b', c'⟩ := r'
  rcases h with ⟨h1, h2⟩ | ⟨h1, h2⟩ <;> rcases h' with ⟨h1', h2'⟩ | ⟨h1', h2'⟩
  · obtain ⟨e1, e2⟩ := h2.uniq h2'
    simp only at *
    rw [e1, e2, h1, h1']
  · exact absurd h2 (h2' _ _)
  · exact absurd h2' (h2 _ _)
  · rw [h1, h1']
end Go.Proofs.YtdbgpoileffbeaaDoor.Str
end
section
namespace Go.Proofs.YtdbgpoileffbeaaDoor.Drw
open Go.RowKit Go.Proofs.YtdbgpoileffbeaaDoor.Jt Go.Proofs.YtdbgpoileffbeaaDoor.Val Go.Proofs.YtdbgpoileffbeaaDoor.Pr Go.Proofs.YtdbgpoileffbeaaDoor.Ext Go.Proofs.YtdbgpoileffbeaaDoorW.PrintWords Go.Proofs.YtdbgpoileffbeaaDoorW.PrintLast Go.Proofs.YtdbgpoileffbeaaDoorW.PrintMore
set_option linter.unusedVariables false
set_option linter.unusedSimpArgs false
theorem wf8 {a : Int} (h : (Lit.int .u8 a).wf = true) : 0 ≤ a ∧ a ≤ 255 := by
  simp [Lit.wf, IntKind.min, IntKind.max, IntKind.signed, IntKind.bits] at h; omega
theorem rd_mem {l : List Int} {i : Int} (h0 : 0 ≤ i) (h : i < (l.length : Int)) : rd l i ∈ l := by
  have hi : i.toNat < l.length := by omega
  unfold rd
  rw [List.getD_eq_getElem?_getD, List.getElem?_eq_getElem hi]
  exact List.getElem_mem hi
theorem xor_nonneg {x y : Int} (hx : 0 ≤ x) (hx' : x < 4611686018427387904) (hy : 0 ≤ y) (hy' : y < 4611686018427387904) : 0 ≤ Go.bits .xor .i64 x y := by
  obtain ⟨a, rfl⟩ := Int.eq_ofNat_of_zero_le hx
  obtain ⟨b, rfl⟩ := Int.eq_ofNat_of_zero_le hy
  have ha : a < 2 ^ 62 := by omega
  have hb : b < 2 ^ 62 := by omega
  have hlt := Nat.xor_lt_two_pow ha hb
  have ha' : a % 2 ^ IntKind.i64.bits = a := Nat.mod_eq_of_lt (by show a < 2 ^ 64; omega)
  have hb' : b % 2 ^ IntKind.i64.bits = b := Nat.mod_eq_of_lt (by show b < 2 ^ 64; omega)
  have e : Go.bits .xor .i64 (a : Int) (b : Int) = ((a ^^^ b : Nat) : Int) := by
    simp only [Go.bits, BitVec.ofInt_natCast, BitVec.toNat_xor, BitVec.toNat_ofNat, ha', hb']
    rw [IntKind.wrap_i64]
    omega
  rw [e]
  omega
def BytesOk (b : List Int) : Prop := b.length ≤ 2000 ∧ ∀ x ∈ b, 0 ≤ x ∧ x ≤ 255
theorem pick_any {b : List Int} (hb : BytesOk b) {p n : Int} (hp : 0 ≤ p) (hp' : p ≤ 1000000) (hn : 1 ≤ n) :
    ∃ r, (∀ k, spec_l1Rd_pick.f (k + 1) b p n = some (r, p + 1)) ∧ 0 ≤ r ∧ r < n := by
  have e1 : wrap64 (p + 1) = p + 1 := w64 (by omega) (by omega)
  have e2 : wrap64 (p + 1 - 1) = p := by rw [w64 (by omega) (by omega)]; omega
  have hl := hb.1
  by_cases h0 : b.length = 0
  · refine ⟨0, fun k => ?_, by omega, by omega⟩
    have hz : ((b.length : Int) == 0) = true := by rw [h0]; rfl
    unfold spec_l1Rd_pick.f
    rw [if_neg (by omega), e1, hz]
    simp only [spec_l1Rd_pick.j0, if_true]
  · have hz : ((b.length : Int) == 0) = false := by rw [beq_eq_false_iff_ne]; omega
    by_cases hk : p < (b.length : Int)
    · have hm := hb.2 _ (rd_mem hp hk)
      refine ⟨Int.tmod (rd b p) n, fun k => ?_, Int.tmod_nonneg _ hm.1, Int.tmod_lt_of_pos _ (by omega)⟩
      unfold spec_l1Rd_pick.f
      rw [if_neg (by omega), e1, hz]
      simp only [spec_l1Rd_pick.j0]
      rw [if_neg (by decide), e2, if_pos hk, if_pos hp, if_neg (by omega), w64 (by omega) (by omega)]
    · have hL : (0 : Int) < (b.length : Int) := by omega
      have e7 : wrap64 (wrap64 (p * 7) + 3) = p * 7 + 3 := by
        rw [w64 (x := p * 7) (by omega) (by omega), w64 (by omega) (by omega)]
      have i1 := Int.tmod_nonneg (b.length : Int) hp
      have j1 := Int.tmod_lt_of_pos p hL
      have i2 := Int.tmod_nonneg (b.length : Int) (show 0 ≤ p * 7 + 3 by omega)
      have j2 := Int.tmod_lt_of_pos (p * 7 + 3) hL
      have hA := hb.2 _ (rd_mem i1 j1)
      have hB := hb.2 _ (rd_mem i2 j2)
      have hq0 : 0 ≤ Int.tdiv p (b.length : Int) := Int.tdiv_nonneg hp (by omega)
      have hq1 : Int.tdiv p (b.length : Int) ≤ p := by
        rw [Int.tdiv_eq_ediv_of_nonneg hp]; exact Int.ediv_le_self _ hp
      generalize hAe : rd b (Int.tmod p (b.length : Int)) = A at hA
      generalize hBe : rd b (Int.tmod (p * 7 + 3) (b.length : Int)) = B at hB
      generalize hQe : Int.tdiv p (b.length : Int) = Q at hq0 hq1
      have hX : 0 ≤ wrap64 (wrap64 (wrap64 (wrap64 (wrap64 A * 131) + wrap64 (wrap64 B * 1117)) + wrap64 (p * 29)) + wrap64 (wrap64 Q * 53)) ∧
          wrap64 (wrap64 (wrap64 (wrap64 (wrap64 A * 131) + wrap64 (wrap64 B * 1117)) + wrap64 (p * 29)) + wrap64 (wrap64 Q * 53)) < 1000000000 := by
        rw [w64 (x := A) (by omega) (by omega), w64 (x := B) (by omega) (by omega), w64 (x := Q) (by omega) (by omega), w64 (x := A * 131) (by omega) (by omega), w64 (x := B * 1117) (by omega) (by omega),
          w64 (x := p * 29) (by omega) (by omega), w64 (x := Q * 53) (by omega) (by omega), w64 (x := A * 131 + B * 1117) (by omega) (by omega), w64 (x := A * 131 + B * 1117 + p * 29) (by omega) (by omega),
          w64 (by omega) (by omega)]
        omega
      generalize hXe : wrap64 (wrap64 (wrap64 (wrap64 (wrap64 A * 131) + wrap64 (wrap64 B * 1117)) + wrap64 (p * 29)) + wrap64 (wrap64 Q * 53)) = X at hX
      have hY : 0 ≤ wrap64 (Int.tdiv X 64) ∧ wrap64 (Int.tdiv X 64) < 1000000000 := by
        rw [Int.tdiv_eq_ediv_of_nonneg hX.1, w64 (by omega) (by omega)]; omega
      refine ⟨Int.tmod (Go.bits .xor .i64 X (wrap64 (Int.tdiv X 64))) n, fun k => ?_, Int.tmod_nonneg _ (xor_nonneg hX.1 (by omega) hY.1 (by omega)), Int.tmod_lt_of_pos _ (by omega)⟩
      unfold spec_l1Rd_pick.f
      rw [if_neg (by omega), e1, hz]
      simp only [spec_l1Rd_pick.j0]
      rw [if_neg (by decide), e2, if_neg hk, if_neg (by omega), if_pos i1, if_pos j1, e7, if_pos i2, if_pos j2, if_neg (by omega), hAe, hBe, hQe, hXe]
theorem open_any {l : List Int} (hl : ∀ x ∈ l, (Lit.int .u8 x).wf = true) : ∃ b, spec_l1Open.f l = some (b, 0) ∧ BytesOk b := by
  unfold spec_l1Open.f
  by_cases h : (l.length : Int) > 2000
  · rw [if_pos h, if_pos (by omega)]
    exact ⟨_, rfl, by rw [List.length_take]; omega, fun x hx => wf8 (hl x (List.mem_of_mem_take hx))⟩
  · rw [if_neg h]
    exact ⟨_, rfl, by omega, fun x hx => wf8 (hl x hx)⟩
theorem one_any {b : List Int} (hb : BytesOk b) {p : Int} (hp : 0 ≤ p) (hp' : p ≤ 1000000) {l : List Int} (hl : 1 ≤ l.length) :
    ∃ r, (∀ k, spec_l1Rd_one.f (k + 1) b p l = some (r, p + 1)) ∧ r ∈ l := by
  obtain ⟨i, hi, h0, h1⟩ := pick_any hb hp hp' (n := (l.length : Int)) (by omega)
  refine ⟨rd l i, fun k => ?_, rd_mem h0 h1⟩
  unfold spec_l1Rd_one.f
  rw [hi k]
  simp only [Option.bind_some]
  rw [if_pos h0, if_pos h1]
theorem pick_ge {b : List Int} (hb : BytesOk b) {p n : Int} (hp : 0 ≤ p) (hp' : p ≤ 1000000) (hn : 1 ≤ n) :
    ∃ r, (∀ k, 1 ≤ k → spec_l1Rd_pick.f k b p n = some (r, p + 1)) ∧ 0 ≤ r ∧ r < n := by
  obtain ⟨r, h, h0, h1⟩ := pick_any hb hp hp' hn
  exact ⟨r, fun k hk => by obtain ⟨m, rfl⟩ : ∃ m, k = m + 1 := ⟨k - 1, by omega⟩; exact h m, h0, h1⟩
theorem one_ge {b : List Int} (hb : BytesOk b) {p : Int} (hp : 0 ≤ p) (hp' : p ≤ 1000000) {l : List Int} (hl : 1 ≤ l.length) :
    ∃ r, (∀ k, 1 ≤ k → spec_l1Rd_one.f k b p l = some (r, p + 1)) ∧ r ∈ l := by
  obtain ⟨r, h, h0⟩ := one_any hb hp hp' hl
  exact ⟨r, fun k hk => by obtain ⟨m, rfl⟩ : ∃ m, k = m + 1 := ⟨k - 1, by omega⟩; exact h m, h0⟩
end Go.Proofs.YtdbgpoileffbeaaDoor.Drw
end
section
namespace Go.Proofs.YtdbgpoileffbeaaDoor.Drw
open Go.Lib Go.RowKit Go.Proofs.YtdbgpoileffbeaaDoor.Jt Go.Proofs.YtdbgpoileffbeaaDoor.Dec Go.Proofs.YtdbgpoileffbeaaDoor.Val Go.Proofs.YtdbgpoileffbeaaDoor.Str Go.Proofs.YtdbgpoileffbeaaDoor.Pr Go.Proofs.YtdbgpoileffbeaaDoor.Ext Go.Proofs.YtdbgpoileffbeaaDoorW.PrintWords Go.Proofs.YtdbgpoileffbeaaDoorW.PrintLast Go.Proofs.YtdbgpoileffbeaaDoorW.PrintMore
set_option linter.unusedVariables false
set_option linter.unusedSimpArgs false
theorem rdOf_mem {l : List ByteArray} {i : Int} (h0 : 0 ≤ i) (h : i < (l.length : Int)) : rdOf ByteArray.empty l i ∈ l := by
  have hi : i.toNat < l.length := by omega
  unfold rdOf
  rw [List.getD_eq_getElem?_getD, List.getElem?_eq_getElem hi]
  exact List.getElem_mem hi
theorem of_any {b : List Int} (hb : BytesOk b) {p : Int} (hp : 0 ≤ p) (hp' : p ≤ 1000000) {l : List ByteArray} (hl : 1 ≤ l.length) (M : Nat) (hM : ∀ x ∈ l, x.size ≤ M) :
    ∃ s, (∀ k, 1 ≤ k → spec_l1Rd_of.f k b p l = some (str s, p + 1)) ∧ s.length ≤ M := by
  obtain ⟨i, hi, h0, h1⟩ := pick_ge hb hp hp' (n := (l.length : Int)) (by omega)
  have hm := hM _ (rdOf_mem h0 h1)
  refine ⟨(rdOf ByteArray.empty l i).data.toList, fun k hk => ?_, ?_⟩
  · unfold spec_l1Rd_of.f
    rw [hi k hk, ← str_eta]
    simp only [Str.bS]
    rw [if_pos h0, if_pos h1]
  · rw [Array.length_toList]; exact hm
theorem bent_any {b : List Int} (hb : BytesOk b) {p : Int} (hp : 0 ≤ p) (hp' : p ≤ 900000) (l : List UInt8) (hl : l.length ≤ 1000000) :
    ∃ s p', (∀ k, 1 ≤ k → spec_l14Bent.f k b p (str l) = some (str s, p')) ∧ s.length ≤ l.length + 10 := by
  obtain ⟨i, hi, i0, i1⟩ := pick_ge hb hp (by omega) (n := (l.length : Int) + 1) (by omega)
  obtain ⟨r, hr, _, _⟩ := pick_ge hb (p := p + 1) (by omega) (by omega) (n := 6) (by omega)
  have start : ∀ k, 1 ≤ k → spec_l1Rd_pick.f k b p (wrap64 (((str l).size : Int) + 1)) = some (i, p + 1) := fun k hk => by
    rw [str_size, Str.w64 (by omega) (by omega)]; exact hi k hk
  obtain ⟨u, hu, u1⟩ := of_any hb (p := p + 1 + 1) (by omega) (by omega) (l := [(⟨#[48]⟩ : ByteArray), (⟨#[57]⟩ : ByteArray), (⟨#[45]⟩ : ByteArray), (⟨#[46]⟩ : ByteArray), (⟨#[32]⟩ : ByteArray), (⟨#[120]⟩ : ByteArray), (⟨#[44]⟩ : ByteArray), (⟨#[58]⟩ : ByteArray), (⟨#[39]⟩ : ByteArray), (⟨#[33]⟩ : ByteArray), (⟨#[59]⟩ : ByteArray)]) (by simp) 1 (by decide)
  obtain ⟨v, hv, v1⟩ := of_any hb (p := p + 1 + 1) (by omega) (by omega) (l := [(⟨#[120]⟩ : ByteArray), (⟨#[48]⟩ : ByteArray), (⟨#[32]⟩ : ByteArray), (⟨#[39]⟩ : ByteArray), (⟨#[59]⟩ : ByteArray), (⟨#[10]⟩ : ByteArray)]) (by simp) 1 (by decide)
  obtain ⟨z, hz, z1⟩ := of_any hb (p := p + 1 + 1) (by omega) (by omega) (l := [(⟨#[48]⟩ : ByteArray), (⟨#[45]⟩ : ByteArray), (⟨#[46]⟩ : ByteArray), (⟨#[32]⟩ : ByteArray), (⟨#[40]⟩ : ByteArray), (⟨#[49]⟩ : ByteArray)]) (by simp) 1 (by decide)
  by_cases h0 : r = 0
  · by_cases hlt : i < (l.length : Int)
    · refine ⟨(((l.drop 0).take (i.toNat - 0)) ++ u) ++ (l.drop (i + 1).toNat).take (l.length - (i + 1).toNat), p + 1 + 1 + 1, fun k hk => ?_, by simp; omega⟩
      unfold spec_l14Bent.f
      rw [start k hk]; simp only [Str.bS]
      rw [hr k hk]; simp only [Str.bS]
      rw [if_pos h0, str_size, if_pos hlt, if_pos i0, if_pos (by omega), hu k hk]; simp only [Str.bS]
      simp only [str_extract, str_append, str_size]
      rw [Str.w64 (by omega) (by omega), if_pos (by simp; omega), if_pos (by omega), if_pos (by omega), if_pos (by simp; omega)]
    · refine ⟨l, p + 1 + 1, fun k hk => ?_, by omega⟩
      unfold spec_l14Bent.f
      rw [start k hk]; simp only [Str.bS]
      rw [hr k hk]; simp only [Str.bS]
      rw [if_pos h0, str_size, if_neg hlt]
  · by_cases h1 : r = 1
    · refine ⟨(l.drop 0).take (i.toNat - 0), p + 1 + 1, fun k hk => ?_, by simp; omega⟩
      unfold spec_l14Bent.f
      rw [start k hk]; simp only [Str.bS]
      rw [hr k hk]; simp only [Str.bS]
      rw [if_neg h0, if_pos h1, str_size, if_pos i0, if_pos (by omega), str_extract]
    · by_cases h2 : r = 2
      · refine ⟨l ++ v, p + 1 + 1 + 1, fun k hk => ?_, by simp; omega⟩
        unfold spec_l14Bent.f
        rw [start k hk]; simp only [Str.bS]
        rw [hr k hk]; simp only [Str.bS]
        rw [if_neg h0, if_neg h1, if_pos h2, hv k hk]; simp only [Str.bS]
        rw [str_size, str_size, if_pos (by omega), str_append]
      · by_cases h3 : r = 3
        · refine ⟨(((l.drop 0).take (i.toNat - 0)) ++ z) ++ (l.drop i.toNat).take (l.length - i.toNat), p + 1 + 1 + 1, fun k hk => ?_, by simp; omega⟩
          unfold spec_l14Bent.f
          rw [start k hk]; simp only [Str.bS]
          rw [hr k hk]; simp only [Str.bS]
          rw [if_neg h0, if_neg h1, if_neg h2, if_pos h3, str_size, if_pos i0, if_pos (by omega), hz k hk]; simp only [Str.bS]
          simp only [str_extract, str_append, str_size]
          rw [if_pos (by simp; omega), if_pos (by simp; omega)]
        · refine ⟨l, p + 1 + 1, fun k hk => ?_, by omega⟩
          unfold spec_l14Bent.f
          rw [start k hk]; simp only [Str.bS]
          rw [hr k hk]; simp only [Str.bS]
          rw [if_neg h0, if_neg h1, if_neg h2, if_neg h3]
theorem isD_of {d : Nat} (h : d < 10) : IsD (UInt8.ofNat (48 + d)) := by unfold IsD; rw [ofNat_toNat h]; omega
theorem figB_l0 {b : List Int} (hb : BytesOk b) (n : Int) (hn : n ≤ 100) : ∀ (m : Nat) (s : List UInt8) (p : Int), Digs s → 0 ≤ p → p + 2 * m ≤ 900000 → (s.length : Int) + m = n →
    ∃ r p', (∀ k, m + 2 ≤ k → spec_l14Figs.l0 k n (str s) b p = some (str r, p')) ∧ Digs r ∧ (r.length : Int) = n ∧ p ≤ p' ∧ p' ≤ p + 2 * m := by
  intro m
  induction m with
  | zero =>
    intro s p hd hp hp' hs
    refine ⟨s, p, fun k hk => ?_, hd, by omega, by omega, by omega⟩
    obtain ⟨k, rfl⟩ : ∃ j, k = j + 1 := ⟨k - 1, by omega⟩
    rw [spec_l14Figs.l0, str_size, if_neg (by omega)]
  | succ m ih =>
    intro s p hd hp hp' hs
    obtain ⟨x, hx, x0, x1⟩ := pick_ge hb hp (by omega) (n := 10) (by omega)
    obtain ⟨y, hy, my⟩ := one_ge hb (p := p + 1) (by omega) (by omega) (l := [0, 0, 9, 9, 5, 1, x]) (by simp)
    simp only [List.mem_cons, List.not_mem_nil, or_false] at my
    have hy0 : 0 ≤ y ∧ y < 10 := by omega
    obtain ⟨r, p', hr, h0, h1, h2, h3⟩ := ih (s ++ [UInt8.ofNat (48 + y.toNat)]) (p + 1 + 1) (hd.append (fun c hc => by rw [List.mem_singleton.1 hc]; exact isD_of (by omega))) (by omega) (by omega) (by rw [List.length_append, List.length_singleton]; omega)
    refine ⟨r, p', fun k hk => ?_, h0, h1, by omega, by omega⟩
    obtain ⟨k, rfl⟩ : ∃ j, k = j + 1 := ⟨k - 1, by omega⟩
    rw [spec_l14Figs.l0, str_size, if_pos (by omega), hx k (by omega)]
    simp only [Str.bS]
    rw [hy k (by omega)]
    simp only [Str.bS]
    rw [strOf_one hy0.1 hy0.2, str_size, if_pos (by rw [List.length_singleton]; omega), str_append]
    exact hr k (by omega)
theorem figB_any {b : List Int} (hb : BytesOk b) {p : Int} (hp : 0 ≤ p) (hp' : p ≤ 500000) {n : Int} (hn : n ≤ 64) :
    ∃ r p', (∀ k, 200 ≤ k → spec_l14Figs.f k b p n = some (str r, p')) ∧ Digs r ∧ r.length ≤ 64 ∧ p ≤ p' ∧ p' ≤ p + 300 := by
  by_cases h1 : n < 1
  · refine ⟨[48], p, fun k hk => ?_, by decide, by decide, by omega, by omega⟩
    unfold spec_l14Figs.f
    rw [if_pos h1]; rfl
  · obtain ⟨x, hx, x0, x1⟩ := pick_ge hb hp (by omega) (n := 9) (by omega)
    obtain ⟨r, p', hr, q0, q1, q2, q3⟩ := figB_l0 hb n (by omega) (n.toNat - 1) [UInt8.ofNat (48 + (x + 1).toNat)] (p + 1) (fun c hc => by rw [List.mem_singleton.1 hc]; exact isD_of (by omega)) (by omega) (by omega) (by rw [List.length_singleton]; omega)
    refine ⟨r, p', fun k hk => ?_, q0, by omega, by omega, by omega⟩
    unfold spec_l14Figs.f
    rw [if_neg h1, hx k (by omega)]
    simp only [Str.bS]
    rw [show (49 : Int) + x = 48 + (x + 1) by omega, strOf_one (by omega) (by omega)]
    exact hr k (by omega)
theorem manyB_l0 (c : UInt8) : ∀ (m : Nat) (a : List UInt8), a.length + m ≤ 1000 → ∀ k, m + 1 ≤ k → spec_l1Many.l0 k (str [c]) (m : Int) (str a) = some (str (a ++ List.replicate m c)) := by
  intro m
  induction m with
  | zero =>
    intro a ha k hk
    obtain ⟨k, rfl⟩ : ∃ j, k = j + 1 := ⟨k - 1, by omega⟩
    rw [spec_l1Many.l0, if_neg (by omega), List.replicate_zero, List.append_nil]
  | succ m ih =>
    intro a ha k hk
    obtain ⟨k, rfl⟩ : ∃ j, k = j + 1 := ⟨k - 1, by omega⟩
    rw [spec_l1Many.l0, if_pos (by omega), str_size, str_size, if_pos (by rw [List.length_singleton]; omega), str_append, Str.w64 (by omega) (by omega), show ((m + 1 : Nat) : Int) - 1 = (m : Int) by omega, ih (a ++ [c]) (by simp; omega) k (by omega), List.append_assoc, List.replicate_succ]
    rfl
theorem manyB (c : UInt8) (n : Int) (hn : n ≤ 100) (k : Nat) (hk : 200 ≤ k) : spec_l1Many.f k (str [c]) n = some (str (List.replicate n.toNat c)) := by
  unfold spec_l1Many.f
  by_cases h : 0 ≤ n
  · have := manyB_l0 c n.toNat [] (by simp; omega) k (by omega)
    rw [show ((n.toNat : Nat) : Int) = n by omega, List.nil_append] at this
    exact this
  · obtain ⟨k, rfl⟩ : ∃ j, k = j + 1 := ⟨k - 1, by omega⟩
    rw [spec_l1Many.l0, if_neg (by omega), show n.toNat = 0 by omega]
    rfl
theorem digs_rep (c : UInt8) (h : IsD c) (n : Nat) : Digs (List.replicate n c) := fun x hx => by rw [(List.mem_replicate.1 hx).2]; exact h
theorem from_big {d : List UInt8} (hD : Digs d) (hl : d.length ≤ 64) (g : Bool) : ∃ n l, (∀ k, 2000 ≤ k → (spec_l1FromFigures.f k (str d)).bind (fun t => (spec_l1Big.f k g t).bind fun bt => some (bt.1, bt.2.1)) = some (n, l)) ∧ BOk n l := by
  have hv := dval_64 hD hl
  have hx : -pw 16 < bigv g (rep (dval d : Int)) ∧ bigv g (rep (dval d : Int)) < pw 16 := by
    rw [bigv_rep g (by omega)]
    split <;> omega
  refine ⟨_, _, fun k hk => ?_, mk_ok hx.1 hx.2⟩
  rw [fromF_eq hD hl k (by omega)]; simp only [Str.bS]
  rw [l1Big_ge (rep_dig _) (by have := rep_len_le (v := (dval d : Int)) (by omega) hv; omega) g k (by omega), bigR_yes hx.1 hx.2]; simp only [Str.bS]
theorem bigB_j1 {b : List Int} (hb : BytesOk b) {p : Int} (hp : 0 ≤ p) (hp' : p ≤ 500000) {n : Int} (hn : n ≤ 64) {s : List UInt8} (hD : Digs s) (hl : s.length ≤ 64) :
    ∃ g l p', (∀ k, 3000 ≤ k → spec_l14Big.j1 k n (str s) b p = some (g, l, p')) ∧ BOk g l ∧ p ≤ p' ∧ p' ≤ p + 10 := by
  obtain ⟨x, hx, x0, x1⟩ := pick_ge hb hp (by omega) (n := 6) (by omega)
  obtain ⟨y, hy, y0, y1⟩ := pick_ge hb (p := p + 1) (by omega) (by omega) (n := 3) (by omega)
  by_cases h0 : x = 0
  · obtain ⟨g, l, hr, ho⟩ := from_big (d := List.replicate n.toNat 57) (digs_rep 57 (by decide) _) (by rw [List.length_replicate]; omega) (y == 0)
    refine ⟨g, l, p + 1 + 1, fun k hk => ?_, ho, by omega, by omega⟩
    obtain ⟨k, rfl⟩ : ∃ j, k = j + 1 := ⟨k - 1, by omega⟩
    have hr' := hr k (by omega)
    rw [spec_l14Big.j1, hx k (by omega)]; simp only [Str.bS]
    rw [if_pos h0, show (⟨#[57]⟩ : ByteArray) = str [57] from rfl, manyB 57 n (by omega) k (by omega)]; simp only [Str.bS]
    rw [hy k (by omega)]; simp only [Str.bS]
    obtain ⟨t, ht, hr2⟩ := Option.bind_eq_some_iff.1 hr'
    obtain ⟨u, hu, hr3⟩ := Option.bind_eq_some_iff.1 hr2
    rw [ht]; simp only [Str.bS]
    rw [hu]; simp only [Str.bS]
    have e := Prod.mk.inj (Option.some.inj hr3)
    rw [e.1, e.2]
  · obtain ⟨g, l, hr, ho⟩ := from_big hD hl (y == 0)
    refine ⟨g, l, p + 1 + 1, fun k hk => ?_, ho, by omega, by omega⟩
    obtain ⟨k, rfl⟩ : ∃ j, k = j + 1 := ⟨k - 1, by omega⟩
    have hr' := hr k (by omega)
    rw [spec_l14Big.j1, hx k (by omega)]; simp only [Str.bS]
    rw [if_neg h0, hy k (by omega)]; simp only [Str.bS]
    obtain ⟨t, ht, hr2⟩ := Option.bind_eq_some_iff.1 hr'
    obtain ⟨u, hu, hr3⟩ := Option.bind_eq_some_iff.1 hr2
    rw [ht]; simp only [Str.bS]
    rw [hu]; simp only [Str.bS]
    have e := Prod.mk.inj (Option.some.inj hr3)
    rw [e.1, e.2]
theorem bigB_j0 {b : List Int} (hb : BytesOk b) {p : Int} (hp : 0 ≤ p) (hp' : p ≤ 400000) {n : Int} (hn0 : 0 ≤ n) (hn : n ≤ 64) :
    ∃ g l p', (∀ k, 3001 ≤ k → spec_l14Big.j0 k n b p = some (g, l, p')) ∧ BOk g l ∧ p ≤ p' ∧ p' ≤ p + 320 := by
  obtain ⟨s, p1, hs, hD, hl, q1, q2⟩ := figB_any hb hp (by omega) hn
  obtain ⟨x, hx, x0, x1⟩ := pick_ge hb (p := p1) (by omega) (by omega) (n := 6) (by omega)
  have hn1 : n - 1 ≤ 63 := by omega
  by_cases h0 : x = 0
  · have hD1 : Digs (49 :: List.replicate (n - 1).toNat 48) := by
      intro c hc
      rcases List.mem_cons.1 hc with e | e
      · rw [e]; decide
      · exact digs_rep 48 (by decide) _ c e
    obtain ⟨g, l, p2, hr, ho, r1, r2⟩ := bigB_j1 hb (p := p1 + 1) (by omega) (by omega) hn hD1 (by rw [List.length_cons, List.length_replicate]; omega)
    refine ⟨g, l, p2, fun k hk => ?_, ho, by omega, by omega⟩
    obtain ⟨k, rfl⟩ : ∃ j, k = j + 1 := ⟨k - 1, by omega⟩
    rw [spec_l14Big.j0, hs k (by omega)]; simp only [Str.bS]
    rw [hx k (by omega)]; simp only [Str.bS]
    rw [if_pos h0, Str.w64 (by omega) (by omega), show (⟨#[48]⟩ : ByteArray) = str [48] from rfl, manyB 48 (n - 1) (by omega) k (by omega)]; simp only [Str.bS]
    rw [str_size, if_pos (by rw [List.length_replicate]; omega), show (⟨#[49]⟩ : ByteArray) = str [49] from rfl, str_append]
    exact hr k (by omega)
  · obtain ⟨g, l, p2, hr, ho, r1, r2⟩ := bigB_j1 hb (p := p1 + 1) (by omega) (by omega) hn hD hl
    refine ⟨g, l, p2, fun k hk => ?_, ho, by omega, by omega⟩
    obtain ⟨k, rfl⟩ : ∃ j, k = j + 1 := ⟨k - 1, by omega⟩
    rw [spec_l14Big.j0, hs k (by omega)]; simp only [Str.bS]
    rw [hx k (by omega)]; simp only [Str.bS]
    rw [if_neg h0]
    exact hr k (by omega)
theorem bigB_any {b : List Int} (hb : BytesOk b) {p : Int} (hp : 0 ≤ p) (hp' : p ≤ 300000) :
    ∃ g l p', (∀ k, 3002 ≤ k → spec_l14Big.f k b p 64 = some (g, l, p')) ∧ BOk g l ∧ p ≤ p' ∧ p' ≤ p + 400 := by
  obtain ⟨x, hx, x0, x1⟩ := pick_ge hb hp (by omega) (n := 64) (by omega)
  obtain ⟨y, hy, my⟩ := one_ge hb (p := p + 1) (by omega) (by omega) (l := [0, 1, 1, 2, 3, 4, 5, 8, 9, 12, 17, 29, 30, 31, 33, 63, 64, wrap64 (1 + x)]) (by simp)
  have hw : wrap64 (1 + x) = 1 + x := Str.w64 (by omega) (by omega)
  have hy0 : 0 ≤ y ∧ y ≤ 64 := by
    rw [hw] at my
    simp only [List.mem_cons, List.not_mem_nil, or_false] at my
    omega
  obtain ⟨g, l, p2, hr, ho, r1, r2⟩ := bigB_j0 hb (p := p + 1 + 1) (by omega) (by omega) hy0.1 hy0.2
  refine ⟨g, l, p2, fun k hk => ?_, ho, by omega, by omega⟩
  unfold spec_l14Big.f
  rw [hx k (by omega)]; simp only [Str.bS]
  rw [hy k (by omega)]; simp only [Str.bS]
  rw [if_neg (by omega)]
  exact hr k (by omega)
theorem drawBigGet_any {l : List Int} (hl : ∀ x ∈ l, (Lit.int .u8 x).wf = true) : ∃ s, (∀ k, 4000 ≤ k → spec_DrawBigGet.f k l = some (str s)) ∧ s.length ≤ 1000 := by
  obtain ⟨b, hb, hB⟩ := open_any hl
  obtain ⟨r, hr, _, _⟩ := pick_ge hB (p := 0) (by omega) (by omega) (n := 12) (by omega)
  by_cases h0 : r = 0
  · obtain ⟨v, hv, v1⟩ := of_any hB (p := 0 + 1) (by omega) (by omega) (l := [(⟨#[]⟩ : ByteArray), (⟨#[45]⟩ : ByteArray), (⟨#[45, 48]⟩ : ByteArray), (⟨#[48, 48]⟩ : ByteArray), (⟨#[48, 49]⟩ : ByteArray), str (List.replicate 64 57), str (List.replicate 65 57)]) (by simp) 100 (by decide)
    refine ⟨v, fun k hk => ?_, by omega⟩
    unfold spec_DrawBigGet.f
    rw [hb]; simp only [Str.bS]
    rw [hr k (by omega)]; simp only [Str.bS]
    rw [if_pos h0, show (⟨#[57]⟩ : ByteArray) = str [57] from rfl, manyB 57 64 (by omega) k (by omega)]; simp only [Str.bS]
    rw [manyB 57 65 (by omega) k (by omega)]; simp only [Str.bS]
    rw [show (64 : Int).toNat = 64 from rfl, show (65 : Int).toNat = 65 from rfl, hv k (by omega)]; simp only [Str.bS]
  · obtain ⟨g, l, q, hs, ho, q1, q2⟩ := bigB_any hB (p := 0 + 1) (by omega) (by omega)
    have hlen : (bigT g l).length ≤ 100 := by
      have := textL_64 ho
      unfold bigT
      split
      · rw [List.length_cons]; omega
      · omega
    obtain ⟨v, p', hv, v1⟩ := bent_any hB (p := q) (by omega) (by omega) (bigT g l) (by omega)
    refine ⟨v, fun k hk => ?_, by omega⟩
    unfold spec_DrawBigGet.f
    rw [hb]; simp only [Str.bS]
    rw [hr k (by omega)]; simp only [Str.bS]
    rw [if_neg h0, hs k (by omega)]; simp only [Str.bS]
    rw [specPut ho.2.1 ho.1 k (by omega)]; simp only [Str.bS]
    rw [hv k (by omega)]; simp only [Str.bS]
end Go.Proofs.YtdbgpoileffbeaaDoor.Drw
end
section
namespace Go.Proofs.YtdbgpoileffbeaaDoor.Pure
open Go.RowKit Go.Proofs.YtdbgpoileffbeaaDoor.Pr Go.Proofs.YtdbgpoileffbeaaDoor.Ext Go.Proofs.YtdbgpoileffbeaaDoor.Dec Go.Proofs.YtdbgpoileffbeaaDoor.Jt Go.Proofs.YtdbgpoileffbeaaDoor.Val Go.Proofs.YtdbgpoileffbeaaDoor.Str Go.Proofs.YtdbgpoileffbeaaDoorW.PrintWords Go.Proofs.YtdbgpoileffbeaaDoorW.PrintLast Go.Proofs.YtdbgpoileffbeaaDoorW.PrintMore
set_option linter.unusedVariables false
set_option linter.unusedSimpArgs false
theorem told_len {s : List UInt8} {r : Bool × List Int × Bool} (h : ToldB s r) : r.2.1.length ≤ 1000 := by
  rcases h with ⟨_, h, _⟩ | ⟨rfl, _⟩
  · have := h.1; omega
  · simp
theorem FnBigGet {l : List Int} (hl : ∀ x ∈ l, (Lit.int .u8 x).wf = true) : laws_FnBigGet.f 9000 l = some true := by
  unfold laws_FnBigGet.f
  split
  · rfl
  · obtain ⟨s, hs, ls⟩ := Drw.drawBigGet_any hl
    obtain ⟨r, h1, t1⟩ := implBigGet s (by omega)
    obtain ⟨r', h2, t2⟩ := specBigGet s (by omega)
    obtain rfl := t1.uniq t2
    have hlen := told_len t1
    have jt : ∀ k, 1010 ≤ k → laws_jtBig.f k r.1 r.2.1 r.1 r.2.1 = some true := fun k hk => by rw [jtBig_ge _ _ _ _ hlen k hk]; simp
    rw [hs _ (by decide)]; simp only [Str.bS]
    rw [h1 _ (by omega)]; simp only [Str.bS]
    rw [h2 _ (by omega)]; simp only [Str.bS]
    rw [if_neg (by simp), jt _ (by decide)]; simp only [Str.bS]
    rw [if_pos trivial, laws_FnBigGet.j0]
    rcases t1 with ⟨e, ho, es⟩ | ⟨e, _⟩
    · have hok : okB r.1 r.2.1 = true := (okB_iff _ _).2 ho
      rw [e, if_neg (by decide), implBigPut, if_pos hok]; simp only [Str.bS]
      rw [str_toList, str_toList, if_pos es.symm, bigOk_f, hok]; simp only [Str.bS]
    · rw [e, if_pos (by decide), if_pos (by decide), jtBig_ge _ _ _ _ (by simp) _ (by decide)]
      rfl
end Go.Proofs.YtdbgpoileffbeaaDoor.Pure
end
section
namespace Go.Proofs.YtdbgpoileffbeaaDoor.LaidE
open Go Go.RowKit Go.Proofs.YtdbgpoileffbeaaDoor.Ext
set_option linter.unusedVariables false
theorem powType : (Tryd.prog.globals[3]?).map (·.type) = some 138 := by kernel_rfl
theorem powData : (Rows.laid_internal_strconv_uint64pow10 : DataW Unit) = Lib.tabData .u64 Lib.pow10Tab := rfl
theorem envI_of {r : List (String × DataW Unit)} {W : World} (h : laidMet Tryd.prog (("internal/strconv.uint64pow10", Rows.laid_internal_strconv_uint64pow10) :: r) W) : EnvI W :=
  Lib.tabIs_of_head gPow powType Tryd.underlying138 Tryd.underlying112 (by kernel_rfl) (by kernel_rfl) (powData ▸ h)
theorem star : "*" ++ "errors.errorString" = "*errors.errorString" := by decide
theorem rowErr (u : TypeId) (h : Tryd.prog.typeName? 3 u = some "*errors.errorString") : u = 142 :=
  typeName_ptr_named (nm := "errors.errorString") (by rw [star]; kernel_rfl) (by kernel_rfl) (by decide) u (by rw [star]; exact h)
theorem gSyn : Tryd.prog.globalNamed "strconv.ErrSyntax" = some 1 := by kernel_rfl
theorem gRan : Tryd.prog.globalNamed "strconv.ErrRange" = some 2 := by kernel_rfl
theorem gSynType : (Tryd.prog.globals[1]?).map (·.type) = some 91 := by kernel_rfl
theorem gRanType : (Tryd.prog.globals[2]?).map (·.type) = some 91 := by kernel_rfl
theorem cellsE : Tryd.prog.cellsOf 144 = 1 := by kernel_rfl
theorem cellsS : Tryd.prog.cellsOf 9 = 1 := by kernel_rfl
theorem syn_of {r : List (String × DataW Unit)} {W : World} (h : laidMet Tryd.prog (("strconv.ErrSyntax", Rows.laid_strconv_ErrSyntax) :: r) W) : HoldsErr 1 W := by
  obtain ⟨a0, s0, hv0, -, -, -⟩ := laid_sentinel h gSyn gSynType Tryd.underlying91 rowErr Tryd.underlying142 Tryd.underlying144 rfl rfl Tryd.underlying9 cellsE cellsS
  exact ⟨_, by simpa using World.var?_cell gSyn hv0 0, .inr ⟨_, _, rfl⟩⟩
theorem ran_of {r : List (String × DataW Unit)} {W : World} (h : laidMet Tryd.prog (("strconv.ErrRange", Rows.laid_strconv_ErrRange) :: r) W) : HoldsErr 2 W := by
  obtain ⟨a0, s0, hv0, -, -, -⟩ := laid_sentinel h gRan gRanType Tryd.underlying91 rowErr Tryd.underlying142 Tryd.underlying144 rfl rfl Tryd.underlying9 cellsE cellsS
  exact ⟨_, by simpa using World.var?_cell gRan hv0 0, .inr ⟨_, _, rfl⟩⟩
theorem len_of {W : World} (h : W.ShapedOpen Tryd.prog) : ∃ m, W.cell? ⟨0, 0, none⟩ = some (.int .i64 m) :=
  cell_of_shapedOpen_int h (of_decide_eq_true (by kernel_rfl)) (t := 3) (zero := #[.int .i64 0]) (by kernel_rfl) rfl (by kernel_rfl) (by kernel_rfl) Tryd.underlying3
end Go.Proofs.YtdbgpoileffbeaaDoor.LaidE
end
