/- What the claim's row needs of the contracts and words below it, and no more. -/
import Derived.Test.YtgeloncilhighaaDoorQSu2
import Derived.Lib.ItoaNum
import Derived.Lib.Atoi
import Derived.Lib.AtoiAllMem
import Derived.Lib.IndexLaws
import Derived.Lib.AtoiAllCases
import Derived.Test.YtgeloncilhighaaDoorRows
import Derived.Stop.LaidErr
import Derived.Lib.LaidTab
import Derived.Shelf.Vars
import Derived.SizedLaws
import Derived.KernelRfl
section
namespace Go.Proofs.YtgeloncilhighaaDoor.Pr
open Go.RowKit Go.Proofs.YtgeloncilhighaaDoorW.PrintWords Go.Proofs.YtgeloncilhighaaDoorW.PrintLast Go.Proofs.YtgeloncilhighaaDoor.Ext Go.Proofs.YtgeloncilhighaaDoorW.PrintMore
attribute [local go_sem] max2_int min2_int max_two min_two max_three min_three max_four min_four
set_option linter.unusedVariables false
set_option linter.unusedSimpArgs false
attribute [local go_sem high] eqA25
mutual
def laws_FnSpanPut.j0 : Nat → List Int → List Int → Bool → Option (Bool)
  | 0, _, _, _ => none
  | k + 1, x0, x1, x21 => if x21 = true then (some true) else ((spec_DrawSpanPut.f k x0).bind fun bt386 => ((impl_SpanPut.f bt386.1 bt386.2).bind fun t389 => ((impl_SpanGet.f t389).bind fun bt390 => ((spec_SpanPut.f k bt386.1 bt386.2).bind fun t394 => (if t389.toList = t394.toList then ((impl_SpanOk.f bt386.1 bt386.2).bind fun t395 => ((spec_SpanOk.f bt386.1 bt386.2).bind fun t396 => (if (t395 != t396) = true then (laws_FnSpanPut.j1 k x1 true) else ((impl_SpanOk.f bt386.1 bt386.2).bind fun t397 => (if (bt390.2.2 != t397) = true then (laws_FnSpanPut.j1 k x1 true) else (if bt390.2.2 = true then (laws_FnSpanPut.j1 k x1 (!(bt390.1 == bt386.1) || (!(bt390.2.1 == bt386.2)))) else (laws_FnSpanPut.j1 k x1 false))))))) else (laws_FnSpanPut.j1 k x1 true))))))
def laws_FnSpanPut.j1 : Nat → List Int → Bool → Option (Bool)
  | 0, _, _ => none
  | k + 1, x1, x55 => if x55 = true then (some false) else ((spec_DrawSpanGet.f k x1).bind fun t398 => ((impl_SpanGet.f t398).bind fun bt399 => ((spec_SpanGet.f k t398).bind fun bt403 => (if (bt399.2.2 == bt403.2.2) = true then (if (bt399.1 == bt403.1 && (bt399.2.1 == bt403.2.1)) = true then (if bt399.2.2 = true then ((impl_SpanPut.f bt399.1 bt399.2.1).bind fun t407 => (some (t407.toList == t398.toList))) else (some true)) else (some false)) else (some false)))))
end
def laws_FnSpanPut.f (k : Nat) (l0 : List Int) (l1 : List Int) : Option (Bool) := if (l0.length : Int) > 1048576 then (laws_FnSpanPut.j0 k l0 l1 true) else (laws_FnSpanPut.j0 k l0 l1 (decide ((l1.length : Int) > 1048576)))
def laws_FnSpanPut.T6 : Bool × List (List Nat × List Nat) := (true, [([], []), ([], []), ([1], [1]), ([0, 2], [0, 2]), ([3, 2], [3]), ([4], [4]), ([5, 4, 4], [4, 5]), ([4], [4]), ([7, 6, 4], [4, 7]), ([6, 8, 4], [4, 6, 8]), ([4, 9], [4, 9]), ([10, 8], [10]), ([11], [11]), ([11], [11]), ([13, 11, 11], [11, 13]), ([12, 14, 11], [11, 12, 14]), ([11, 15], [11, 15]), ([16, 14], [16]), ([17], [17]), ([18, 17, 17], [17, 18]), ([19], [19]), ([19], [19]), ([20, 21, 19], [19, 20, 21]), ([19, 22, 17], [17, 19, 22]), ([17, 23], [17, 23])])
def laws_FnSpanPut.B6 : List Nat := [0, 0, 2, 7, 15, 31, 63, 31, 255, 511, 1023, 2047, 4095, 4095, 12287, 32767, 65535, 131071, 262143, 524287, 1048575, 1048575, 4194303, 8388607, 16777215]
theorem laws_FnSpanPut.tab6 : rtab .any (opsOf Tryd.f7 6) = laws_FnSpanPut.T6 := by kernel_rfl
theorem laws_FnSpanPut.bits6 : waitsOk laws_FnSpanPut.T6.2 laws_FnSpanPut.B6 = true := by kernel_rfl
set_option maxHeartbeats 8000000 in
set_option maxRecDepth 100000 in
theorem laws_FnSpanPut.calls (k : Nat) (A0 : Option Addr) (c0 : Nat) (l0 : List Int) (A1 : Option Addr) (c1 : Nat) (l1 : List Int) (r : Bool) (w : World) (hT : EnvA w) (hr0 : Kd.C (Kd.int .u8) w A0 l0.length l0) (hc0 : l0.length ≤ c0) (hr1 : Kd.C (Kd.int .u8) w A1 l1.length l1) (hc1 : l1.length ≤ c1) (h : laws_FnSpanPut.f k l0 l1 = some r) :
    Calls Tryd.prog 7 #[.slice A0 l0.length c0, .slice A1 l1.length c1] w fun e w' => e = .returned (.bool r) ∧ Below w.heap.size w w' := by
  have hu25 := Tryd.underlying25
  have HR0 := Aside0.mk hr0
  have HC0 := Aside0.mk hc0
  clear hr0 hc0
  have HR1 := Aside0.mk hr1
  have HC1 := Aside0.mk hc1
  clear hr1 hc1
  have HB := Aside0.mk (Below.refl w.heap.size w)
  have HT := Aside0.mk hT
  clear hT
  have H : (if (l0.length : Int) > 1048576 then (laws_FnSpanPut.j0 k l0 l1 true) else (laws_FnSpanPut.j0 k l0 l1 (decide ((l1.length : Int) > 1048576)))) = some r := h
  clear h
  have HC3 := Aside0.mk H
  clear H
  go_enter Tryd.func7, Tryd.ntmps7
  go_upto_region 1 with (fail)
  go_cut [21] (fun v21 wc => ∃ (kq : Nat) (x21_2 : Bool), v21 = .bool x21_2 ∧ Aside0 (laws_FnSpanPut.j0 kq l0 l1 x21_2 = some r) ∧ Aside0 (kq ≤ k) ∧ Aside0 (Below w.heap.size w wc))
  case first =>
    have H := HC3.out
    clear HC3
    by_cases c4 : (l0.length : Int) > 1048576
    · rw [if_pos c4] at H
      have c4b0 : decide (1048576 < (l0.length : Int)) = true := decide_eq_true c4
      have c4b1 : decide (1048576 < l0.length) = true := decide_eq_true (by omega)
      clear c4
      (first | rw [c4b0] | (simp only [i64_w, i32_w]; rw [c4b0]) | skip)
      have H' := Aside0.mk H
      clear H
      go_wp2
      go_meet
      case rel => exact ⟨_, (true), (by first | rfl | (simp; done) | (simp [*]; done)), H', ⟨by first | omega | exact Nat.le_refl _⟩, ⟨zb⟩⟩
    · rw [if_neg c4] at H
      have c4b0 : decide (1048576 < (l0.length : Int)) = false := decide_eq_false c4
      have c4b1 : decide (1048576 < l0.length) = false := decide_eq_false (by omega)
      clear c4
      (first | rw [c4b0] | (simp only [i64_w, i32_w]; rw [c4b0]) | skip)
      have H' := Aside0.mk H
      clear H
      go_wp2
      go_meet
      case rel => exact ⟨_, (decide ((l1.length : Int) > 1048576)), (by first | rfl | (simp; done) | (simp [*]; done)), H', ⟨by first | omega | exact Nat.le_refl _⟩, ⟨zb⟩⟩
  case rest =>
    clear HC3
    try clear c1
    try clear p2
    try clear c4
    try clear c4b0
    try clear c4b1
    obtain ⟨kq, x21_2, rfl, HA, HJ2, HB⟩ := hcut
    cases kq with
    | zero => exact absurd HA.out (by simp [laws_FnSpanPut.j0])
    | succ kj2 =>
      have H := HA.out
      clear HA
      simp only [laws_FnSpanPut.j0] at H
      by_cases c5 : x21_2 = true
      · subst c5
        have H1 : (some true) = some r := by rw [if_pos rfl] at H; exact H
        clear H
        have H := H1
        clear H1
        obtain rfl := Option.some.inj H
        go_wp2
        go_ret
        exact ⟨by first | rfl | (simp [errW_none, errW_some] <;> rfl) | (simp [*, errW_none, errW_some] <;> rfl), zb⟩
      · replace c5 := Bool.eq_false_iff.mpr c5
        subst c5
        have H1 : ((spec_DrawSpanPut.f kj2 l0).bind fun bt386 => ((impl_SpanPut.f bt386.1 bt386.2).bind fun t389 => ((impl_SpanGet.f t389).bind fun bt390 => ((spec_SpanPut.f kj2 bt386.1 bt386.2).bind fun t394 => (if t389.toList = t394.toList then ((impl_SpanOk.f bt386.1 bt386.2).bind fun t395 => ((spec_SpanOk.f bt386.1 bt386.2).bind fun t396 => (if (t395 != t396) = true then (laws_FnSpanPut.j1 kj2 l1 true) else ((impl_SpanOk.f bt386.1 bt386.2).bind fun t397 => (if (bt390.2.2 != t397) = true then (laws_FnSpanPut.j1 kj2 l1 true) else (if bt390.2.2 = true then (laws_FnSpanPut.j1 kj2 l1 (!(bt390.1 == bt386.1) || (!(bt390.2.1 == bt386.2)))) else (laws_FnSpanPut.j1 kj2 l1 false))))))) else (laws_FnSpanPut.j1 kj2 l1 true)))))) = some r := by rw [if_neg (show ¬ (false = true) by decide)] at H; exact H
        clear H
        have H := H1
        clear H1
        replace H := Option.bind_eq_some_iff.mp H
        obtain ⟨⟨t386, t387⟩, A60, H⟩ := H
        replace H : ((impl_SpanPut.f t386 t387).bind fun t389 => ((impl_SpanGet.f t389).bind fun bt390 => ((spec_SpanPut.f kj2 t386 t387).bind fun t394 => (if t389.toList = t394.toList then ((impl_SpanOk.f t386 t387).bind fun t395 => ((spec_SpanOk.f t386 t387).bind fun t396 => (if (t395 != t396) = true then (laws_FnSpanPut.j1 kj2 l1 true) else ((impl_SpanOk.f t386 t387).bind fun t397 => (if (bt390.2.2 != t397) = true then (laws_FnSpanPut.j1 kj2 l1 true) else (if bt390.2.2 = true then (laws_FnSpanPut.j1 kj2 l1 (!(bt390.1 == t386) || (!(bt390.2.1 == t387)))) else (laws_FnSpanPut.j1 kj2 l1 false))))))) else (laws_FnSpanPut.j1 kj2 l1 true))))) = some r := H
        have A6 := Aside0.mk A60
        clear A60
        replace H := Option.bind_eq_some_iff.mp H
        obtain ⟨t389, A70, H⟩ := H
        replace H : ((impl_SpanGet.f t389).bind fun bt390 => ((spec_SpanPut.f kj2 t386 t387).bind fun t394 => (if t389.toList = t394.toList then ((impl_SpanOk.f t386 t387).bind fun t395 => ((spec_SpanOk.f t386 t387).bind fun t396 => (if (t395 != t396) = true then (laws_FnSpanPut.j1 kj2 l1 true) else ((impl_SpanOk.f t386 t387).bind fun t397 => (if (bt390.2.2 != t397) = true then (laws_FnSpanPut.j1 kj2 l1 true) else (if bt390.2.2 = true then (laws_FnSpanPut.j1 kj2 l1 (!(bt390.1 == t386) || (!(bt390.2.1 == t387)))) else (laws_FnSpanPut.j1 kj2 l1 false))))))) else (laws_FnSpanPut.j1 kj2 l1 true)))) = some r := H
        have A7 := Aside0.mk A70
        clear A70
        replace H := Option.bind_eq_some_iff.mp H
        obtain ⟨⟨t390, t391, t392⟩, A80, H⟩ := H
        replace H : ((spec_SpanPut.f kj2 t386 t387).bind fun t394 => (if t389.toList = t394.toList then ((impl_SpanOk.f t386 t387).bind fun t395 => ((spec_SpanOk.f t386 t387).bind fun t396 => (if (t395 != t396) = true then (laws_FnSpanPut.j1 kj2 l1 true) else ((impl_SpanOk.f t386 t387).bind fun t397 => (if (t392 != t397) = true then (laws_FnSpanPut.j1 kj2 l1 true) else (if t392 = true then (laws_FnSpanPut.j1 kj2 l1 (!(t390 == t386) || (!(t391 == t387)))) else (laws_FnSpanPut.j1 kj2 l1 false))))))) else (laws_FnSpanPut.j1 kj2 l1 true))) = some r := H
        have A8 := Aside0.mk A80
        clear A80
        have HC9 := Aside0.mk H
        clear H
        go_upto_region 6 with (first | ((with_reducible refine gate_callee (f := 22) rfl ?_); refine goesL_ (some 23) rfl rfl Tryd.func22 (by kernel_rfl) rfl #[.slice A0 l0.length c0] rfl za ?_; (with_reducible refine (spec_DrawSpanPut.calls kj2 _ _ l0 t386 t387 _ ?side1 ?side2 A6.out).mono ?_); (case side1 => repeat (first | exact (Kd.C_below HR0.out HB.out) | (with_reducible refine Kd.C_alloc ?_ _) | (with_reducible refine Kd.C_drewN ?_ _) | (with_reducible refine Kd.C_drew ?_))); (case side2 => exact HC0.out); rintro e w10 ⟨rfl, hb⟩; refine ⟨_, rfl, ?_⟩; have n0_ := Aside0.mk (below_step zb hb); clear HB; have HB := n0_; clear n0_; (try clear hb); (try clear hb2); (try clear hk); (try clear hi)) | ((with_reducible refine gate_dst (N := 5) rfl ?_); (try (refine gate_guard (by rfl) ?_; dsimp only)); refine box_event ?hg (N := 5) ?hd (cs := #[.int .i64 0, .int .i64 0]) (t := 25) ?hr ?_; (case hd => rfl); (case hg => rfl); (case hr => first | (go_simp; done) | (go_simp; rfl)); intro gb388 hg w11 hbox hb; have n0_ := Aside0.mk (below_step zb hb); have n1_ := Aside0.mk (hbox); have n2_ := Aside0.mk ((by rw [hg]; exact (below_size zb) : w.heap.size ≤ gb388)); have n3_ := Aside0.mk ((by rw [hg]; exact (below_size zb) : w.heap.size ≤ gb388)); clear HB; have HB := n0_; have BK388 := n1_; have GW388 := n2_; have GE388 := n3_; clear n0_ n1_ n2_ n3_; clear hb hbox hg; have hcz12_0 : w11.cell? ⟨gb388, 0, none⟩ = some (.int .i64 0) := (blk_cell BK388.out 0).trans rfl; have hcz12_1 : w11.cell? ⟨gb388, 1, none⟩ = some (.int .i64 0) := (blk_cell BK388.out 1).trans rfl; have hfz12_0 := blk_frozen BK388.out 0; have hfz12_1 := blk_frozen BK388.out 1) | ((with_reducible refine gate_callee (f := 13) rfl ?_); refine goesL_ (some 25) rfl rfl Tryd.func13 (by kernel_rfl) rfl #[.agg #[.int .i64 t386, .int .i64 t387]] rfl za ?_; (with_reducible refine (impl_SpanPut.calls t386 t387 t389 _ ?side1 A7.out).mono ?_); (case side1 => exact HT.out.toI.below zb); rintro e w13 ⟨rfl, hb⟩; refine ⟨_, rfl, ?_⟩; have n0_ := Aside0.mk (blk_below (g := gb388) (o := .cells #[.int .i64 t386, .int .i64 t387] 25 (0, 0)) (by (with_reducible repeat (first | refine blk_drewN ?_ _ | refine blk_drew ?_ | refine blk_alloc ?_ _)); refine blk_put (cs := #[.int .i64 t386, .int .i64 0]) ?_ 1 _ rfl; (with_reducible repeat (first | refine blk_drewN ?_ _ | refine blk_drew ?_ | refine blk_alloc ?_ _)); refine blk_put (cs := #[.int .i64 0, .int .i64 0]) ?_ 0 _ rfl; (with_reducible repeat (first | refine blk_drewN ?_ _ | refine blk_drew ?_ | refine blk_alloc ?_ _)); exact BK388.out) hb); have n1_ := Aside0.mk (below_step zb hb); clear BK388; clear HB; have BK388 := n0_; have HB := n1_; clear n0_ n1_; (try clear hb); (try clear hb2); (try clear hk); (try clear hi)) | ((with_reducible refine gate_callee (f := 20) rfl ?_); refine goesL_ (some 28) rfl rfl Tryd.func20 (by kernel_rfl) rfl #[.string t389] rfl za ?_; (with_reducible refine (impl_SpanGet.calls t389 t390 t391 t392 _ ?side1 A8.out).mono ?_); (case side1 => exact HT.out.below zb); rintro e w14 ⟨rfl, hb⟩; refine ⟨_, rfl, ?_⟩; have n0_ := Aside0.mk (blk_below (g := gb388) (o := .cells #[.int .i64 t386, .int .i64 t387] 25 (0, 0)) (zk BK388.out) hb); have n1_ := Aside0.mk (below_step zb hb); clear BK388; clear HB; have BK388 := n0_; have HB := n1_; clear n0_ n1_; (try clear hb); (try clear hb2); (try clear hk); (try clear hi)) | ((with_reducible refine gate_dst (N := 7) rfl ?_); (try (refine gate_guard (by rfl) ?_; dsimp only)); refine box_event ?hg (N := 7) ?hd (cs := #[.int .i64 0, .int .i64 0]) (t := 25) ?hr ?_; (case hd => rfl); (case hg => rfl); (case hr => first | (go_simp; done) | (go_simp; rfl)); intro gb393 hg w15 hbox hb; have n0_ := Aside0.mk (blk_below (g := gb388) (o := .cells #[.int .i64 t386, .int .i64 t387] 25 (0, 0)) (zk BK388.out) hb); have n1_ := Aside0.mk (below_step zb hb); have n2_ := Aside0.mk (hbox); have n3_ := Aside0.mk ((by rw [hg]; exact (below_size zb) : w.heap.size ≤ gb393)); have n4_ := Aside0.mk ((by rw [hg]; exact (below_size zb) : w.heap.size ≤ gb393)); have n5_ := Aside0.mk ((by rw [hg]; exact Nat.ne_of_lt (blk_lt (g := gb388) (o := .cells #[.int .i64 t386, .int .i64 t387] 25 (0, 0)) (zk BK388.out)) : gb388 ≠ gb393)); have n6_ := Aside0.mk ((by rw [hg]; exact Nat.ne_of_gt (blk_lt (g := gb388) (o := .cells #[.int .i64 t386, .int .i64 t387] 25 (0, 0)) (zk BK388.out)) : gb393 ≠ gb388)); clear BK388; clear HB; have BK388 := n0_; have HB := n1_; have BK393 := n2_; have GW393 := n3_; have GE393 := n4_; have NB388_393 := n5_; have NB393_388 := n6_; clear n0_ n1_ n2_ n3_ n4_ n5_ n6_; clear hb hbox hg; have hnb16 := NB393_388.out; have hnc16 := NB388_393.out; have hcz17_0 : w15.cell? ⟨gb393, 0, none⟩ = some (.int .i64 0) := (blk_cell BK393.out 0).trans rfl; have hcz17_1 : w15.cell? ⟨gb393, 1, none⟩ = some (.int .i64 0) := (blk_cell BK393.out 1).trans rfl; have hfz17_0 := blk_frozen BK393.out 0; have hfz17_1 := blk_frozen BK393.out 1))
        (try simp only [Act.put, List.setIfInBounds_toArray, List.set_cons_zero, List.set_cons_succ])
        go_cut [55] (fun v55 wc => ∃ (kq : Nat) (x55_8 : Bool), v55 = .bool x55_8 ∧ Aside0 (laws_FnSpanPut.j1 kq l1 x55_8 = some r) ∧ Aside0 (kq ≤ kj2) ∧ Aside0 (wc.heap[gb388]? = some (.cells #[.int .i64 t386, .int .i64 t387] 25 (0, 0))) ∧ Aside0 (wc.heap[gb393]? = some (.cells #[.int .i64 t390, .int .i64 t391] 25 (0, 0))) ∧ Aside0 (Below w.heap.size w wc))
        case first =>
          have H := HC9.out
          clear HC9
          replace H := Option.bind_eq_some_iff.mp H
          obtain ⟨t394, A180, H⟩ := H
          replace H : (if t389.toList = t394.toList then ((impl_SpanOk.f t386 t387).bind fun t395 => ((spec_SpanOk.f t386 t387).bind fun t396 => (if (t395 != t396) = true then (laws_FnSpanPut.j1 kj2 l1 true) else ((impl_SpanOk.f t386 t387).bind fun t397 => (if (t392 != t397) = true then (laws_FnSpanPut.j1 kj2 l1 true) else (if t392 = true then (laws_FnSpanPut.j1 kj2 l1 (!(t390 == t386) || (!(t391 == t387)))) else (laws_FnSpanPut.j1 kj2 l1 false))))))) else (laws_FnSpanPut.j1 kj2 l1 true)) = some r := H
          have A18 := Aside0.mk A180
          clear A180
          by_cases c19 : t389.toList = t394.toList
          · rw [if_pos c19] at H
            have c19b0 : (t389.toList == t394.toList) = true := beq_iff_eq.mpr c19
            have c19b1 : (t389.toList != t394.toList) = false := bne_eq_false_iff_eq.mpr c19
            clear c19
            (first | rw [c19b0] | (simp only [i64_w, i32_w]; rw [c19b0]) | skip)
            replace H := Option.bind_eq_some_iff.mp H
            obtain ⟨t395, A200, H⟩ := H
            replace H : ((spec_SpanOk.f t386 t387).bind fun t396 => (if (t395 != t396) = true then (laws_FnSpanPut.j1 kj2 l1 true) else ((impl_SpanOk.f t386 t387).bind fun t397 => (if (t392 != t397) = true then (laws_FnSpanPut.j1 kj2 l1 true) else (if t392 = true then (laws_FnSpanPut.j1 kj2 l1 (!(t390 == t386) || (!(t391 == t387)))) else (laws_FnSpanPut.j1 kj2 l1 false)))))) = some r := H
            have A20 := Aside0.mk A200
            clear A200
            replace H := Option.bind_eq_some_iff.mp H
            obtain ⟨t396, A210, H⟩ := H
            replace H : (if (t395 != t396) = true then (laws_FnSpanPut.j1 kj2 l1 true) else ((impl_SpanOk.f t386 t387).bind fun t397 => (if (t392 != t397) = true then (laws_FnSpanPut.j1 kj2 l1 true) else (if t392 = true then (laws_FnSpanPut.j1 kj2 l1 (!(t390 == t386) || (!(t391 == t387)))) else (laws_FnSpanPut.j1 kj2 l1 false))))) = some r := H
            have A21 := Aside0.mk A210
            clear A210
            by_cases c22 : (t395 != t396) = true
            · rw [if_pos c22] at H
              have c22b0 : (t395 != t396) = true := c22
              (try (have c22b1 : decide (t395 = t396) = false := by simpa using c22))
              (try (have c22b2 : (t395 == t396) = false := by simpa using c22))
              (try (have c22b3 : ¬ (t395 = t396) := by simpa using c22))
              clear c22
              have H' := Aside0.mk H
              clear H
              try go_wp2
              have n0_ : Aside0 (((w15.setCell ⟨gb393, 0, none⟩ (.int .i64 t390)).setCell ⟨gb393, 1, none⟩ (.int .i64 t391)).heap[gb388]? = some (.cells #[.int .i64 t386, .int .i64 t387] 25 (0, 0))) := ⟨by (with_reducible repeat (first | refine blk_drewN ?_ _ | refine blk_drew ?_ | refine blk_alloc ?_ _)); refine blk_far ?_ NB388_393.out _; (with_reducible repeat (first | refine blk_drewN ?_ _ | refine blk_drew ?_ | refine blk_alloc ?_ _)); refine blk_far ?_ NB388_393.out _; (with_reducible repeat (first | refine blk_drewN ?_ _ | refine blk_drew ?_ | refine blk_alloc ?_ _)); exact BK388.out⟩
              have n1_ : Aside0 (((w15.setCell ⟨gb393, 0, none⟩ (.int .i64 t390)).setCell ⟨gb393, 1, none⟩ (.int .i64 t391)).heap[gb393]? = some (.cells #[.int .i64 t390, .int .i64 t391] 25 (0, 0))) := ⟨by (with_reducible repeat (first | refine blk_drewN ?_ _ | refine blk_drew ?_ | refine blk_alloc ?_ _)); refine blk_put (cs := #[.int .i64 t390, .int .i64 0]) ?_ 1 _ rfl; (with_reducible repeat (first | refine blk_drewN ?_ _ | refine blk_drew ?_ | refine blk_alloc ?_ _)); refine blk_put (cs := #[.int .i64 0, .int .i64 0]) ?_ 0 _ rfl; (with_reducible repeat (first | refine blk_drewN ?_ _ | refine blk_drew ?_ | refine blk_alloc ?_ _)); exact BK393.out⟩
              have n2_ : Aside0 (Below w.heap.size w ((w15.setCell ⟨gb393, 0, none⟩ (.int .i64 t390)).setCell ⟨gb393, 1, none⟩ (.int .i64 t391))) := ⟨zb⟩
              (try clear BK388)
              (try clear BK393)
              (try clear HB)
              generalize ((w15.setCell ⟨gb393, 0, none⟩ (.int .i64 t390)).setCell ⟨gb393, 1, none⟩ (.int .i64 t391)) = w23 at n0_ n1_ n2_ ⊢
              have BK388 := n0_
              have BK393 := n1_
              have HB := n2_
              clear n0_ n1_ n2_
              have n0_ := Aside0.mk (blk_drew BK388.out)
              have n1_ := Aside0.mk (blk_drew BK393.out)
              have n2_ := Aside0.mk (below_drew1 HB.out)
              clear BK388
              clear BK393
              clear HB
              have BK388 := n0_
              have BK393 := n1_
              have HB := n2_
              clear n0_ n1_ n2_
              refine start_ (n := 25) (S := fun w' => w'.cell? ⟨gb388, 0, none⟩ = some (.int .i64 t386) ∧ w'.cell? ⟨gb388, 1, none⟩ = some (.int .i64 t387)) (ds := []) #[false, false, false, false, false, false, false, false, false, false, false, false, false, false, false, false, false, false, false, false, false, false, false, false, false] (by kernel_rfl) rfl rfl ⟨(blk_cell BK388.out 0).trans rfl, (blk_cell BK388.out 1).trans rfl⟩ (fun hHeld => ?_); refine with_tabW laws_FnSpanPut.tab6 laws_FnSpanPut.bits6 (fun HT_ HW_ => ?_)
              generalize w23.drew = w24 at BK388 BK393 HB hHeld ⊢
              refine pure_ (i := 0) (N := some 31) (v := ?_) (a' := ?_) #[true, false, false, false, false, false, false, false, false, false, false, false, false, false, false, false, false, false, false, false, false, false, false, false, false] rfl rfl (any_of HT_.out (by kernel_rfl)) (fun _ _ _ h => h) (Or.inl ⟨by rfl, ?_⟩) ?_ ?_
              rotate_left
              · intro w'
                go_simp
                with_reducible rfl
              rotate_left
              · simp only [Act.put, List.setIfInBounds_toArray, List.set_cons_zero, List.set_cons_succ, i64_w, i32_w]
                rfl
              refine take_ (i := 1) (N := some 32) (v := ?_) (a' := ?_) #[true, true, false, false, false, false, false, false, false, false, false, false, false, false, false, false, false, false, false, false, false, false, false, false, false] rfl rfl (take_ofW HT_.out HW_.out (by kernel_rfl)) (fun _ _ _ h => h) (Or.inl ⟨by rfl, ?_⟩) hHeld ?_ ?_
              rotate_left
              · rintro w' ⟨s0, s1⟩
                go_simp
                with_reducible rfl
              rotate_left
              · simp only [Act.put, List.setIfInBounds_toArray, List.set_cons_zero, List.set_cons_succ, i64_w, i32_w]
                rfl
              refine one_ (i := 2) (N := some 33) #[true, true, true, false, false, false, false, false, false, false, false, false, false, false, false, false, false, false, false, false, false, false, false, false, false] rfl rfl (one_of HT_.out (by kernel_rfl)) (by decide) (fun K hK => ?_)
              refine goes_ Tryd.func11 (by kernel_rfl) rfl #[.agg #[.int .i64 t386, .int .i64 t387]] (by rfl) rfl rfl za ?_
              with_reducible refine (spec_SpanPut.calls kj2 t386 t387 t394 _ A18.out).mono ?_
              rintro e w25 ⟨rfl, hb⟩
              refine ⟨_, rfl, ?_⟩
              have n0_ := Aside0.mk (blk_below (g := gb388) (o := .cells #[.int .i64 t386, .int .i64 t387] 25 (0, 0)) (zk BK388.out) hb)
              have n1_ := Aside0.mk (blk_below (g := gb393) (o := .cells #[.int .i64 t390, .int .i64 t391] 25 (0, 0)) (zk BK393.out) hb)
              have n2_ := Aside0.mk (below_step zb hb)
              clear BK388
              clear BK393
              clear HB
              have BK388 := n0_
              have BK393 := n1_
              have HB := n2_
              clear n0_ n1_ n2_
              (try clear hb)
              (try clear hb2)
              (try clear hk)
              (try clear hi)
              refine hK.out _ _ ⟨(blk_cell BK388.out 0).trans rfl, (blk_cell BK388.out 1).trans rfl⟩ (fun hHeld => ?_)
              clear hK K
              refine norm_ (a' := ?_) ?_ ?_
              rotate_left
              · show Act.put _ (some 33) _ = _
                simp only [Act.put, List.setIfInBounds_toArray, List.set_cons_zero, List.set_cons_succ, i64_w, i32_w]
                rfl
              refine pure_ (i := 3) (N := some 34) (v := ?_) (a' := ?_) #[true, true, true, true, false, false, false, false, false, false, false, false, false, false, false, false, false, false, false, false, false, false, false, false, false] rfl rfl (any_of HT_.out (by kernel_rfl)) (fun _ _ _ h => h) (Or.inl ⟨by rfl, ?_⟩) ?_ ?_
              rotate_left
              · intro w'
                go_simp
                with_reducible rfl
              rotate_left
              · simp only [Act.put, List.setIfInBounds_toArray, List.set_cons_zero, List.set_cons_succ, i64_w, i32_w]
                rfl
              refine pure_ (i := 4) (N := some 35) (v := ?_) (a' := ?_) #[true, true, true, true, true, false, false, false, false, false, false, false, false, false, false, false, false, false, false, false, false, false, false, false, false] rfl rfl (any_of HT_.out (by kernel_rfl)) (fun _ _ _ h => h) (Or.inl ⟨by rfl, ?_⟩) ?_ ?_
              rotate_left
              · intro w'
                go_simp
                with_reducible rfl
              rotate_left
              · simp only [Act.put, List.setIfInBounds_toArray, List.set_cons_zero, List.set_cons_succ, i64_w, i32_w]
                rfl
              refine take_ (i := 5) (N := some 36) (v := ?_) (a' := ?_) #[true, true, true, true, true, true, false, false, false, false, false, false, false, false, false, false, false, false, false, false, false, false, false, false, false] rfl rfl (take_ofW HT_.out HW_.out (by kernel_rfl)) (fun _ _ _ h => h) (Or.inl ⟨by rfl, ?_⟩) hHeld ?_ ?_
              rotate_left
              · rintro w' ⟨s0, s1⟩
                go_simp
                with_reducible rfl
              rotate_left
              · simp only [Act.put, List.setIfInBounds_toArray, List.set_cons_zero, List.set_cons_succ, i64_w, i32_w]
                rfl
              refine take_ (i := 7) (N := some 38) (v := ?_) (a' := ?_) #[true, true, true, true, true, true, false, true, false, false, false, false, false, false, false, false, false, false, false, false, false, false, false, false, false] rfl rfl (take_ofW HT_.out HW_.out (by kernel_rfl)) (fun _ _ _ h => h) (Or.inl ⟨by rfl, ?_⟩) hHeld ?_ ?_
              rotate_left
              · rintro w' ⟨s0, s1⟩
                go_simp
                with_reducible rfl
              rotate_left
              · simp only [Act.put, List.setIfInBounds_toArray, List.set_cons_zero, List.set_cons_succ, i64_w, i32_w]
                rfl
              refine one_ (i := 6) (N := some 37) #[true, true, true, true, true, true, true, true, false, false, false, false, false, false, false, false, false, false, false, false, false, false, false, false, false] rfl rfl (one_of HT_.out (by kernel_rfl)) (by decide) (fun K hK => ?_)
              refine goes_ Tryd.func23 (by kernel_rfl) rfl #[.agg #[.int .i64 t386, .int .i64 t387]] (by rfl) rfl rfl za ?_
              with_reducible refine (impl_SpanOk.calls t386 t387 t395 _ A20.out).mono ?_
              rintro e w26 ⟨rfl, hb⟩
              refine ⟨_, rfl, ?_⟩
              have n0_ := Aside0.mk (blk_below (g := gb388) (o := .cells #[.int .i64 t386, .int .i64 t387] 25 (0, 0)) (zk BK388.out) hb)
              have n1_ := Aside0.mk (blk_below (g := gb393) (o := .cells #[.int .i64 t390, .int .i64 t391] 25 (0, 0)) (zk BK393.out) hb)
              have n2_ := Aside0.mk (below_step zb hb)
              clear BK388
              clear BK393
              clear HB
              have BK388 := n0_
              have BK393 := n1_
              have HB := n2_
              clear n0_ n1_ n2_
              (try clear hb)
              (try clear hb2)
              (try clear hk)
              (try clear hi)
              refine hK.out _ _ ⟨(blk_cell BK388.out 0).trans rfl, (blk_cell BK388.out 1).trans rfl⟩ (fun hHeld => ?_)
              clear hK K
              refine norm_ (a' := ?_) ?_ ?_
              rotate_left
              · show Act.put _ (some 37) _ = _
                simp only [Act.put, List.setIfInBounds_toArray, List.set_cons_zero, List.set_cons_succ, i64_w, i32_w]
                rfl
              refine one_ (i := 8) (N := some 39) #[true, true, true, true, true, true, true, true, true, false, false, false, false, false, false, false, false, false, false, false, false, false, false, false, false] rfl rfl (one_of HT_.out (by kernel_rfl)) (by decide) (fun K hK => ?_)
              refine goes_ Tryd.func24 (by kernel_rfl) rfl #[.agg #[.int .i64 t386, .int .i64 t387]] (by rfl) rfl rfl za ?_
              with_reducible refine (spec_SpanOk.calls t386 t387 t396 _ A21.out).mono ?_
              rintro e w27 ⟨rfl, hb⟩
              refine ⟨_, rfl, ?_⟩
              have n0_ := Aside0.mk (blk_below (g := gb388) (o := .cells #[.int .i64 t386, .int .i64 t387] 25 (0, 0)) (zk BK388.out) hb)
              have n1_ := Aside0.mk (blk_below (g := gb393) (o := .cells #[.int .i64 t390, .int .i64 t391] 25 (0, 0)) (zk BK393.out) hb)
              have n2_ := Aside0.mk (below_step zb hb)
              clear BK388
              clear BK393
              clear HB
              have BK388 := n0_
              have BK393 := n1_
              have HB := n2_
              clear n0_ n1_ n2_
              (try clear hb)
              (try clear hb2)
              (try clear hk)
              (try clear hi)
              refine hK.out _ _ ⟨(blk_cell BK388.out 0).trans rfl, (blk_cell BK388.out 1).trans rfl⟩ (fun hHeld => ?_)
              clear hK K
              refine norm_ (a' := ?_) ?_ ?_
              rotate_left
              · show Act.put _ (some 39) _ = _
                simp only [Act.put, List.setIfInBounds_toArray, List.set_cons_zero, List.set_cons_succ, i64_w, i32_w]
                rfl
              refine pure_ (i := 9) (N := some 40) (v := ?_) (a' := ?_) #[true, true, true, true, true, true, true, true, true, true, false, false, false, false, false, false, false, false, false, false, false, false, false, false, false] rfl rfl (any_of HT_.out (by kernel_rfl)) (fun _ _ _ h => h) (Or.inl ⟨by rfl, ?_⟩) ?_ ?_
              rotate_left
              · intro w'
                go_simp
                with_reducible rfl
              rotate_left
              · simp only [Act.put, List.setIfInBounds_toArray, List.set_cons_zero, List.set_cons_succ, i64_w, i32_w]
                rfl
              refine pure_ (i := 10) (N := some 41) (v := ?_) (a' := ?_) #[true, true, true, true, true, true, true, true, true, true, true, false, false, false, false, false, false, false, false, false, false, false, false, false, false] rfl rfl (any_of HT_.out (by kernel_rfl)) (fun _ _ _ h => h) (Or.inl ⟨by rfl, ?_⟩) ?_ ?_
              rotate_left
              · intro w'
                go_simp
                with_reducible rfl
              rotate_left
              · simp only [Act.put, List.setIfInBounds_toArray, List.set_cons_zero, List.set_cons_succ, i64_w, i32_w]
                rfl
              refine pure_ (i := 11) (N := some 42) (v := ?_) (a' := ?_) #[true, true, true, true, true, true, true, true, true, true, true, true, false, false, false, false, false, false, false, false, false, false, false, false, false] rfl rfl (any_of HT_.out (by kernel_rfl)) (fun _ _ _ h => h) (Or.inl ⟨by rfl, ?_⟩) ?_ ?_
              rotate_left
              · intro w'
                go_simp
                with_reducible rfl
              rotate_left
              · simp only [Act.put, List.setIfInBounds_toArray, List.set_cons_zero, List.set_cons_succ, i64_w, i32_w]
                rfl
              refine pure_ (i := 12) (N := some 43) (v := undef) (a' := ?_) #[true, true, true, true, true, true, true, true, true, true, true, true, true, false, false, false, false, false, false, false, false, false, false, false, false] rfl rfl (any_of HT_.out (by kernel_rfl)) (fun _ _ _ h => h) (Or.inr ⟨by rfl, rfl⟩) ?_ ?_
              rotate_left
              · simp only [Act.put, List.setIfInBounds_toArray, List.set_cons_zero, List.set_cons_succ, i64_w, i32_w]
                rfl
              refine pure_ (i := 13) (N := some 44) (v := undef) (a' := ?_) #[true, true, true, true, true, true, true, true, true, true, true, true, true, true, false, false, false, false, false, false, false, false, false, false, false] rfl rfl (any_of HT_.out (by kernel_rfl)) (fun _ _ _ h => h) (Or.inr ⟨by rfl, rfl⟩) ?_ ?_
              rotate_left
              · simp only [Act.put, List.setIfInBounds_toArray, List.set_cons_zero, List.set_cons_succ, i64_w, i32_w]
                rfl
              refine pure_ (i := 14) (N := some 45) (v := undef) (a' := ?_) #[true, true, true, true, true, true, true, true, true, true, true, true, true, true, true, false, false, false, false, false, false, false, false, false, false] rfl rfl (any_of HT_.out (by kernel_rfl)) (fun _ _ _ h => h) (Or.inr ⟨by rfl, rfl⟩) ?_ ?_
              rotate_left
              · simp only [Act.put, List.setIfInBounds_toArray, List.set_cons_zero, List.set_cons_succ, i64_w, i32_w]
                rfl
              refine pure_ (i := 15) (N := some 46) (v := undef) (a' := ?_) #[true, true, true, true, true, true, true, true, true, true, true, true, true, true, true, true, false, false, false, false, false, false, false, false, false] rfl rfl (any_of HT_.out (by kernel_rfl)) (fun _ _ _ h => h) (Or.inr ⟨by rfl, rfl⟩) ?_ ?_
              rotate_left
              · simp only [Act.put, List.setIfInBounds_toArray, List.set_cons_zero, List.set_cons_succ, i64_w, i32_w]
                rfl
              refine pure_ (i := 16) (N := some 47) (v := ?_) (a' := ?_) #[true, true, true, true, true, true, true, true, true, true, true, true, true, true, true, true, true, false, false, false, false, false, false, false, false] rfl rfl (any_of HT_.out (by kernel_rfl)) (fun _ _ _ h => h) (Or.inl ⟨by rfl, ?_⟩) ?_ ?_
              rotate_left
              · intro w'
                go_simp
                with_reducible rfl
              rotate_left
              · simp only [Act.put, List.setIfInBounds_toArray, List.set_cons_zero, List.set_cons_succ, i64_w, i32_w]
                rfl
              refine pure_ (i := 17) (N := some 48) (v := ?_) (a' := ?_) #[true, true, true, true, true, true, true, true, true, true, true, true, true, true, true, true, true, true, false, false, false, false, false, false, false] rfl rfl (any_of HT_.out (by kernel_rfl)) (fun _ _ _ h => h) (Or.inl ⟨by rfl, ?_⟩) ?_ ?_
              rotate_left
              · intro w'
                go_simp
                with_reducible rfl
              rotate_left
              · simp only [Act.put, List.setIfInBounds_toArray, List.set_cons_zero, List.set_cons_succ, i64_w, i32_w]
                rfl
              refine pure_ (i := 18) (N := some 49) (v := undef) (a' := ?_) #[true, true, true, true, true, true, true, true, true, true, true, true, true, true, true, true, true, true, true, false, false, false, false, false, false] rfl rfl (any_of HT_.out (by kernel_rfl)) (fun _ _ _ h => h) (Or.inr ⟨by rfl, rfl⟩) ?_ ?_
              rotate_left
              · simp only [Act.put, List.setIfInBounds_toArray, List.set_cons_zero, List.set_cons_succ, i64_w, i32_w]
                rfl
              refine pure_ (i := 19) (N := some 50) (v := undef) (a' := ?_) #[true, true, true, true, true, true, true, true, true, true, true, true, true, true, true, true, true, true, true, true, false, false, false, false, false] rfl rfl (any_of HT_.out (by kernel_rfl)) (fun _ _ _ h => h) (Or.inr ⟨by rfl, rfl⟩) ?_ ?_
              rotate_left
              · simp only [Act.put, List.setIfInBounds_toArray, List.set_cons_zero, List.set_cons_succ, i64_w, i32_w]
                rfl
              refine pure_ (i := 20) (N := some 51) (v := undef) (a' := ?_) #[true, true, true, true, true, true, true, true, true, true, true, true, true, true, true, true, true, true, true, true, true, false, false, false, false] rfl rfl (any_of HT_.out (by kernel_rfl)) (fun _ _ _ h => h) (Or.inr ⟨by rfl, rfl⟩) ?_ ?_
              rotate_left
              · simp only [Act.put, List.setIfInBounds_toArray, List.set_cons_zero, List.set_cons_succ, i64_w, i32_w]
                rfl
              refine pure_ (i := 21) (N := some 52) (v := undef) (a' := ?_) #[true, true, true, true, true, true, true, true, true, true, true, true, true, true, true, true, true, true, true, true, true, true, false, false, false] rfl rfl (any_of HT_.out (by kernel_rfl)) (fun _ _ _ h => h) (Or.inr ⟨by rfl, rfl⟩) ?_ ?_
              rotate_left
              · simp only [Act.put, List.setIfInBounds_toArray, List.set_cons_zero, List.set_cons_succ, i64_w, i32_w]
                rfl
              refine pure_ (i := 22) (N := some 53) (v := undef) (a' := ?_) #[true, true, true, true, true, true, true, true, true, true, true, true, true, true, true, true, true, true, true, true, true, true, true, false, false] rfl rfl (any_of HT_.out (by kernel_rfl)) (fun _ _ _ h => h) (Or.inr ⟨by rfl, rfl⟩) ?_ ?_
              rotate_left
              · simp only [Act.put, List.setIfInBounds_toArray, List.set_cons_zero, List.set_cons_succ, i64_w, i32_w]
                rfl
              refine pure_ (i := 23) (N := some 54) (v := undef) (a' := ?_) #[true, true, true, true, true, true, true, true, true, true, true, true, true, true, true, true, true, true, true, true, true, true, true, true, false] rfl rfl (any_of HT_.out (by kernel_rfl)) (fun _ _ _ h => h) (Or.inr ⟨by rfl, rfl⟩) ?_ ?_
              rotate_left
              · simp only [Act.put, List.setIfInBounds_toArray, List.set_cons_zero, List.set_cons_succ, i64_w, i32_w]
                rfl
              refine pure_ (i := 24) (N := some 55) (v := ?_) (a' := ?_) #[true, true, true, true, true, true, true, true, true, true, true, true, true, true, true, true, true, true, true, true, true, true, true, true, true] rfl rfl (any_of HT_.out (by kernel_rfl)) (fun _ _ _ h => h) (Or.inl ⟨by rfl, ?_⟩) ?_ ?_
              rotate_left
              · intro w'
                go_simp
                with_reducible rfl
              rotate_left
              · simp only [Act.put, List.setIfInBounds_toArray, List.set_cons_zero, List.set_cons_succ, i64_w, i32_w]
                rfl
              refine done_ (done_of HT_.out (by kernel_rfl)) ?_
              try go_wp2
              go_meet
              case rel => exact ⟨_, (true), (by first | rfl | (simp; done) | (simp [*]; done)), H', ⟨by have := HJ2.out; first | omega | exact Nat.le_refl _⟩, ⟨by (with_reducible repeat (first | refine blk_drewN ?_ _ | refine blk_drew ?_ | refine blk_alloc ?_ _)); exact BK388.out⟩, ⟨by (with_reducible repeat (first | refine blk_drewN ?_ _ | refine blk_drew ?_ | refine blk_alloc ?_ _)); exact BK393.out⟩, ⟨zb⟩⟩
            · rw [if_neg c22] at H
              have c22b0 : (t395 != t396) = false := by simpa using c22
              (try (have c22b1 : decide (t395 = t396) = true := by simpa using c22))
              (try (have c22b2 : (t395 == t396) = true := by simpa using c22))
              clear c22
              replace H := Option.bind_eq_some_iff.mp H
              obtain ⟨t397, A280, H⟩ := H
              replace H : (if (t392 != t397) = true then (laws_FnSpanPut.j1 kj2 l1 true) else (if t392 = true then (laws_FnSpanPut.j1 kj2 l1 (!(t390 == t386) || (!(t391 == t387)))) else (laws_FnSpanPut.j1 kj2 l1 false))) = some r := H
              have A28 := Aside0.mk A280
              clear A280
              by_cases c29 : (t392 != t397) = true
              · rw [if_pos c29] at H
                have c29b0 : (t392 != t397) = true := c29
                (try (have c29b1 : decide (t392 = t397) = false := by simpa using c29))
                (try (have c29b2 : (t392 == t397) = false := by simpa using c29))
                (try (have c29b3 : ¬ (t392 = t397) := by simpa using c29))
                clear c29
                have H' := Aside0.mk H
                clear H
                try go_wp2
                have n0_ : Aside0 (((w15.setCell ⟨gb393, 0, none⟩ (.int .i64 t390)).setCell ⟨gb393, 1, none⟩ (.int .i64 t391)).heap[gb388]? = some (.cells #[.int .i64 t386, .int .i64 t387] 25 (0, 0))) := ⟨by (with_reducible repeat (first | refine blk_drewN ?_ _ | refine blk_drew ?_ | refine blk_alloc ?_ _)); refine blk_far ?_ NB388_393.out _; (with_reducible repeat (first | refine blk_drewN ?_ _ | refine blk_drew ?_ | refine blk_alloc ?_ _)); refine blk_far ?_ NB388_393.out _; (with_reducible repeat (first | refine blk_drewN ?_ _ | refine blk_drew ?_ | refine blk_alloc ?_ _)); exact BK388.out⟩
                have n1_ : Aside0 (((w15.setCell ⟨gb393, 0, none⟩ (.int .i64 t390)).setCell ⟨gb393, 1, none⟩ (.int .i64 t391)).heap[gb393]? = some (.cells #[.int .i64 t390, .int .i64 t391] 25 (0, 0))) := ⟨by (with_reducible repeat (first | refine blk_drewN ?_ _ | refine blk_drew ?_ | refine blk_alloc ?_ _)); refine blk_put (cs := #[.int .i64 t390, .int .i64 0]) ?_ 1 _ rfl; (with_reducible repeat (first | refine blk_drewN ?_ _ | refine blk_drew ?_ | refine blk_alloc ?_ _)); refine blk_put (cs := #[.int .i64 0, .int .i64 0]) ?_ 0 _ rfl; (with_reducible repeat (first | refine blk_drewN ?_ _ | refine blk_drew ?_ | refine blk_alloc ?_ _)); exact BK393.out⟩
                have n2_ : Aside0 (Below w.heap.size w ((w15.setCell ⟨gb393, 0, none⟩ (.int .i64 t390)).setCell ⟨gb393, 1, none⟩ (.int .i64 t391))) := ⟨zb⟩
                (try clear BK388)
                (try clear BK393)
                (try clear HB)
                generalize ((w15.setCell ⟨gb393, 0, none⟩ (.int .i64 t390)).setCell ⟨gb393, 1, none⟩ (.int .i64 t391)) = w30 at n0_ n1_ n2_ ⊢
                have BK388 := n0_
                have BK393 := n1_
                have HB := n2_
                clear n0_ n1_ n2_
                have n0_ := Aside0.mk (blk_drew BK388.out)
                have n1_ := Aside0.mk (blk_drew BK393.out)
                have n2_ := Aside0.mk (below_drew1 HB.out)
                clear BK388
                clear BK393
                clear HB
                have BK388 := n0_
                have BK393 := n1_
                have HB := n2_
                clear n0_ n1_ n2_
                refine start_ (n := 25) (S := fun w' => w'.cell? ⟨gb388, 0, none⟩ = some (.int .i64 t386) ∧ w'.cell? ⟨gb388, 1, none⟩ = some (.int .i64 t387)) (ds := []) #[false, false, false, false, false, false, false, false, false, false, false, false, false, false, false, false, false, false, false, false, false, false, false, false, false] (by kernel_rfl) rfl rfl ⟨(blk_cell BK388.out 0).trans rfl, (blk_cell BK388.out 1).trans rfl⟩ (fun hHeld => ?_); refine with_tabW laws_FnSpanPut.tab6 laws_FnSpanPut.bits6 (fun HT_ HW_ => ?_)
                generalize w30.drew = w31 at BK388 BK393 HB hHeld ⊢
                refine pure_ (i := 0) (N := some 31) (v := ?_) (a' := ?_) #[true, false, false, false, false, false, false, false, false, false, false, false, false, false, false, false, false, false, false, false, false, false, false, false, false] rfl rfl (any_of HT_.out (by kernel_rfl)) (fun _ _ _ h => h) (Or.inl ⟨by rfl, ?_⟩) ?_ ?_
                rotate_left
                · intro w'
                  go_simp
                  with_reducible rfl
                rotate_left
                · simp only [Act.put, List.setIfInBounds_toArray, List.set_cons_zero, List.set_cons_succ, i64_w, i32_w]
                  rfl
                refine take_ (i := 1) (N := some 32) (v := ?_) (a' := ?_) #[true, true, false, false, false, false, false, false, false, false, false, false, false, false, false, false, false, false, false, false, false, false, false, false, false] rfl rfl (take_ofW HT_.out HW_.out (by kernel_rfl)) (fun _ _ _ h => h) (Or.inl ⟨by rfl, ?_⟩) hHeld ?_ ?_
                rotate_left
                · rintro w' ⟨s0, s1⟩
                  go_simp
                  with_reducible rfl
                rotate_left
                · simp only [Act.put, List.setIfInBounds_toArray, List.set_cons_zero, List.set_cons_succ, i64_w, i32_w]
                  rfl
                refine one_ (i := 2) (N := some 33) #[true, true, true, false, false, false, false, false, false, false, false, false, false, false, false, false, false, false, false, false, false, false, false, false, false] rfl rfl (one_of HT_.out (by kernel_rfl)) (by decide) (fun K hK => ?_)
                refine goes_ Tryd.func11 (by kernel_rfl) rfl #[.agg #[.int .i64 t386, .int .i64 t387]] (by rfl) rfl rfl za ?_
                with_reducible refine (spec_SpanPut.calls kj2 t386 t387 t394 _ A18.out).mono ?_
                rintro e w32 ⟨rfl, hb⟩
                refine ⟨_, rfl, ?_⟩
                have n0_ := Aside0.mk (blk_below (g := gb388) (o := .cells #[.int .i64 t386, .int .i64 t387] 25 (0, 0)) (zk BK388.out) hb)
                have n1_ := Aside0.mk (blk_below (g := gb393) (o := .cells #[.int .i64 t390, .int .i64 t391] 25 (0, 0)) (zk BK393.out) hb)
                have n2_ := Aside0.mk (below_step zb hb)
                clear BK388
                clear BK393
                clear HB
                have BK388 := n0_
                have BK393 := n1_
                have HB := n2_
                clear n0_ n1_ n2_
                (try clear hb)
                (try clear hb2)
                (try clear hk)
                (try clear hi)
                refine hK.out _ _ ⟨(blk_cell BK388.out 0).trans rfl, (blk_cell BK388.out 1).trans rfl⟩ (fun hHeld => ?_)
                clear hK K
                refine norm_ (a' := ?_) ?_ ?_
                rotate_left
                · show Act.put _ (some 33) _ = _
                  simp only [Act.put, List.setIfInBounds_toArray, List.set_cons_zero, List.set_cons_succ, i64_w, i32_w]
                  rfl
                refine pure_ (i := 3) (N := some 34) (v := ?_) (a' := ?_) #[true, true, true, true, false, false, false, false, false, false, false, false, false, false, false, false, false, false, false, false, false, false, false, false, false] rfl rfl (any_of HT_.out (by kernel_rfl)) (fun _ _ _ h => h) (Or.inl ⟨by rfl, ?_⟩) ?_ ?_
                rotate_left
                · intro w'
                  go_simp
                  with_reducible rfl
                rotate_left
                · simp only [Act.put, List.setIfInBounds_toArray, List.set_cons_zero, List.set_cons_succ, i64_w, i32_w]
                  rfl
                refine pure_ (i := 4) (N := some 35) (v := ?_) (a' := ?_) #[true, true, true, true, true, false, false, false, false, false, false, false, false, false, false, false, false, false, false, false, false, false, false, false, false] rfl rfl (any_of HT_.out (by kernel_rfl)) (fun _ _ _ h => h) (Or.inl ⟨by rfl, ?_⟩) ?_ ?_
                rotate_left
                · intro w'
                  go_simp
                  with_reducible rfl
                rotate_left
                · simp only [Act.put, List.setIfInBounds_toArray, List.set_cons_zero, List.set_cons_succ, i64_w, i32_w]
                  rfl
                refine take_ (i := 5) (N := some 36) (v := ?_) (a' := ?_) #[true, true, true, true, true, true, false, false, false, false, false, false, false, false, false, false, false, false, false, false, false, false, false, false, false] rfl rfl (take_ofW HT_.out HW_.out (by kernel_rfl)) (fun _ _ _ h => h) (Or.inl ⟨by rfl, ?_⟩) hHeld ?_ ?_
                rotate_left
                · rintro w' ⟨s0, s1⟩
                  go_simp
                  with_reducible rfl
                rotate_left
                · simp only [Act.put, List.setIfInBounds_toArray, List.set_cons_zero, List.set_cons_succ, i64_w, i32_w]
                  rfl
                refine take_ (i := 7) (N := some 38) (v := ?_) (a' := ?_) #[true, true, true, true, true, true, false, true, false, false, false, false, false, false, false, false, false, false, false, false, false, false, false, false, false] rfl rfl (take_ofW HT_.out HW_.out (by kernel_rfl)) (fun _ _ _ h => h) (Or.inl ⟨by rfl, ?_⟩) hHeld ?_ ?_
                rotate_left
                · rintro w' ⟨s0, s1⟩
                  go_simp
                  with_reducible rfl
                rotate_left
                · simp only [Act.put, List.setIfInBounds_toArray, List.set_cons_zero, List.set_cons_succ, i64_w, i32_w]
                  rfl
                refine one_ (i := 6) (N := some 37) #[true, true, true, true, true, true, true, true, false, false, false, false, false, false, false, false, false, false, false, false, false, false, false, false, false] rfl rfl (one_of HT_.out (by kernel_rfl)) (by decide) (fun K hK => ?_)
                refine goes_ Tryd.func23 (by kernel_rfl) rfl #[.agg #[.int .i64 t386, .int .i64 t387]] (by rfl) rfl rfl za ?_
                with_reducible refine (impl_SpanOk.calls t386 t387 t395 _ A20.out).mono ?_
                rintro e w33 ⟨rfl, hb⟩
                refine ⟨_, rfl, ?_⟩
                have n0_ := Aside0.mk (blk_below (g := gb388) (o := .cells #[.int .i64 t386, .int .i64 t387] 25 (0, 0)) (zk BK388.out) hb)
                have n1_ := Aside0.mk (blk_below (g := gb393) (o := .cells #[.int .i64 t390, .int .i64 t391] 25 (0, 0)) (zk BK393.out) hb)
                have n2_ := Aside0.mk (below_step zb hb)
                clear BK388
                clear BK393
                clear HB
                have BK388 := n0_
                have BK393 := n1_
                have HB := n2_
                clear n0_ n1_ n2_
                (try clear hb)
                (try clear hb2)
                (try clear hk)
                (try clear hi)
                refine hK.out _ _ ⟨(blk_cell BK388.out 0).trans rfl, (blk_cell BK388.out 1).trans rfl⟩ (fun hHeld => ?_)
                clear hK K
                refine norm_ (a' := ?_) ?_ ?_
                rotate_left
                · show Act.put _ (some 37) _ = _
                  simp only [Act.put, List.setIfInBounds_toArray, List.set_cons_zero, List.set_cons_succ, i64_w, i32_w]
                  rfl
                refine one_ (i := 8) (N := some 39) #[true, true, true, true, true, true, true, true, true, false, false, false, false, false, false, false, false, false, false, false, false, false, false, false, false] rfl rfl (one_of HT_.out (by kernel_rfl)) (by decide) (fun K hK => ?_)
                refine goes_ Tryd.func24 (by kernel_rfl) rfl #[.agg #[.int .i64 t386, .int .i64 t387]] (by rfl) rfl rfl za ?_
                with_reducible refine (spec_SpanOk.calls t386 t387 t396 _ A21.out).mono ?_
                rintro e w34 ⟨rfl, hb⟩
                refine ⟨_, rfl, ?_⟩
                have n0_ := Aside0.mk (blk_below (g := gb388) (o := .cells #[.int .i64 t386, .int .i64 t387] 25 (0, 0)) (zk BK388.out) hb)
                have n1_ := Aside0.mk (blk_below (g := gb393) (o := .cells #[.int .i64 t390, .int .i64 t391] 25 (0, 0)) (zk BK393.out) hb)
                have n2_ := Aside0.mk (below_step zb hb)
                clear BK388
                clear BK393
                clear HB
                have BK388 := n0_
                have BK393 := n1_
                have HB := n2_
                clear n0_ n1_ n2_
                (try clear hb)
                (try clear hb2)
                (try clear hk)
                (try clear hi)
                refine hK.out _ _ ⟨(blk_cell BK388.out 0).trans rfl, (blk_cell BK388.out 1).trans rfl⟩ (fun hHeld => ?_)
                clear hK K
                refine norm_ (a' := ?_) ?_ ?_
                rotate_left
                · show Act.put _ (some 39) _ = _
                  simp only [Act.put, List.setIfInBounds_toArray, List.set_cons_zero, List.set_cons_succ, i64_w, i32_w]
                  rfl
                refine pure_ (i := 9) (N := some 40) (v := ?_) (a' := ?_) #[true, true, true, true, true, true, true, true, true, true, false, false, false, false, false, false, false, false, false, false, false, false, false, false, false] rfl rfl (any_of HT_.out (by kernel_rfl)) (fun _ _ _ h => h) (Or.inl ⟨by rfl, ?_⟩) ?_ ?_
                rotate_left
                · intro w'
                  go_simp
                  with_reducible rfl
                rotate_left
                · simp only [Act.put, List.setIfInBounds_toArray, List.set_cons_zero, List.set_cons_succ, i64_w, i32_w]
                  rfl
                refine pure_ (i := 10) (N := some 41) (v := ?_) (a' := ?_) #[true, true, true, true, true, true, true, true, true, true, true, false, false, false, false, false, false, false, false, false, false, false, false, false, false] rfl rfl (any_of HT_.out (by kernel_rfl)) (fun _ _ _ h => h) (Or.inl ⟨by rfl, ?_⟩) ?_ ?_
                rotate_left
                · intro w'
                  go_simp
                  with_reducible rfl
                rotate_left
                · simp only [Act.put, List.setIfInBounds_toArray, List.set_cons_zero, List.set_cons_succ, i64_w, i32_w]
                  rfl
                refine pure_ (i := 11) (N := some 42) (v := ?_) (a' := ?_) #[true, true, true, true, true, true, true, true, true, true, true, true, false, false, false, false, false, false, false, false, false, false, false, false, false] rfl rfl (any_of HT_.out (by kernel_rfl)) (fun _ _ _ h => h) (Or.inl ⟨by rfl, ?_⟩) ?_ ?_
                rotate_left
                · intro w'
                  go_simp
                  with_reducible rfl
                rotate_left
                · simp only [Act.put, List.setIfInBounds_toArray, List.set_cons_zero, List.set_cons_succ, i64_w, i32_w]
                  rfl
                refine pure_ (i := 12) (N := some 43) (v := ?_) (a' := ?_) #[true, true, true, true, true, true, true, true, true, true, true, true, true, false, false, false, false, false, false, false, false, false, false, false, false] rfl rfl (any_of HT_.out (by kernel_rfl)) (fun _ _ _ h => h) (Or.inl ⟨by rfl, ?_⟩) ?_ ?_
                rotate_left
                · intro w'
                  go_simp
                  with_reducible rfl
                rotate_left
                · simp only [Act.put, List.setIfInBounds_toArray, List.set_cons_zero, List.set_cons_succ, i64_w, i32_w]
                  rfl
                refine take_ (i := 13) (N := some 44) (v := ?_) (a' := ?_) #[true, true, true, true, true, true, true, true, true, true, true, true, true, true, false, false, false, false, false, false, false, false, false, false, false] rfl rfl (take_ofW HT_.out HW_.out (by kernel_rfl)) (fun _ _ _ h => h) (Or.inl ⟨by rfl, ?_⟩) hHeld ?_ ?_
                rotate_left
                · rintro w' ⟨s0, s1⟩
                  go_simp
                  with_reducible rfl
                rotate_left
                · simp only [Act.put, List.setIfInBounds_toArray, List.set_cons_zero, List.set_cons_succ, i64_w, i32_w]
                  rfl
                refine one_ (i := 14) (N := some 45) #[true, true, true, true, true, true, true, true, true, true, true, true, true, true, true, false, false, false, false, false, false, false, false, false, false] rfl rfl (one_of HT_.out (by kernel_rfl)) (by decide) (fun K hK => ?_)
                refine goes_ Tryd.func23 (by kernel_rfl) rfl #[.agg #[.int .i64 t386, .int .i64 t387]] (by rfl) rfl rfl za ?_
                with_reducible refine (impl_SpanOk.calls t386 t387 t397 _ A28.out).mono ?_
                rintro e w35 ⟨rfl, hb⟩
                refine ⟨_, rfl, ?_⟩
                have n0_ := Aside0.mk (blk_below (g := gb388) (o := .cells #[.int .i64 t386, .int .i64 t387] 25 (0, 0)) (zk BK388.out) hb)
                have n1_ := Aside0.mk (blk_below (g := gb393) (o := .cells #[.int .i64 t390, .int .i64 t391] 25 (0, 0)) (zk BK393.out) hb)
                have n2_ := Aside0.mk (below_step zb hb)
                clear BK388
                clear BK393
                clear HB
                have BK388 := n0_
                have BK393 := n1_
                have HB := n2_
                clear n0_ n1_ n2_
                (try clear hb)
                (try clear hb2)
                (try clear hk)
                (try clear hi)
                refine hK.out _ _ ⟨(blk_cell BK388.out 0).trans rfl, (blk_cell BK388.out 1).trans rfl⟩ (fun hHeld => ?_)
                clear hK K
                refine norm_ (a' := ?_) ?_ ?_
                rotate_left
                · show Act.put _ (some 45) _ = _
                  simp only [Act.put, List.setIfInBounds_toArray, List.set_cons_zero, List.set_cons_succ, i64_w, i32_w]
                  rfl
                refine pure_ (i := 15) (N := some 46) (v := ?_) (a' := ?_) #[true, true, true, true, true, true, true, true, true, true, true, true, true, true, true, true, false, false, false, false, false, false, false, false, false] rfl rfl (any_of HT_.out (by kernel_rfl)) (fun _ _ _ h => h) (Or.inl ⟨by rfl, ?_⟩) ?_ ?_
                rotate_left
                · intro w'
                  go_simp
                  with_reducible rfl
                rotate_left
                · simp only [Act.put, List.setIfInBounds_toArray, List.set_cons_zero, List.set_cons_succ, i64_w, i32_w]
                  rfl
                refine pure_ (i := 16) (N := some 47) (v := ?_) (a' := ?_) #[true, true, true, true, true, true, true, true, true, true, true, true, true, true, true, true, true, false, false, false, false, false, false, false, false] rfl rfl (any_of HT_.out (by kernel_rfl)) (fun _ _ _ h => h) (Or.inl ⟨by rfl, ?_⟩) ?_ ?_
                rotate_left
                · intro w'
                  go_simp
                  with_reducible rfl
                rotate_left
                · simp only [Act.put, List.setIfInBounds_toArray, List.set_cons_zero, List.set_cons_succ, i64_w, i32_w]
                  rfl
                refine pure_ (i := 17) (N := some 48) (v := ?_) (a' := ?_) #[true, true, true, true, true, true, true, true, true, true, true, true, true, true, true, true, true, true, false, false, false, false, false, false, false] rfl rfl (any_of HT_.out (by kernel_rfl)) (fun _ _ _ h => h) (Or.inl ⟨by rfl, ?_⟩) ?_ ?_
                rotate_left
                · intro w'
                  go_simp
                  with_reducible rfl
                rotate_left
                · simp only [Act.put, List.setIfInBounds_toArray, List.set_cons_zero, List.set_cons_succ, i64_w, i32_w]
                  rfl
                refine pure_ (i := 18) (N := some 49) (v := undef) (a' := ?_) #[true, true, true, true, true, true, true, true, true, true, true, true, true, true, true, true, true, true, true, false, false, false, false, false, false] rfl rfl (any_of HT_.out (by kernel_rfl)) (fun _ _ _ h => h) (Or.inr ⟨by rfl, rfl⟩) ?_ ?_
                rotate_left
                · simp only [Act.put, List.setIfInBounds_toArray, List.set_cons_zero, List.set_cons_succ, i64_w, i32_w]
                  rfl
                refine pure_ (i := 19) (N := some 50) (v := undef) (a' := ?_) #[true, true, true, true, true, true, true, true, true, true, true, true, true, true, true, true, true, true, true, true, false, false, false, false, false] rfl rfl (any_of HT_.out (by kernel_rfl)) (fun _ _ _ h => h) (Or.inr ⟨by rfl, rfl⟩) ?_ ?_
                rotate_left
                · simp only [Act.put, List.setIfInBounds_toArray, List.set_cons_zero, List.set_cons_succ, i64_w, i32_w]
                  rfl
                refine pure_ (i := 20) (N := some 51) (v := undef) (a' := ?_) #[true, true, true, true, true, true, true, true, true, true, true, true, true, true, true, true, true, true, true, true, true, false, false, false, false] rfl rfl (any_of HT_.out (by kernel_rfl)) (fun _ _ _ h => h) (Or.inr ⟨by rfl, rfl⟩) ?_ ?_
                rotate_left
                · simp only [Act.put, List.setIfInBounds_toArray, List.set_cons_zero, List.set_cons_succ, i64_w, i32_w]
                  rfl
                refine pure_ (i := 21) (N := some 52) (v := undef) (a' := ?_) #[true, true, true, true, true, true, true, true, true, true, true, true, true, true, true, true, true, true, true, true, true, true, false, false, false] rfl rfl (any_of HT_.out (by kernel_rfl)) (fun _ _ _ h => h) (Or.inr ⟨by rfl, rfl⟩) ?_ ?_
                rotate_left
                · simp only [Act.put, List.setIfInBounds_toArray, List.set_cons_zero, List.set_cons_succ, i64_w, i32_w]
                  rfl
                refine pure_ (i := 22) (N := some 53) (v := undef) (a' := ?_) #[true, true, true, true, true, true, true, true, true, true, true, true, true, true, true, true, true, true, true, true, true, true, true, false, false] rfl rfl (any_of HT_.out (by kernel_rfl)) (fun _ _ _ h => h) (Or.inr ⟨by rfl, rfl⟩) ?_ ?_
                rotate_left
                · simp only [Act.put, List.setIfInBounds_toArray, List.set_cons_zero, List.set_cons_succ, i64_w, i32_w]
                  rfl
                refine pure_ (i := 23) (N := some 54) (v := undef) (a' := ?_) #[true, true, true, true, true, true, true, true, true, true, true, true, true, true, true, true, true, true, true, true, true, true, true, true, false] rfl rfl (any_of HT_.out (by kernel_rfl)) (fun _ _ _ h => h) (Or.inr ⟨by rfl, rfl⟩) ?_ ?_
                rotate_left
                · simp only [Act.put, List.setIfInBounds_toArray, List.set_cons_zero, List.set_cons_succ, i64_w, i32_w]
                  rfl
                refine pure_ (i := 24) (N := some 55) (v := ?_) (a' := ?_) #[true, true, true, true, true, true, true, true, true, true, true, true, true, true, true, true, true, true, true, true, true, true, true, true, true] rfl rfl (any_of HT_.out (by kernel_rfl)) (fun _ _ _ h => h) (Or.inl ⟨by rfl, ?_⟩) ?_ ?_
                rotate_left
                · intro w'
                  go_simp
                  with_reducible rfl
                rotate_left
                · simp only [Act.put, List.setIfInBounds_toArray, List.set_cons_zero, List.set_cons_succ, i64_w, i32_w]
                  rfl
                refine done_ (done_of HT_.out (by kernel_rfl)) ?_
                try go_wp2
                go_meet
                case rel => exact ⟨_, (true), (by first | rfl | (simp; done) | (simp [*]; done)), H', ⟨by have := HJ2.out; first | omega | exact Nat.le_refl _⟩, ⟨by (with_reducible repeat (first | refine blk_drewN ?_ _ | refine blk_drew ?_ | refine blk_alloc ?_ _)); exact BK388.out⟩, ⟨by (with_reducible repeat (first | refine blk_drewN ?_ _ | refine blk_drew ?_ | refine blk_alloc ?_ _)); exact BK393.out⟩, ⟨zb⟩⟩
              · rw [if_neg c29] at H
                have c29b0 : (t392 != t397) = false := by simpa using c29
                (try (have c29b1 : decide (t392 = t397) = true := by simpa using c29))
                (try (have c29b2 : (t392 == t397) = true := by simpa using c29))
                clear c29
                by_cases c36 : t392 = true
                · subst c36
                  have H1 : (laws_FnSpanPut.j1 kj2 l1 (!(t390 == t386) || (!(t391 == t387)))) = some r := by rw [if_pos rfl] at H; exact H
                  clear H
                  have H := H1
                  clear H1
                  have H' := Aside0.mk H
                  clear H
                  try go_wp2
                  have n0_ : Aside0 (((w15.setCell ⟨gb393, 0, none⟩ (.int .i64 t390)).setCell ⟨gb393, 1, none⟩ (.int .i64 t391)).heap[gb388]? = some (.cells #[.int .i64 t386, .int .i64 t387] 25 (0, 0))) := ⟨by (with_reducible repeat (first | refine blk_drewN ?_ _ | refine blk_drew ?_ | refine blk_alloc ?_ _)); refine blk_far ?_ NB388_393.out _; (with_reducible repeat (first | refine blk_drewN ?_ _ | refine blk_drew ?_ | refine blk_alloc ?_ _)); refine blk_far ?_ NB388_393.out _; (with_reducible repeat (first | refine blk_drewN ?_ _ | refine blk_drew ?_ | refine blk_alloc ?_ _)); exact BK388.out⟩
                  have n1_ : Aside0 (((w15.setCell ⟨gb393, 0, none⟩ (.int .i64 t390)).setCell ⟨gb393, 1, none⟩ (.int .i64 t391)).heap[gb393]? = some (.cells #[.int .i64 t390, .int .i64 t391] 25 (0, 0))) := ⟨by (with_reducible repeat (first | refine blk_drewN ?_ _ | refine blk_drew ?_ | refine blk_alloc ?_ _)); refine blk_put (cs := #[.int .i64 t390, .int .i64 0]) ?_ 1 _ rfl; (with_reducible repeat (first | refine blk_drewN ?_ _ | refine blk_drew ?_ | refine blk_alloc ?_ _)); refine blk_put (cs := #[.int .i64 0, .int .i64 0]) ?_ 0 _ rfl; (with_reducible repeat (first | refine blk_drewN ?_ _ | refine blk_drew ?_ | refine blk_alloc ?_ _)); exact BK393.out⟩
                  have n2_ : Aside0 (Below w.heap.size w ((w15.setCell ⟨gb393, 0, none⟩ (.int .i64 t390)).setCell ⟨gb393, 1, none⟩ (.int .i64 t391))) := ⟨zb⟩
                  (try clear BK388)
                  (try clear BK393)
                  (try clear HB)
                  generalize ((w15.setCell ⟨gb393, 0, none⟩ (.int .i64 t390)).setCell ⟨gb393, 1, none⟩ (.int .i64 t391)) = w37 at n0_ n1_ n2_ ⊢
                  have BK388 := n0_
                  have BK393 := n1_
                  have HB := n2_
                  clear n0_ n1_ n2_
                  have n0_ := Aside0.mk (blk_drew BK388.out)
                  have n1_ := Aside0.mk (blk_drew BK393.out)
                  have n2_ := Aside0.mk (below_drew1 HB.out)
                  clear BK388
                  clear BK393
                  clear HB
                  have BK388 := n0_
                  have BK393 := n1_
                  have HB := n2_
                  clear n0_ n1_ n2_
                  refine start_ (n := 25) (S := fun w' => w'.cell? ⟨gb388, 0, none⟩ = some (.int .i64 t386) ∧ w'.cell? ⟨gb388, 1, none⟩ = some (.int .i64 t387) ∧ w'.cell? ⟨gb393, 0, none⟩ = some (.int .i64 t390) ∧ w'.cell? ⟨gb393, 1, none⟩ = some (.int .i64 t391)) (ds := []) #[false, false, false, false, false, false, false, false, false, false, false, false, false, false, false, false, false, false, false, false, false, false, false, false, false] (by kernel_rfl) rfl rfl ⟨(blk_cell BK388.out 0).trans rfl, (blk_cell BK388.out 1).trans rfl, (blk_cell BK393.out 0).trans rfl, (blk_cell BK393.out 1).trans rfl⟩ (fun hHeld => ?_); refine with_tabW laws_FnSpanPut.tab6 laws_FnSpanPut.bits6 (fun HT_ HW_ => ?_)
                  generalize w37.drew = w38 at BK388 BK393 HB hHeld ⊢
                  refine pure_ (i := 0) (N := some 31) (v := ?_) (a' := ?_) #[true, false, false, false, false, false, false, false, false, false, false, false, false, false, false, false, false, false, false, false, false, false, false, false, false] rfl rfl (any_of HT_.out (by kernel_rfl)) (fun _ _ _ h => h) (Or.inl ⟨by rfl, ?_⟩) ?_ ?_
                  rotate_left
                  · intro w'
                    go_simp
                    with_reducible rfl
                  rotate_left
                  · simp only [Act.put, List.setIfInBounds_toArray, List.set_cons_zero, List.set_cons_succ, i64_w, i32_w]
                    rfl
                  refine take_ (i := 1) (N := some 32) (v := ?_) (a' := ?_) #[true, true, false, false, false, false, false, false, false, false, false, false, false, false, false, false, false, false, false, false, false, false, false, false, false] rfl rfl (take_ofW HT_.out HW_.out (by kernel_rfl)) (fun _ _ _ h => h) (Or.inl ⟨by rfl, ?_⟩) hHeld ?_ ?_
                  rotate_left
                  · rintro w' ⟨s0, s1, s2, s3⟩
                    go_simp
                    with_reducible rfl
                  rotate_left
                  · simp only [Act.put, List.setIfInBounds_toArray, List.set_cons_zero, List.set_cons_succ, i64_w, i32_w]
                    rfl
                  refine one_ (i := 2) (N := some 33) #[true, true, true, false, false, false, false, false, false, false, false, false, false, false, false, false, false, false, false, false, false, false, false, false, false] rfl rfl (one_of HT_.out (by kernel_rfl)) (by decide) (fun K hK => ?_)
                  refine goes_ Tryd.func11 (by kernel_rfl) rfl #[.agg #[.int .i64 t386, .int .i64 t387]] (by rfl) rfl rfl za ?_
                  with_reducible refine (spec_SpanPut.calls kj2 t386 t387 t394 _ A18.out).mono ?_
                  rintro e w39 ⟨rfl, hb⟩
                  refine ⟨_, rfl, ?_⟩
                  have n0_ := Aside0.mk (blk_below (g := gb388) (o := .cells #[.int .i64 t386, .int .i64 t387] 25 (0, 0)) (zk BK388.out) hb)
                  have n1_ := Aside0.mk (blk_below (g := gb393) (o := .cells #[.int .i64 t390, .int .i64 t391] 25 (0, 0)) (zk BK393.out) hb)
                  have n2_ := Aside0.mk (below_step zb hb)
                  clear BK388
                  clear BK393
                  clear HB
                  have BK388 := n0_
                  have BK393 := n1_
                  have HB := n2_
                  clear n0_ n1_ n2_
                  (try clear hb)
                  (try clear hb2)
                  (try clear hk)
                  (try clear hi)
                  refine hK.out _ _ ⟨(blk_cell BK388.out 0).trans rfl, (blk_cell BK388.out 1).trans rfl, (blk_cell BK393.out 0).trans rfl, (blk_cell BK393.out 1).trans rfl⟩ (fun hHeld => ?_)
                  clear hK K
                  refine norm_ (a' := ?_) ?_ ?_
                  rotate_left
                  · show Act.put _ (some 33) _ = _
                    simp only [Act.put, List.setIfInBounds_toArray, List.set_cons_zero, List.set_cons_succ, i64_w, i32_w]
                    rfl
                  refine pure_ (i := 3) (N := some 34) (v := ?_) (a' := ?_) #[true, true, true, true, false, false, false, false, false, false, false, false, false, false, false, false, false, false, false, false, false, false, false, false, false] rfl rfl (any_of HT_.out (by kernel_rfl)) (fun _ _ _ h => h) (Or.inl ⟨by rfl, ?_⟩) ?_ ?_
                  rotate_left
                  · intro w'
                    go_simp
                    with_reducible rfl
                  rotate_left
                  · simp only [Act.put, List.setIfInBounds_toArray, List.set_cons_zero, List.set_cons_succ, i64_w, i32_w]
                    rfl
                  refine pure_ (i := 4) (N := some 35) (v := ?_) (a' := ?_) #[true, true, true, true, true, false, false, false, false, false, false, false, false, false, false, false, false, false, false, false, false, false, false, false, false] rfl rfl (any_of HT_.out (by kernel_rfl)) (fun _ _ _ h => h) (Or.inl ⟨by rfl, ?_⟩) ?_ ?_
                  rotate_left
                  · intro w'
                    go_simp
                    with_reducible rfl
                  rotate_left
                  · simp only [Act.put, List.setIfInBounds_toArray, List.set_cons_zero, List.set_cons_succ, i64_w, i32_w]
                    rfl
                  refine take_ (i := 5) (N := some 36) (v := ?_) (a' := ?_) #[true, true, true, true, true, true, false, false, false, false, false, false, false, false, false, false, false, false, false, false, false, false, false, false, false] rfl rfl (take_ofW HT_.out HW_.out (by kernel_rfl)) (fun _ _ _ h => h) (Or.inl ⟨by rfl, ?_⟩) hHeld ?_ ?_
                  rotate_left
                  · rintro w' ⟨s0, s1, s2, s3⟩
                    go_simp
                    with_reducible rfl
                  rotate_left
                  · simp only [Act.put, List.setIfInBounds_toArray, List.set_cons_zero, List.set_cons_succ, i64_w, i32_w]
                    rfl
                  refine take_ (i := 7) (N := some 38) (v := ?_) (a' := ?_) #[true, true, true, true, true, true, false, true, false, false, false, false, false, false, false, false, false, false, false, false, false, false, false, false, false] rfl rfl (take_ofW HT_.out HW_.out (by kernel_rfl)) (fun _ _ _ h => h) (Or.inl ⟨by rfl, ?_⟩) hHeld ?_ ?_
                  rotate_left
                  · rintro w' ⟨s0, s1, s2, s3⟩
                    go_simp
                    with_reducible rfl
                  rotate_left
                  · simp only [Act.put, List.setIfInBounds_toArray, List.set_cons_zero, List.set_cons_succ, i64_w, i32_w]
                    rfl
                  refine one_ (i := 6) (N := some 37) #[true, true, true, true, true, true, true, true, false, false, false, false, false, false, false, false, false, false, false, false, false, false, false, false, false] rfl rfl (one_of HT_.out (by kernel_rfl)) (by decide) (fun K hK => ?_)
                  refine goes_ Tryd.func23 (by kernel_rfl) rfl #[.agg #[.int .i64 t386, .int .i64 t387]] (by rfl) rfl rfl za ?_
                  with_reducible refine (impl_SpanOk.calls t386 t387 t395 _ A20.out).mono ?_
                  rintro e w40 ⟨rfl, hb⟩
                  refine ⟨_, rfl, ?_⟩
                  have n0_ := Aside0.mk (blk_below (g := gb388) (o := .cells #[.int .i64 t386, .int .i64 t387] 25 (0, 0)) (zk BK388.out) hb)
                  have n1_ := Aside0.mk (blk_below (g := gb393) (o := .cells #[.int .i64 t390, .int .i64 t391] 25 (0, 0)) (zk BK393.out) hb)
                  have n2_ := Aside0.mk (below_step zb hb)
                  clear BK388
                  clear BK393
                  clear HB
                  have BK388 := n0_
                  have BK393 := n1_
                  have HB := n2_
                  clear n0_ n1_ n2_
                  (try clear hb)
                  (try clear hb2)
                  (try clear hk)
                  (try clear hi)
                  refine hK.out _ _ ⟨(blk_cell BK388.out 0).trans rfl, (blk_cell BK388.out 1).trans rfl, (blk_cell BK393.out 0).trans rfl, (blk_cell BK393.out 1).trans rfl⟩ (fun hHeld => ?_)
                  clear hK K
                  refine norm_ (a' := ?_) ?_ ?_
                  rotate_left
                  · show Act.put _ (some 37) _ = _
                    simp only [Act.put, List.setIfInBounds_toArray, List.set_cons_zero, List.set_cons_succ, i64_w, i32_w]
                    rfl
                  refine one_ (i := 8) (N := some 39) #[true, true, true, true, true, true, true, true, true, false, false, false, false, false, false, false, false, false, false, false, false, false, false, false, false] rfl rfl (one_of HT_.out (by kernel_rfl)) (by decide) (fun K hK => ?_)
                  refine goes_ Tryd.func24 (by kernel_rfl) rfl #[.agg #[.int .i64 t386, .int .i64 t387]] (by rfl) rfl rfl za ?_
                  with_reducible refine (spec_SpanOk.calls t386 t387 t396 _ A21.out).mono ?_
                  rintro e w41 ⟨rfl, hb⟩
                  refine ⟨_, rfl, ?_⟩
                  have n0_ := Aside0.mk (blk_below (g := gb388) (o := .cells #[.int .i64 t386, .int .i64 t387] 25 (0, 0)) (zk BK388.out) hb)
                  have n1_ := Aside0.mk (blk_below (g := gb393) (o := .cells #[.int .i64 t390, .int .i64 t391] 25 (0, 0)) (zk BK393.out) hb)
                  have n2_ := Aside0.mk (below_step zb hb)
                  clear BK388
                  clear BK393
                  clear HB
                  have BK388 := n0_
                  have BK393 := n1_
                  have HB := n2_
                  clear n0_ n1_ n2_
                  (try clear hb)
                  (try clear hb2)
                  (try clear hk)
                  (try clear hi)
                  refine hK.out _ _ ⟨(blk_cell BK388.out 0).trans rfl, (blk_cell BK388.out 1).trans rfl, (blk_cell BK393.out 0).trans rfl, (blk_cell BK393.out 1).trans rfl⟩ (fun hHeld => ?_)
                  clear hK K
                  refine norm_ (a' := ?_) ?_ ?_
                  rotate_left
                  · show Act.put _ (some 39) _ = _
                    simp only [Act.put, List.setIfInBounds_toArray, List.set_cons_zero, List.set_cons_succ, i64_w, i32_w]
                    rfl
                  refine pure_ (i := 9) (N := some 40) (v := ?_) (a' := ?_) #[true, true, true, true, true, true, true, true, true, true, false, false, false, false, false, false, false, false, false, false, false, false, false, false, false] rfl rfl (any_of HT_.out (by kernel_rfl)) (fun _ _ _ h => h) (Or.inl ⟨by rfl, ?_⟩) ?_ ?_
                  rotate_left
                  · intro w'
                    go_simp
                    with_reducible rfl
                  rotate_left
                  · simp only [Act.put, List.setIfInBounds_toArray, List.set_cons_zero, List.set_cons_succ, i64_w, i32_w]
                    rfl
                  refine pure_ (i := 10) (N := some 41) (v := ?_) (a' := ?_) #[true, true, true, true, true, true, true, true, true, true, true, false, false, false, false, false, false, false, false, false, false, false, false, false, false] rfl rfl (any_of HT_.out (by kernel_rfl)) (fun _ _ _ h => h) (Or.inl ⟨by rfl, ?_⟩) ?_ ?_
                  rotate_left
                  · intro w'
                    go_simp
                    with_reducible rfl
                  rotate_left
                  · simp only [Act.put, List.setIfInBounds_toArray, List.set_cons_zero, List.set_cons_succ, i64_w, i32_w]
                    rfl
                  refine pure_ (i := 11) (N := some 42) (v := ?_) (a' := ?_) #[true, true, true, true, true, true, true, true, true, true, true, true, false, false, false, false, false, false, false, false, false, false, false, false, false] rfl rfl (any_of HT_.out (by kernel_rfl)) (fun _ _ _ h => h) (Or.inl ⟨by rfl, ?_⟩) ?_ ?_
                  rotate_left
                  · intro w'
                    go_simp
                    with_reducible rfl
                  rotate_left
                  · simp only [Act.put, List.setIfInBounds_toArray, List.set_cons_zero, List.set_cons_succ, i64_w, i32_w]
                    rfl
                  refine pure_ (i := 12) (N := some 43) (v := ?_) (a' := ?_) #[true, true, true, true, true, true, true, true, true, true, true, true, true, false, false, false, false, false, false, false, false, false, false, false, false] rfl rfl (any_of HT_.out (by kernel_rfl)) (fun _ _ _ h => h) (Or.inl ⟨by rfl, ?_⟩) ?_ ?_
                  rotate_left
                  · intro w'
                    go_simp
                    with_reducible rfl
                  rotate_left
                  · simp only [Act.put, List.setIfInBounds_toArray, List.set_cons_zero, List.set_cons_succ, i64_w, i32_w]
                    rfl
                  refine take_ (i := 13) (N := some 44) (v := ?_) (a' := ?_) #[true, true, true, true, true, true, true, true, true, true, true, true, true, true, false, false, false, false, false, false, false, false, false, false, false] rfl rfl (take_ofW HT_.out HW_.out (by kernel_rfl)) (fun _ _ _ h => h) (Or.inl ⟨by rfl, ?_⟩) hHeld ?_ ?_
                  rotate_left
                  · rintro w' ⟨s0, s1, s2, s3⟩
                    go_simp
                    with_reducible rfl
                  rotate_left
                  · simp only [Act.put, List.setIfInBounds_toArray, List.set_cons_zero, List.set_cons_succ, i64_w, i32_w]
                    rfl
                  refine one_ (i := 14) (N := some 45) #[true, true, true, true, true, true, true, true, true, true, true, true, true, true, true, false, false, false, false, false, false, false, false, false, false] rfl rfl (one_of HT_.out (by kernel_rfl)) (by decide) (fun K hK => ?_)
                  refine goes_ Tryd.func23 (by kernel_rfl) rfl #[.agg #[.int .i64 t386, .int .i64 t387]] (by rfl) rfl rfl za ?_
                  with_reducible refine (impl_SpanOk.calls t386 t387 t397 _ A28.out).mono ?_
                  rintro e w42 ⟨rfl, hb⟩
                  refine ⟨_, rfl, ?_⟩
                  have n0_ := Aside0.mk (blk_below (g := gb388) (o := .cells #[.int .i64 t386, .int .i64 t387] 25 (0, 0)) (zk BK388.out) hb)
                  have n1_ := Aside0.mk (blk_below (g := gb393) (o := .cells #[.int .i64 t390, .int .i64 t391] 25 (0, 0)) (zk BK393.out) hb)
                  have n2_ := Aside0.mk (below_step zb hb)
                  clear BK388
                  clear BK393
                  clear HB
                  have BK388 := n0_
                  have BK393 := n1_
                  have HB := n2_
                  clear n0_ n1_ n2_
                  (try clear hb)
                  (try clear hb2)
                  (try clear hk)
                  (try clear hi)
                  refine hK.out _ _ ⟨(blk_cell BK388.out 0).trans rfl, (blk_cell BK388.out 1).trans rfl, (blk_cell BK393.out 0).trans rfl, (blk_cell BK393.out 1).trans rfl⟩ (fun hHeld => ?_)
                  clear hK K
                  refine norm_ (a' := ?_) ?_ ?_
                  rotate_left
                  · show Act.put _ (some 45) _ = _
                    simp only [Act.put, List.setIfInBounds_toArray, List.set_cons_zero, List.set_cons_succ, i64_w, i32_w]
                    rfl
                  refine pure_ (i := 15) (N := some 46) (v := ?_) (a' := ?_) #[true, true, true, true, true, true, true, true, true, true, true, true, true, true, true, true, false, false, false, false, false, false, false, false, false] rfl rfl (any_of HT_.out (by kernel_rfl)) (fun _ _ _ h => h) (Or.inl ⟨by rfl, ?_⟩) ?_ ?_
                  rotate_left
                  · intro w'
                    go_simp
                    with_reducible rfl
                  rotate_left
                  · simp only [Act.put, List.setIfInBounds_toArray, List.set_cons_zero, List.set_cons_succ, i64_w, i32_w]
                    rfl
                  refine pure_ (i := 16) (N := some 47) (v := ?_) (a' := ?_) #[true, true, true, true, true, true, true, true, true, true, true, true, true, true, true, true, true, false, false, false, false, false, false, false, false] rfl rfl (any_of HT_.out (by kernel_rfl)) (fun _ _ _ h => h) (Or.inl ⟨by rfl, ?_⟩) ?_ ?_
                  rotate_left
                  · intro w'
                    go_simp
                    with_reducible rfl
                  rotate_left
                  · simp only [Act.put, List.setIfInBounds_toArray, List.set_cons_zero, List.set_cons_succ, i64_w, i32_w]
                    rfl
                  refine pure_ (i := 17) (N := some 48) (v := ?_) (a' := ?_) #[true, true, true, true, true, true, true, true, true, true, true, true, true, true, true, true, true, true, false, false, false, false, false, false, false] rfl rfl (any_of HT_.out (by kernel_rfl)) (fun _ _ _ h => h) (Or.inl ⟨by rfl, ?_⟩) ?_ ?_
                  rotate_left
                  · intro w'
                    go_simp
                    with_reducible rfl
                  rotate_left
                  · simp only [Act.put, List.setIfInBounds_toArray, List.set_cons_zero, List.set_cons_succ, i64_w, i32_w]
                    rfl
                  refine pure_ (i := 18) (N := some 49) (v := ?_) (a' := ?_) #[true, true, true, true, true, true, true, true, true, true, true, true, true, true, true, true, true, true, true, false, false, false, false, false, false] rfl rfl (any_of HT_.out (by kernel_rfl)) (fun _ _ _ h => h) (Or.inl ⟨by rfl, ?_⟩) ?_ ?_
                  rotate_left
                  · intro w'
                    go_simp
                    with_reducible rfl
                  rotate_left
                  · simp only [Act.put, List.setIfInBounds_toArray, List.set_cons_zero, List.set_cons_succ, i64_w, i32_w]
                    rfl
                  refine pure_ (i := 19) (N := some 50) (v := ?_) (a' := ?_) #[true, true, true, true, true, true, true, true, true, true, true, true, true, true, true, true, true, true, true, true, false, false, false, false, false] rfl rfl (any_of HT_.out (by kernel_rfl)) (fun _ _ _ h => h) (Or.inl ⟨by rfl, ?_⟩) ?_ ?_
                  rotate_left
                  · intro w'
                    go_simp
                    with_reducible rfl
                  rotate_left
                  · simp only [Act.put, List.setIfInBounds_toArray, List.set_cons_zero, List.set_cons_succ, i64_w, i32_w]
                    rfl
                  refine take_ (i := 20) (N := some 51) (v := ?_) (a' := ?_) #[true, true, true, true, true, true, true, true, true, true, true, true, true, true, true, true, true, true, true, true, true, false, false, false, false] rfl rfl (take_ofW HT_.out HW_.out (by kernel_rfl)) (fun _ _ _ h => h) (Or.inl ⟨by rfl, ?_⟩) hHeld ?_ ?_
                  rotate_left
                  · rintro w' ⟨s0, s1, s2, s3⟩
                    go_simp
                    with_reducible rfl
                  rotate_left
                  · simp only [Act.put, List.setIfInBounds_toArray, List.set_cons_zero, List.set_cons_succ, i64_w, i32_w]
                    rfl
                  refine take_ (i := 21) (N := some 52) (v := ?_) (a' := ?_) #[true, true, true, true, true, true, true, true, true, true, true, true, true, true, true, true, true, true, true, true, true, true, false, false, false] rfl rfl (take_ofW HT_.out HW_.out (by kernel_rfl)) (fun _ _ _ h => h) (Or.inl ⟨by rfl, ?_⟩) hHeld ?_ ?_
                  rotate_left
                  · rintro w' ⟨s0, s1, s2, s3⟩
                    go_simp
                    with_reducible rfl
                  rotate_left
                  · simp only [Act.put, List.setIfInBounds_toArray, List.set_cons_zero, List.set_cons_succ, i64_w, i32_w]
                    rfl
                  refine pure_ (i := 22) (N := some 53) (v := ?_) (a' := ?_) #[true, true, true, true, true, true, true, true, true, true, true, true, true, true, true, true, true, true, true, true, true, true, true, false, false] rfl rfl (any_of HT_.out (by kernel_rfl)) (fun _ _ _ h => h) (Or.inl ⟨by rfl, ?_⟩) ?_ ?_
                  rotate_left
                  · intro w'
                    go_simp
                    with_reducible rfl
                  rotate_left
                  · simp only [Act.put, List.setIfInBounds_toArray, List.set_cons_zero, List.set_cons_succ, i64_w, i32_w]
                    rfl
                  refine pure_ (i := 23) (N := some 54) (v := ?_) (a' := ?_) #[true, true, true, true, true, true, true, true, true, true, true, true, true, true, true, true, true, true, true, true, true, true, true, true, false] rfl rfl (any_of HT_.out (by kernel_rfl)) (fun _ _ _ h => h) (Or.inl ⟨by rfl, ?_⟩) ?_ ?_
                  rotate_left
                  · intro w'
                    go_simp
                    with_reducible rfl
                  rotate_left
                  · simp only [Act.put, List.setIfInBounds_toArray, List.set_cons_zero, List.set_cons_succ, i64_w, i32_w]
                    rfl
                  refine pure_ (i := 24) (N := some 55) (v := ?_) (a' := ?_) #[true, true, true, true, true, true, true, true, true, true, true, true, true, true, true, true, true, true, true, true, true, true, true, true, true] rfl rfl (any_of HT_.out (by kernel_rfl)) (fun _ _ _ h => h) (Or.inl ⟨by rfl, ?_⟩) ?_ ?_
                  rotate_left
                  · intro w'
                    go_simp
                    with_reducible rfl
                  rotate_left
                  · simp only [Act.put, List.setIfInBounds_toArray, List.set_cons_zero, List.set_cons_succ, i64_w, i32_w]
                    rfl
                  refine done_ (done_of HT_.out (by kernel_rfl)) ?_
                  try go_wp2
                  go_meet
                  case rel => exact ⟨_, ((!(t390 == t386) || (!(t391 == t387)))), (by first | rfl | (simp; done) | (simp [*]; done)), H', ⟨by have := HJ2.out; first | omega | exact Nat.le_refl _⟩, ⟨by (with_reducible repeat (first | refine blk_drewN ?_ _ | refine blk_drew ?_ | refine blk_alloc ?_ _)); exact BK388.out⟩, ⟨by (with_reducible repeat (first | refine blk_drewN ?_ _ | refine blk_drew ?_ | refine blk_alloc ?_ _)); exact BK393.out⟩, ⟨zb⟩⟩
                · replace c36 := Bool.eq_false_iff.mpr c36
                  subst c36
                  have H1 : (laws_FnSpanPut.j1 kj2 l1 false) = some r := by rw [if_neg (show ¬ (false = true) by decide)] at H; exact H
                  clear H
                  have H := H1
                  clear H1
                  have H' := Aside0.mk H
                  clear H
                  try go_wp2
                  have n0_ : Aside0 (((w15.setCell ⟨gb393, 0, none⟩ (.int .i64 t390)).setCell ⟨gb393, 1, none⟩ (.int .i64 t391)).heap[gb388]? = some (.cells #[.int .i64 t386, .int .i64 t387] 25 (0, 0))) := ⟨by (with_reducible repeat (first | refine blk_drewN ?_ _ | refine blk_drew ?_ | refine blk_alloc ?_ _)); refine blk_far ?_ NB388_393.out _; (with_reducible repeat (first | refine blk_drewN ?_ _ | refine blk_drew ?_ | refine blk_alloc ?_ _)); refine blk_far ?_ NB388_393.out _; (with_reducible repeat (first | refine blk_drewN ?_ _ | refine blk_drew ?_ | refine blk_alloc ?_ _)); exact BK388.out⟩
                  have n1_ : Aside0 (((w15.setCell ⟨gb393, 0, none⟩ (.int .i64 t390)).setCell ⟨gb393, 1, none⟩ (.int .i64 t391)).heap[gb393]? = some (.cells #[.int .i64 t390, .int .i64 t391] 25 (0, 0))) := ⟨by (with_reducible repeat (first | refine blk_drewN ?_ _ | refine blk_drew ?_ | refine blk_alloc ?_ _)); refine blk_put (cs := #[.int .i64 t390, .int .i64 0]) ?_ 1 _ rfl; (with_reducible repeat (first | refine blk_drewN ?_ _ | refine blk_drew ?_ | refine blk_alloc ?_ _)); refine blk_put (cs := #[.int .i64 0, .int .i64 0]) ?_ 0 _ rfl; (with_reducible repeat (first | refine blk_drewN ?_ _ | refine blk_drew ?_ | refine blk_alloc ?_ _)); exact BK393.out⟩
                  have n2_ : Aside0 (Below w.heap.size w ((w15.setCell ⟨gb393, 0, none⟩ (.int .i64 t390)).setCell ⟨gb393, 1, none⟩ (.int .i64 t391))) := ⟨zb⟩
                  (try clear BK388)
                  (try clear BK393)
                  (try clear HB)
                  generalize ((w15.setCell ⟨gb393, 0, none⟩ (.int .i64 t390)).setCell ⟨gb393, 1, none⟩ (.int .i64 t391)) = w43 at n0_ n1_ n2_ ⊢
                  have BK388 := n0_
                  have BK393 := n1_
                  have HB := n2_
                  clear n0_ n1_ n2_
                  have n0_ := Aside0.mk (blk_drew BK388.out)
                  have n1_ := Aside0.mk (blk_drew BK393.out)
                  have n2_ := Aside0.mk (below_drew1 HB.out)
                  clear BK388
                  clear BK393
                  clear HB
                  have BK388 := n0_
                  have BK393 := n1_
                  have HB := n2_
                  clear n0_ n1_ n2_
                  refine start_ (n := 25) (S := fun w' => w'.cell? ⟨gb388, 0, none⟩ = some (.int .i64 t386) ∧ w'.cell? ⟨gb388, 1, none⟩ = some (.int .i64 t387)) (ds := []) #[false, false, false, false, false, false, false, false, false, false, false, false, false, false, false, false, false, false, false, false, false, false, false, false, false] (by kernel_rfl) rfl rfl ⟨(blk_cell BK388.out 0).trans rfl, (blk_cell BK388.out 1).trans rfl⟩ (fun hHeld => ?_); refine with_tabW laws_FnSpanPut.tab6 laws_FnSpanPut.bits6 (fun HT_ HW_ => ?_)
                  generalize w43.drew = w44 at BK388 BK393 HB hHeld ⊢
                  refine pure_ (i := 0) (N := some 31) (v := ?_) (a' := ?_) #[true, false, false, false, false, false, false, false, false, false, false, false, false, false, false, false, false, false, false, false, false, false, false, false, false] rfl rfl (any_of HT_.out (by kernel_rfl)) (fun _ _ _ h => h) (Or.inl ⟨by rfl, ?_⟩) ?_ ?_
                  rotate_left
                  · intro w'
                    go_simp
                    with_reducible rfl
                  rotate_left
                  · simp only [Act.put, List.setIfInBounds_toArray, List.set_cons_zero, List.set_cons_succ, i64_w, i32_w]
                    rfl
                  refine take_ (i := 1) (N := some 32) (v := ?_) (a' := ?_) #[true, true, false, false, false, false, false, false, false, false, false, false, false, false, false, false, false, false, false, false, false, false, false, false, false] rfl rfl (take_ofW HT_.out HW_.out (by kernel_rfl)) (fun _ _ _ h => h) (Or.inl ⟨by rfl, ?_⟩) hHeld ?_ ?_
                  rotate_left
                  · rintro w' ⟨s0, s1⟩
                    go_simp
                    with_reducible rfl
                  rotate_left
                  · simp only [Act.put, List.setIfInBounds_toArray, List.set_cons_zero, List.set_cons_succ, i64_w, i32_w]
                    rfl
                  refine one_ (i := 2) (N := some 33) #[true, true, true, false, false, false, false, false, false, false, false, false, false, false, false, false, false, false, false, false, false, false, false, false, false] rfl rfl (one_of HT_.out (by kernel_rfl)) (by decide) (fun K hK => ?_)
                  refine goes_ Tryd.func11 (by kernel_rfl) rfl #[.agg #[.int .i64 t386, .int .i64 t387]] (by rfl) rfl rfl za ?_
                  with_reducible refine (spec_SpanPut.calls kj2 t386 t387 t394 _ A18.out).mono ?_
                  rintro e w45 ⟨rfl, hb⟩
                  refine ⟨_, rfl, ?_⟩
                  have n0_ := Aside0.mk (blk_below (g := gb388) (o := .cells #[.int .i64 t386, .int .i64 t387] 25 (0, 0)) (zk BK388.out) hb)
                  have n1_ := Aside0.mk (blk_below (g := gb393) (o := .cells #[.int .i64 t390, .int .i64 t391] 25 (0, 0)) (zk BK393.out) hb)
                  have n2_ := Aside0.mk (below_step zb hb)
                  clear BK388
                  clear BK393
                  clear HB
                  have BK388 := n0_
                  have BK393 := n1_
                  have HB := n2_
                  clear n0_ n1_ n2_
                  (try clear hb)
                  (try clear hb2)
                  (try clear hk)
                  (try clear hi)
                  refine hK.out _ _ ⟨(blk_cell BK388.out 0).trans rfl, (blk_cell BK388.out 1).trans rfl⟩ (fun hHeld => ?_)
                  clear hK K
                  refine norm_ (a' := ?_) ?_ ?_
                  rotate_left
                  · show Act.put _ (some 33) _ = _
                    simp only [Act.put, List.setIfInBounds_toArray, List.set_cons_zero, List.set_cons_succ, i64_w, i32_w]
                    rfl
                  refine pure_ (i := 3) (N := some 34) (v := ?_) (a' := ?_) #[true, true, true, true, false, false, false, false, false, false, false, false, false, false, false, false, false, false, false, false, false, false, false, false, false] rfl rfl (any_of HT_.out (by kernel_rfl)) (fun _ _ _ h => h) (Or.inl ⟨by rfl, ?_⟩) ?_ ?_
                  rotate_left
                  · intro w'
                    go_simp
                    with_reducible rfl
                  rotate_left
                  · simp only [Act.put, List.setIfInBounds_toArray, List.set_cons_zero, List.set_cons_succ, i64_w, i32_w]
                    rfl
                  refine pure_ (i := 4) (N := some 35) (v := ?_) (a' := ?_) #[true, true, true, true, true, false, false, false, false, false, false, false, false, false, false, false, false, false, false, false, false, false, false, false, false] rfl rfl (any_of HT_.out (by kernel_rfl)) (fun _ _ _ h => h) (Or.inl ⟨by rfl, ?_⟩) ?_ ?_
                  rotate_left
                  · intro w'
                    go_simp
                    with_reducible rfl
                  rotate_left
                  · simp only [Act.put, List.setIfInBounds_toArray, List.set_cons_zero, List.set_cons_succ, i64_w, i32_w]
                    rfl
                  refine take_ (i := 5) (N := some 36) (v := ?_) (a' := ?_) #[true, true, true, true, true, true, false, false, false, false, false, false, false, false, false, false, false, false, false, false, false, false, false, false, false] rfl rfl (take_ofW HT_.out HW_.out (by kernel_rfl)) (fun _ _ _ h => h) (Or.inl ⟨by rfl, ?_⟩) hHeld ?_ ?_
                  rotate_left
                  · rintro w' ⟨s0, s1⟩
                    go_simp
                    with_reducible rfl
                  rotate_left
                  · simp only [Act.put, List.setIfInBounds_toArray, List.set_cons_zero, List.set_cons_succ, i64_w, i32_w]
                    rfl
                  refine take_ (i := 7) (N := some 38) (v := ?_) (a' := ?_) #[true, true, true, true, true, true, false, true, false, false, false, false, false, false, false, false, false, false, false, false, false, false, false, false, false] rfl rfl (take_ofW HT_.out HW_.out (by kernel_rfl)) (fun _ _ _ h => h) (Or.inl ⟨by rfl, ?_⟩) hHeld ?_ ?_
                  rotate_left
                  · rintro w' ⟨s0, s1⟩
                    go_simp
                    with_reducible rfl
                  rotate_left
                  · simp only [Act.put, List.setIfInBounds_toArray, List.set_cons_zero, List.set_cons_succ, i64_w, i32_w]
                    rfl
                  refine one_ (i := 6) (N := some 37) #[true, true, true, true, true, true, true, true, false, false, false, false, false, false, false, false, false, false, false, false, false, false, false, false, false] rfl rfl (one_of HT_.out (by kernel_rfl)) (by decide) (fun K hK => ?_)
                  refine goes_ Tryd.func23 (by kernel_rfl) rfl #[.agg #[.int .i64 t386, .int .i64 t387]] (by rfl) rfl rfl za ?_
                  with_reducible refine (impl_SpanOk.calls t386 t387 t395 _ A20.out).mono ?_
                  rintro e w46 ⟨rfl, hb⟩
                  refine ⟨_, rfl, ?_⟩
                  have n0_ := Aside0.mk (blk_below (g := gb388) (o := .cells #[.int .i64 t386, .int .i64 t387] 25 (0, 0)) (zk BK388.out) hb)
                  have n1_ := Aside0.mk (blk_below (g := gb393) (o := .cells #[.int .i64 t390, .int .i64 t391] 25 (0, 0)) (zk BK393.out) hb)
                  have n2_ := Aside0.mk (below_step zb hb)
                  clear BK388
                  clear BK393
                  clear HB
                  have BK388 := n0_
                  have BK393 := n1_
                  have HB := n2_
                  clear n0_ n1_ n2_
                  (try clear hb)
                  (try clear hb2)
                  (try clear hk)
                  (try clear hi)
                  refine hK.out _ _ ⟨(blk_cell BK388.out 0).trans rfl, (blk_cell BK388.out 1).trans rfl⟩ (fun hHeld => ?_)
                  clear hK K
                  refine norm_ (a' := ?_) ?_ ?_
                  rotate_left
                  · show Act.put _ (some 37) _ = _
                    simp only [Act.put, List.setIfInBounds_toArray, List.set_cons_zero, List.set_cons_succ, i64_w, i32_w]
                    rfl
                  refine one_ (i := 8) (N := some 39) #[true, true, true, true, true, true, true, true, true, false, false, false, false, false, false, false, false, false, false, false, false, false, false, false, false] rfl rfl (one_of HT_.out (by kernel_rfl)) (by decide) (fun K hK => ?_)
                  refine goes_ Tryd.func24 (by kernel_rfl) rfl #[.agg #[.int .i64 t386, .int .i64 t387]] (by rfl) rfl rfl za ?_
                  with_reducible refine (spec_SpanOk.calls t386 t387 t396 _ A21.out).mono ?_
                  rintro e w47 ⟨rfl, hb⟩
                  refine ⟨_, rfl, ?_⟩
                  have n0_ := Aside0.mk (blk_below (g := gb388) (o := .cells #[.int .i64 t386, .int .i64 t387] 25 (0, 0)) (zk BK388.out) hb)
                  have n1_ := Aside0.mk (blk_below (g := gb393) (o := .cells #[.int .i64 t390, .int .i64 t391] 25 (0, 0)) (zk BK393.out) hb)
                  have n2_ := Aside0.mk (below_step zb hb)
                  clear BK388
                  clear BK393
                  clear HB
                  have BK388 := n0_
                  have BK393 := n1_
                  have HB := n2_
                  clear n0_ n1_ n2_
                  (try clear hb)
                  (try clear hb2)
                  (try clear hk)
                  (try clear hi)
                  refine hK.out _ _ ⟨(blk_cell BK388.out 0).trans rfl, (blk_cell BK388.out 1).trans rfl⟩ (fun hHeld => ?_)
                  clear hK K
                  refine norm_ (a' := ?_) ?_ ?_
                  rotate_left
                  · show Act.put _ (some 39) _ = _
                    simp only [Act.put, List.setIfInBounds_toArray, List.set_cons_zero, List.set_cons_succ, i64_w, i32_w]
                    rfl
                  refine pure_ (i := 9) (N := some 40) (v := ?_) (a' := ?_) #[true, true, true, true, true, true, true, true, true, true, false, false, false, false, false, false, false, false, false, false, false, false, false, false, false] rfl rfl (any_of HT_.out (by kernel_rfl)) (fun _ _ _ h => h) (Or.inl ⟨by rfl, ?_⟩) ?_ ?_
                  rotate_left
                  · intro w'
                    go_simp
                    with_reducible rfl
                  rotate_left
                  · simp only [Act.put, List.setIfInBounds_toArray, List.set_cons_zero, List.set_cons_succ, i64_w, i32_w]
                    rfl
                  refine pure_ (i := 10) (N := some 41) (v := ?_) (a' := ?_) #[true, true, true, true, true, true, true, true, true, true, true, false, false, false, false, false, false, false, false, false, false, false, false, false, false] rfl rfl (any_of HT_.out (by kernel_rfl)) (fun _ _ _ h => h) (Or.inl ⟨by rfl, ?_⟩) ?_ ?_
                  rotate_left
                  · intro w'
                    go_simp
                    with_reducible rfl
                  rotate_left
                  · simp only [Act.put, List.setIfInBounds_toArray, List.set_cons_zero, List.set_cons_succ, i64_w, i32_w]
                    rfl
                  refine pure_ (i := 11) (N := some 42) (v := ?_) (a' := ?_) #[true, true, true, true, true, true, true, true, true, true, true, true, false, false, false, false, false, false, false, false, false, false, false, false, false] rfl rfl (any_of HT_.out (by kernel_rfl)) (fun _ _ _ h => h) (Or.inl ⟨by rfl, ?_⟩) ?_ ?_
                  rotate_left
                  · intro w'
                    go_simp
                    with_reducible rfl
                  rotate_left
                  · simp only [Act.put, List.setIfInBounds_toArray, List.set_cons_zero, List.set_cons_succ, i64_w, i32_w]
                    rfl
                  refine pure_ (i := 12) (N := some 43) (v := ?_) (a' := ?_) #[true, true, true, true, true, true, true, true, true, true, true, true, true, false, false, false, false, false, false, false, false, false, false, false, false] rfl rfl (any_of HT_.out (by kernel_rfl)) (fun _ _ _ h => h) (Or.inl ⟨by rfl, ?_⟩) ?_ ?_
                  rotate_left
                  · intro w'
                    go_simp
                    with_reducible rfl
                  rotate_left
                  · simp only [Act.put, List.setIfInBounds_toArray, List.set_cons_zero, List.set_cons_succ, i64_w, i32_w]
                    rfl
                  refine take_ (i := 13) (N := some 44) (v := ?_) (a' := ?_) #[true, true, true, true, true, true, true, true, true, true, true, true, true, true, false, false, false, false, false, false, false, false, false, false, false] rfl rfl (take_ofW HT_.out HW_.out (by kernel_rfl)) (fun _ _ _ h => h) (Or.inl ⟨by rfl, ?_⟩) hHeld ?_ ?_
                  rotate_left
                  · rintro w' ⟨s0, s1⟩
                    go_simp
                    with_reducible rfl
                  rotate_left
                  · simp only [Act.put, List.setIfInBounds_toArray, List.set_cons_zero, List.set_cons_succ, i64_w, i32_w]
                    rfl
                  refine one_ (i := 14) (N := some 45) #[true, true, true, true, true, true, true, true, true, true, true, true, true, true, true, false, false, false, false, false, false, false, false, false, false] rfl rfl (one_of HT_.out (by kernel_rfl)) (by decide) (fun K hK => ?_)
                  refine goes_ Tryd.func23 (by kernel_rfl) rfl #[.agg #[.int .i64 t386, .int .i64 t387]] (by rfl) rfl rfl za ?_
                  with_reducible refine (impl_SpanOk.calls t386 t387 t397 _ A28.out).mono ?_
                  rintro e w48 ⟨rfl, hb⟩
                  refine ⟨_, rfl, ?_⟩
                  have n0_ := Aside0.mk (blk_below (g := gb388) (o := .cells #[.int .i64 t386, .int .i64 t387] 25 (0, 0)) (zk BK388.out) hb)
                  have n1_ := Aside0.mk (blk_below (g := gb393) (o := .cells #[.int .i64 t390, .int .i64 t391] 25 (0, 0)) (zk BK393.out) hb)
                  have n2_ := Aside0.mk (below_step zb hb)
                  clear BK388
                  clear BK393
                  clear HB
                  have BK388 := n0_
                  have BK393 := n1_
                  have HB := n2_
                  clear n0_ n1_ n2_
                  (try clear hb)
                  (try clear hb2)
                  (try clear hk)
                  (try clear hi)
                  refine hK.out _ _ ⟨(blk_cell BK388.out 0).trans rfl, (blk_cell BK388.out 1).trans rfl⟩ (fun hHeld => ?_)
                  clear hK K
                  refine norm_ (a' := ?_) ?_ ?_
                  rotate_left
                  · show Act.put _ (some 45) _ = _
                    simp only [Act.put, List.setIfInBounds_toArray, List.set_cons_zero, List.set_cons_succ, i64_w, i32_w]
                    rfl
                  refine pure_ (i := 15) (N := some 46) (v := ?_) (a' := ?_) #[true, true, true, true, true, true, true, true, true, true, true, true, true, true, true, true, false, false, false, false, false, false, false, false, false] rfl rfl (any_of HT_.out (by kernel_rfl)) (fun _ _ _ h => h) (Or.inl ⟨by rfl, ?_⟩) ?_ ?_
                  rotate_left
                  · intro w'
                    go_simp
                    with_reducible rfl
                  rotate_left
                  · simp only [Act.put, List.setIfInBounds_toArray, List.set_cons_zero, List.set_cons_succ, i64_w, i32_w]
                    rfl
                  refine pure_ (i := 16) (N := some 47) (v := ?_) (a' := ?_) #[true, true, true, true, true, true, true, true, true, true, true, true, true, true, true, true, true, false, false, false, false, false, false, false, false] rfl rfl (any_of HT_.out (by kernel_rfl)) (fun _ _ _ h => h) (Or.inl ⟨by rfl, ?_⟩) ?_ ?_
                  rotate_left
                  · intro w'
                    go_simp
                    with_reducible rfl
                  rotate_left
                  · simp only [Act.put, List.setIfInBounds_toArray, List.set_cons_zero, List.set_cons_succ, i64_w, i32_w]
                    rfl
                  refine pure_ (i := 17) (N := some 48) (v := ?_) (a' := ?_) #[true, true, true, true, true, true, true, true, true, true, true, true, true, true, true, true, true, true, false, false, false, false, false, false, false] rfl rfl (any_of HT_.out (by kernel_rfl)) (fun _ _ _ h => h) (Or.inl ⟨by rfl, ?_⟩) ?_ ?_
                  rotate_left
                  · intro w'
                    go_simp
                    with_reducible rfl
                  rotate_left
                  · simp only [Act.put, List.setIfInBounds_toArray, List.set_cons_zero, List.set_cons_succ, i64_w, i32_w]
                    rfl
                  refine pure_ (i := 18) (N := some 49) (v := ?_) (a' := ?_) #[true, true, true, true, true, true, true, true, true, true, true, true, true, true, true, true, true, true, true, false, false, false, false, false, false] rfl rfl (any_of HT_.out (by kernel_rfl)) (fun _ _ _ h => h) (Or.inl ⟨by rfl, ?_⟩) ?_ ?_
                  rotate_left
                  · intro w'
                    go_simp
                    with_reducible rfl
                  rotate_left
                  · simp only [Act.put, List.setIfInBounds_toArray, List.set_cons_zero, List.set_cons_succ, i64_w, i32_w]
                    rfl
                  refine pure_ (i := 19) (N := some 50) (v := ?_) (a' := ?_) #[true, true, true, true, true, true, true, true, true, true, true, true, true, true, true, true, true, true, true, true, false, false, false, false, false] rfl rfl (any_of HT_.out (by kernel_rfl)) (fun _ _ _ h => h) (Or.inl ⟨by rfl, ?_⟩) ?_ ?_
                  rotate_left
                  · intro w'
                    go_simp
                    with_reducible rfl
                  rotate_left
                  · simp only [Act.put, List.setIfInBounds_toArray, List.set_cons_zero, List.set_cons_succ, i64_w, i32_w]
                    rfl
                  refine pure_ (i := 20) (N := some 51) (v := undef) (a' := ?_) #[true, true, true, true, true, true, true, true, true, true, true, true, true, true, true, true, true, true, true, true, true, false, false, false, false] rfl rfl (any_of HT_.out (by kernel_rfl)) (fun _ _ _ h => h) (Or.inr ⟨by rfl, rfl⟩) ?_ ?_
                  rotate_left
                  · simp only [Act.put, List.setIfInBounds_toArray, List.set_cons_zero, List.set_cons_succ, i64_w, i32_w]
                    rfl
                  refine pure_ (i := 21) (N := some 52) (v := undef) (a' := ?_) #[true, true, true, true, true, true, true, true, true, true, true, true, true, true, true, true, true, true, true, true, true, true, false, false, false] rfl rfl (any_of HT_.out (by kernel_rfl)) (fun _ _ _ h => h) (Or.inr ⟨by rfl, rfl⟩) ?_ ?_
                  rotate_left
                  · simp only [Act.put, List.setIfInBounds_toArray, List.set_cons_zero, List.set_cons_succ, i64_w, i32_w]
                    rfl
                  refine pure_ (i := 22) (N := some 53) (v := undef) (a' := ?_) #[true, true, true, true, true, true, true, true, true, true, true, true, true, true, true, true, true, true, true, true, true, true, true, false, false] rfl rfl (any_of HT_.out (by kernel_rfl)) (fun _ _ _ h => h) (Or.inr ⟨by rfl, rfl⟩) ?_ ?_
                  rotate_left
                  · simp only [Act.put, List.setIfInBounds_toArray, List.set_cons_zero, List.set_cons_succ, i64_w, i32_w]
                    rfl
                  refine pure_ (i := 23) (N := some 54) (v := ?_) (a' := ?_) #[true, true, true, true, true, true, true, true, true, true, true, true, true, true, true, true, true, true, true, true, true, true, true, true, false] rfl rfl (any_of HT_.out (by kernel_rfl)) (fun _ _ _ h => h) (Or.inl ⟨by rfl, ?_⟩) ?_ ?_
                  rotate_left
                  · intro w'
                    go_simp
                    with_reducible rfl
                  rotate_left
                  · simp only [Act.put, List.setIfInBounds_toArray, List.set_cons_zero, List.set_cons_succ, i64_w, i32_w]
                    rfl
                  refine pure_ (i := 24) (N := some 55) (v := ?_) (a' := ?_) #[true, true, true, true, true, true, true, true, true, true, true, true, true, true, true, true, true, true, true, true, true, true, true, true, true] rfl rfl (any_of HT_.out (by kernel_rfl)) (fun _ _ _ h => h) (Or.inl ⟨by rfl, ?_⟩) ?_ ?_
                  rotate_left
                  · intro w'
                    go_simp
                    with_reducible rfl
                  rotate_left
                  · simp only [Act.put, List.setIfInBounds_toArray, List.set_cons_zero, List.set_cons_succ, i64_w, i32_w]
                    rfl
                  refine done_ (done_of HT_.out (by kernel_rfl)) ?_
                  try go_wp2
                  go_meet
                  case rel => exact ⟨_, (false), (by first | rfl | (simp; done) | (simp [*]; done)), H', ⟨by have := HJ2.out; first | omega | exact Nat.le_refl _⟩, ⟨by (with_reducible repeat (first | refine blk_drewN ?_ _ | refine blk_drew ?_ | refine blk_alloc ?_ _)); exact BK388.out⟩, ⟨by (with_reducible repeat (first | refine blk_drewN ?_ _ | refine blk_drew ?_ | refine blk_alloc ?_ _)); exact BK393.out⟩, ⟨zb⟩⟩
          · rw [if_neg c19] at H
            have c19b0 : (t389.toList == t394.toList) = false := beq_eq_false_iff_ne.mpr c19
            have c19b1 : (t389.toList != t394.toList) = true := bne_iff_ne.mpr c19
            (first | rw [c19b0] | (simp only [i64_w, i32_w]; rw [c19b0]) | skip)
            have H' := Aside0.mk H
            clear H
            try go_wp2
            have n0_ : Aside0 (((w15.setCell ⟨gb393, 0, none⟩ (.int .i64 t390)).setCell ⟨gb393, 1, none⟩ (.int .i64 t391)).heap[gb388]? = some (.cells #[.int .i64 t386, .int .i64 t387] 25 (0, 0))) := ⟨by (with_reducible repeat (first | refine blk_drewN ?_ _ | refine blk_drew ?_ | refine blk_alloc ?_ _)); refine blk_far ?_ NB388_393.out _; (with_reducible repeat (first | refine blk_drewN ?_ _ | refine blk_drew ?_ | refine blk_alloc ?_ _)); refine blk_far ?_ NB388_393.out _; (with_reducible repeat (first | refine blk_drewN ?_ _ | refine blk_drew ?_ | refine blk_alloc ?_ _)); exact BK388.out⟩
            have n1_ : Aside0 (((w15.setCell ⟨gb393, 0, none⟩ (.int .i64 t390)).setCell ⟨gb393, 1, none⟩ (.int .i64 t391)).heap[gb393]? = some (.cells #[.int .i64 t390, .int .i64 t391] 25 (0, 0))) := ⟨by (with_reducible repeat (first | refine blk_drewN ?_ _ | refine blk_drew ?_ | refine blk_alloc ?_ _)); refine blk_put (cs := #[.int .i64 t390, .int .i64 0]) ?_ 1 _ rfl; (with_reducible repeat (first | refine blk_drewN ?_ _ | refine blk_drew ?_ | refine blk_alloc ?_ _)); refine blk_put (cs := #[.int .i64 0, .int .i64 0]) ?_ 0 _ rfl; (with_reducible repeat (first | refine blk_drewN ?_ _ | refine blk_drew ?_ | refine blk_alloc ?_ _)); exact BK393.out⟩
            have n2_ : Aside0 (Below w.heap.size w ((w15.setCell ⟨gb393, 0, none⟩ (.int .i64 t390)).setCell ⟨gb393, 1, none⟩ (.int .i64 t391))) := ⟨zb⟩
            (try clear BK388)
            (try clear BK393)
            (try clear HB)
            generalize ((w15.setCell ⟨gb393, 0, none⟩ (.int .i64 t390)).setCell ⟨gb393, 1, none⟩ (.int .i64 t391)) = w49 at n0_ n1_ n2_ ⊢
            have BK388 := n0_
            have BK393 := n1_
            have HB := n2_
            clear n0_ n1_ n2_
            have n0_ := Aside0.mk (blk_drew BK388.out)
            have n1_ := Aside0.mk (blk_drew BK393.out)
            have n2_ := Aside0.mk (below_drew1 HB.out)
            clear BK388
            clear BK393
            clear HB
            have BK388 := n0_
            have BK393 := n1_
            have HB := n2_
            clear n0_ n1_ n2_
            refine start_ (n := 25) (S := fun w' => w'.cell? ⟨gb388, 0, none⟩ = some (.int .i64 t386) ∧ w'.cell? ⟨gb388, 1, none⟩ = some (.int .i64 t387)) (ds := []) #[false, false, false, false, false, false, false, false, false, false, false, false, false, false, false, false, false, false, false, false, false, false, false, false, false] (by kernel_rfl) rfl rfl ⟨(blk_cell BK388.out 0).trans rfl, (blk_cell BK388.out 1).trans rfl⟩ (fun hHeld => ?_); refine with_tabW laws_FnSpanPut.tab6 laws_FnSpanPut.bits6 (fun HT_ HW_ => ?_)
            generalize w49.drew = w50 at BK388 BK393 HB hHeld ⊢
            refine pure_ (i := 0) (N := some 31) (v := ?_) (a' := ?_) #[true, false, false, false, false, false, false, false, false, false, false, false, false, false, false, false, false, false, false, false, false, false, false, false, false] rfl rfl (any_of HT_.out (by kernel_rfl)) (fun _ _ _ h => h) (Or.inl ⟨by rfl, ?_⟩) ?_ ?_
            rotate_left
            · intro w'
              go_simp
              with_reducible rfl
            rotate_left
            · simp only [Act.put, List.setIfInBounds_toArray, List.set_cons_zero, List.set_cons_succ, i64_w, i32_w]
              rfl
            refine take_ (i := 1) (N := some 32) (v := ?_) (a' := ?_) #[true, true, false, false, false, false, false, false, false, false, false, false, false, false, false, false, false, false, false, false, false, false, false, false, false] rfl rfl (take_ofW HT_.out HW_.out (by kernel_rfl)) (fun _ _ _ h => h) (Or.inl ⟨by rfl, ?_⟩) hHeld ?_ ?_
            rotate_left
            · rintro w' ⟨s0, s1⟩
              go_simp
              with_reducible rfl
            rotate_left
            · simp only [Act.put, List.setIfInBounds_toArray, List.set_cons_zero, List.set_cons_succ, i64_w, i32_w]
              rfl
            refine one_ (i := 2) (N := some 33) #[true, true, true, false, false, false, false, false, false, false, false, false, false, false, false, false, false, false, false, false, false, false, false, false, false] rfl rfl (one_of HT_.out (by kernel_rfl)) (by decide) (fun K hK => ?_)
            refine goes_ Tryd.func11 (by kernel_rfl) rfl #[.agg #[.int .i64 t386, .int .i64 t387]] (by rfl) rfl rfl za ?_
            with_reducible refine (spec_SpanPut.calls kj2 t386 t387 t394 _ A18.out).mono ?_
            rintro e w51 ⟨rfl, hb⟩
            refine ⟨_, rfl, ?_⟩
            have n0_ := Aside0.mk (blk_below (g := gb388) (o := .cells #[.int .i64 t386, .int .i64 t387] 25 (0, 0)) (zk BK388.out) hb)
            have n1_ := Aside0.mk (blk_below (g := gb393) (o := .cells #[.int .i64 t390, .int .i64 t391] 25 (0, 0)) (zk BK393.out) hb)
            have n2_ := Aside0.mk (below_step zb hb)
            clear BK388
            clear BK393
            clear HB
            have BK388 := n0_
            have BK393 := n1_
            have HB := n2_
            clear n0_ n1_ n2_
            (try clear hb)
            (try clear hb2)
            (try clear hk)
            (try clear hi)
            refine hK.out _ _ ⟨(blk_cell BK388.out 0).trans rfl, (blk_cell BK388.out 1).trans rfl⟩ (fun hHeld => ?_)
            clear hK K
            refine norm_ (a' := ?_) ?_ ?_
            rotate_left
            · show Act.put _ (some 33) _ = _
              simp only [Act.put, List.setIfInBounds_toArray, List.set_cons_zero, List.set_cons_succ, i64_w, i32_w]
              rfl
            refine pure_ (i := 3) (N := some 34) (v := ?_) (a' := ?_) #[true, true, true, true, false, false, false, false, false, false, false, false, false, false, false, false, false, false, false, false, false, false, false, false, false] rfl rfl (any_of HT_.out (by kernel_rfl)) (fun _ _ _ h => h) (Or.inl ⟨by rfl, ?_⟩) ?_ ?_
            rotate_left
            · intro w'
              go_simp
              with_reducible rfl
            rotate_left
            · simp only [Act.put, List.setIfInBounds_toArray, List.set_cons_zero, List.set_cons_succ, i64_w, i32_w]
              rfl
            refine pure_ (i := 4) (N := some 35) (v := ?_) (a' := ?_) #[true, true, true, true, true, false, false, false, false, false, false, false, false, false, false, false, false, false, false, false, false, false, false, false, false] rfl rfl (any_of HT_.out (by kernel_rfl)) (fun _ _ _ h => h) (Or.inl ⟨by rfl, ?_⟩) ?_ ?_
            rotate_left
            · intro w'
              go_simp
              with_reducible rfl
            rotate_left
            · simp only [Act.put, List.setIfInBounds_toArray, List.set_cons_zero, List.set_cons_succ, i64_w, i32_w]
              rfl
            refine pure_ (i := 5) (N := some 36) (v := undef) (a' := ?_) #[true, true, true, true, true, true, false, false, false, false, false, false, false, false, false, false, false, false, false, false, false, false, false, false, false] rfl rfl (any_of HT_.out (by kernel_rfl)) (fun _ _ _ h => h) (Or.inr ⟨by rfl, rfl⟩) ?_ ?_
            rotate_left
            · simp only [Act.put, List.setIfInBounds_toArray, List.set_cons_zero, List.set_cons_succ, i64_w, i32_w]
              rfl
            refine pure_ (i := 6) (N := some 37) (v := undef) (a' := ?_) #[true, true, true, true, true, true, true, false, false, false, false, false, false, false, false, false, false, false, false, false, false, false, false, false, false] rfl rfl (any_of HT_.out (by kernel_rfl)) (fun _ _ _ h => h) (Or.inr ⟨by rfl, rfl⟩) ?_ ?_
            rotate_left
            · simp only [Act.put, List.setIfInBounds_toArray, List.set_cons_zero, List.set_cons_succ, i64_w, i32_w]
              rfl
            refine pure_ (i := 7) (N := some 38) (v := undef) (a' := ?_) #[true, true, true, true, true, true, true, true, false, false, false, false, false, false, false, false, false, false, false, false, false, false, false, false, false] rfl rfl (any_of HT_.out (by kernel_rfl)) (fun _ _ _ h => h) (Or.inr ⟨by rfl, rfl⟩) ?_ ?_
            rotate_left
            · simp only [Act.put, List.setIfInBounds_toArray, List.set_cons_zero, List.set_cons_succ, i64_w, i32_w]
              rfl
            refine pure_ (i := 8) (N := some 39) (v := undef) (a' := ?_) #[true, true, true, true, true, true, true, true, true, false, false, false, false, false, false, false, false, false, false, false, false, false, false, false, false] rfl rfl (any_of HT_.out (by kernel_rfl)) (fun _ _ _ h => h) (Or.inr ⟨by rfl, rfl⟩) ?_ ?_
            rotate_left
            · simp only [Act.put, List.setIfInBounds_toArray, List.set_cons_zero, List.set_cons_succ, i64_w, i32_w]
              rfl
            refine pure_ (i := 9) (N := some 40) (v := undef) (a' := ?_) #[true, true, true, true, true, true, true, true, true, true, false, false, false, false, false, false, false, false, false, false, false, false, false, false, false] rfl rfl (any_of HT_.out (by kernel_rfl)) (fun _ _ _ h => h) (Or.inr ⟨by rfl, rfl⟩) ?_ ?_
            rotate_left
            · simp only [Act.put, List.setIfInBounds_toArray, List.set_cons_zero, List.set_cons_succ, i64_w, i32_w]
              rfl
            refine pure_ (i := 10) (N := some 41) (v := ?_) (a' := ?_) #[true, true, true, true, true, true, true, true, true, true, true, false, false, false, false, false, false, false, false, false, false, false, false, false, false] rfl rfl (any_of HT_.out (by kernel_rfl)) (fun _ _ _ h => h) (Or.inl ⟨by rfl, ?_⟩) ?_ ?_
            rotate_left
            · intro w'
              go_simp
              with_reducible rfl
            rotate_left
            · simp only [Act.put, List.setIfInBounds_toArray, List.set_cons_zero, List.set_cons_succ, i64_w, i32_w]
              rfl
            refine pure_ (i := 11) (N := some 42) (v := ?_) (a' := ?_) #[true, true, true, true, true, true, true, true, true, true, true, true, false, false, false, false, false, false, false, false, false, false, false, false, false] rfl rfl (any_of HT_.out (by kernel_rfl)) (fun _ _ _ h => h) (Or.inl ⟨by rfl, ?_⟩) ?_ ?_
            rotate_left
            · intro w'
              go_simp
              with_reducible rfl
            rotate_left
            · simp only [Act.put, List.setIfInBounds_toArray, List.set_cons_zero, List.set_cons_succ, i64_w, i32_w]
              rfl
            refine pure_ (i := 12) (N := some 43) (v := undef) (a' := ?_) #[true, true, true, true, true, true, true, true, true, true, true, true, true, false, false, false, false, false, false, false, false, false, false, false, false] rfl rfl (any_of HT_.out (by kernel_rfl)) (fun _ _ _ h => h) (Or.inr ⟨by rfl, rfl⟩) ?_ ?_
            rotate_left
            · simp only [Act.put, List.setIfInBounds_toArray, List.set_cons_zero, List.set_cons_succ, i64_w, i32_w]
              rfl
            refine pure_ (i := 13) (N := some 44) (v := undef) (a' := ?_) #[true, true, true, true, true, true, true, true, true, true, true, true, true, true, false, false, false, false, false, false, false, false, false, false, false] rfl rfl (any_of HT_.out (by kernel_rfl)) (fun _ _ _ h => h) (Or.inr ⟨by rfl, rfl⟩) ?_ ?_
            rotate_left
            · simp only [Act.put, List.setIfInBounds_toArray, List.set_cons_zero, List.set_cons_succ, i64_w, i32_w]
              rfl
            refine pure_ (i := 14) (N := some 45) (v := undef) (a' := ?_) #[true, true, true, true, true, true, true, true, true, true, true, true, true, true, true, false, false, false, false, false, false, false, false, false, false] rfl rfl (any_of HT_.out (by kernel_rfl)) (fun _ _ _ h => h) (Or.inr ⟨by rfl, rfl⟩) ?_ ?_
            rotate_left
            · simp only [Act.put, List.setIfInBounds_toArray, List.set_cons_zero, List.set_cons_succ, i64_w, i32_w]
              rfl
            refine pure_ (i := 15) (N := some 46) (v := undef) (a' := ?_) #[true, true, true, true, true, true, true, true, true, true, true, true, true, true, true, true, false, false, false, false, false, false, false, false, false] rfl rfl (any_of HT_.out (by kernel_rfl)) (fun _ _ _ h => h) (Or.inr ⟨by rfl, rfl⟩) ?_ ?_
            rotate_left
            · simp only [Act.put, List.setIfInBounds_toArray, List.set_cons_zero, List.set_cons_succ, i64_w, i32_w]
              rfl
            refine pure_ (i := 16) (N := some 47) (v := ?_) (a' := ?_) #[true, true, true, true, true, true, true, true, true, true, true, true, true, true, true, true, true, false, false, false, false, false, false, false, false] rfl rfl (any_of HT_.out (by kernel_rfl)) (fun _ _ _ h => h) (Or.inl ⟨by rfl, ?_⟩) ?_ ?_
            rotate_left
            · intro w'
              go_simp
              with_reducible rfl
            rotate_left
            · simp only [Act.put, List.setIfInBounds_toArray, List.set_cons_zero, List.set_cons_succ, i64_w, i32_w]
              rfl
            refine pure_ (i := 17) (N := some 48) (v := ?_) (a' := ?_) #[true, true, true, true, true, true, true, true, true, true, true, true, true, true, true, true, true, true, false, false, false, false, false, false, false] rfl rfl (any_of HT_.out (by kernel_rfl)) (fun _ _ _ h => h) (Or.inl ⟨by rfl, ?_⟩) ?_ ?_
            rotate_left
            · intro w'
              go_simp
              with_reducible rfl
            rotate_left
            · simp only [Act.put, List.setIfInBounds_toArray, List.set_cons_zero, List.set_cons_succ, i64_w, i32_w]
              rfl
            refine pure_ (i := 18) (N := some 49) (v := undef) (a' := ?_) #[true, true, true, true, true, true, true, true, true, true, true, true, true, true, true, true, true, true, true, false, false, false, false, false, false] rfl rfl (any_of HT_.out (by kernel_rfl)) (fun _ _ _ h => h) (Or.inr ⟨by rfl, rfl⟩) ?_ ?_
            rotate_left
            · simp only [Act.put, List.setIfInBounds_toArray, List.set_cons_zero, List.set_cons_succ, i64_w, i32_w]
              rfl
            refine pure_ (i := 19) (N := some 50) (v := undef) (a' := ?_) #[true, true, true, true, true, true, true, true, true, true, true, true, true, true, true, true, true, true, true, true, false, false, false, false, false] rfl rfl (any_of HT_.out (by kernel_rfl)) (fun _ _ _ h => h) (Or.inr ⟨by rfl, rfl⟩) ?_ ?_
            rotate_left
            · simp only [Act.put, List.setIfInBounds_toArray, List.set_cons_zero, List.set_cons_succ, i64_w, i32_w]
              rfl
            refine pure_ (i := 20) (N := some 51) (v := undef) (a' := ?_) #[true, true, true, true, true, true, true, true, true, true, true, true, true, true, true, true, true, true, true, true, true, false, false, false, false] rfl rfl (any_of HT_.out (by kernel_rfl)) (fun _ _ _ h => h) (Or.inr ⟨by rfl, rfl⟩) ?_ ?_
            rotate_left
            · simp only [Act.put, List.setIfInBounds_toArray, List.set_cons_zero, List.set_cons_succ, i64_w, i32_w]
              rfl
            refine pure_ (i := 21) (N := some 52) (v := undef) (a' := ?_) #[true, true, true, true, true, true, true, true, true, true, true, true, true, true, true, true, true, true, true, true, true, true, false, false, false] rfl rfl (any_of HT_.out (by kernel_rfl)) (fun _ _ _ h => h) (Or.inr ⟨by rfl, rfl⟩) ?_ ?_
            rotate_left
            · simp only [Act.put, List.setIfInBounds_toArray, List.set_cons_zero, List.set_cons_succ, i64_w, i32_w]
              rfl
            refine pure_ (i := 22) (N := some 53) (v := undef) (a' := ?_) #[true, true, true, true, true, true, true, true, true, true, true, true, true, true, true, true, true, true, true, true, true, true, true, false, false] rfl rfl (any_of HT_.out (by kernel_rfl)) (fun _ _ _ h => h) (Or.inr ⟨by rfl, rfl⟩) ?_ ?_
            rotate_left
            · simp only [Act.put, List.setIfInBounds_toArray, List.set_cons_zero, List.set_cons_succ, i64_w, i32_w]
              rfl
            refine pure_ (i := 23) (N := some 54) (v := undef) (a' := ?_) #[true, true, true, true, true, true, true, true, true, true, true, true, true, true, true, true, true, true, true, true, true, true, true, true, false] rfl rfl (any_of HT_.out (by kernel_rfl)) (fun _ _ _ h => h) (Or.inr ⟨by rfl, rfl⟩) ?_ ?_
            rotate_left
            · simp only [Act.put, List.setIfInBounds_toArray, List.set_cons_zero, List.set_cons_succ, i64_w, i32_w]
              rfl
            refine pure_ (i := 24) (N := some 55) (v := ?_) (a' := ?_) #[true, true, true, true, true, true, true, true, true, true, true, true, true, true, true, true, true, true, true, true, true, true, true, true, true] rfl rfl (any_of HT_.out (by kernel_rfl)) (fun _ _ _ h => h) (Or.inl ⟨by rfl, ?_⟩) ?_ ?_
            rotate_left
            · intro w'
              go_simp
              with_reducible rfl
            rotate_left
            · simp only [Act.put, List.setIfInBounds_toArray, List.set_cons_zero, List.set_cons_succ, i64_w, i32_w]
              rfl
            refine done_ (done_of HT_.out (by kernel_rfl)) ?_
            try go_wp2
            go_meet
            case rel => exact ⟨_, (true), (by first | rfl | (simp; done) | (simp [*]; done)), H', ⟨by have := HJ2.out; first | omega | exact Nat.le_refl _⟩, ⟨by (with_reducible repeat (first | refine blk_drewN ?_ _ | refine blk_drew ?_ | refine blk_alloc ?_ _)); exact BK388.out⟩, ⟨by (with_reducible repeat (first | refine blk_drewN ?_ _ | refine blk_drew ?_ | refine blk_alloc ?_ _)); exact BK393.out⟩, ⟨zb⟩⟩
        case rest =>
          clear HC9
          try clear c1
          try clear c2
          try clear p2
          try clear c3
          try clear c11
          try clear c19
          try clear c19b0
          try clear c19b1
          try clear c23
          try clear c24
          try clear c36
          obtain ⟨kq, x55_8, rfl, HA, HJ8, BK388, BK393, HB⟩ := hcut
          cases kq with
          | zero => exact absurd HA.out (by simp [laws_FnSpanPut.j1])
          | succ kj8 =>
            have H := HA.out
            clear HA
            simp only [laws_FnSpanPut.j1] at H
            by_cases c52 : x55_8 = true
            · subst c52
              have H1 : (some false) = some r := by rw [if_pos rfl] at H; exact H
              clear H
              have H := H1
              clear H1
              obtain rfl := Option.some.inj H
              go_wp2
              go_ret
              exact ⟨by first | rfl | (simp [errW_none, errW_some] <;> rfl) | (simp [*, errW_none, errW_some] <;> rfl), zb⟩
            · replace c52 := Bool.eq_false_iff.mpr c52
              subst c52
              have H1 : ((spec_DrawSpanGet.f kj8 l1).bind fun t398 => ((impl_SpanGet.f t398).bind fun bt399 => ((spec_SpanGet.f kj8 t398).bind fun bt403 => (if (bt399.2.2 == bt403.2.2) = true then (if (bt399.1 == bt403.1 && (bt399.2.1 == bt403.2.1)) = true then (if bt399.2.2 = true then ((impl_SpanPut.f bt399.1 bt399.2.1).bind fun t407 => (some (t407.toList == t398.toList))) else (some true)) else (some false)) else (some false))))) = some r := by rw [if_neg (show ¬ (false = true) by decide)] at H; exact H
              clear H
              have H := H1
              clear H1
              replace H := Option.bind_eq_some_iff.mp H
              obtain ⟨t398, A530, H⟩ := H
              replace H : ((impl_SpanGet.f t398).bind fun bt399 => ((spec_SpanGet.f kj8 t398).bind fun bt403 => (if (bt399.2.2 == bt403.2.2) = true then (if (bt399.1 == bt403.1 && (bt399.2.1 == bt403.2.1)) = true then (if bt399.2.2 = true then ((impl_SpanPut.f bt399.1 bt399.2.1).bind fun t407 => (some (t407.toList == t398.toList))) else (some true)) else (some false)) else (some false)))) = some r := H
              have A53 := Aside0.mk A530
              clear A530
              replace H := Option.bind_eq_some_iff.mp H
              obtain ⟨⟨t399, t400, t401⟩, A540, H⟩ := H
              replace H : ((spec_SpanGet.f kj8 t398).bind fun bt403 => (if (t401 == bt403.2.2) = true then (if (t399 == bt403.1 && (t400 == bt403.2.1)) = true then (if t401 = true then ((impl_SpanPut.f t399 t400).bind fun t407 => (some (t407.toList == t398.toList))) else (some true)) else (some false)) else (some false))) = some r := H
              have A54 := Aside0.mk A540
              clear A540
              replace H := Option.bind_eq_some_iff.mp H
              obtain ⟨⟨t403, t404, t405⟩, A550, H⟩ := H
              replace H : (if (t401 == t405) = true then (if (t399 == t403 && (t400 == t404)) = true then (if t401 = true then ((impl_SpanPut.f t399 t400).bind fun t407 => (some (t407.toList == t398.toList))) else (some true)) else (some false)) else (some false)) = some r := H
              have A55 := Aside0.mk A550
              clear A550
              by_cases c56 : (t401 == t405) = true
              · rw [if_pos c56] at H
                have c56b0 : (t401 == t405) = true := c56
                (try (have c56b1 : decide (t401 = t405) = true := by simpa using c56))
                (try (have c56b2 : (t401 == t405) = true := by simpa using c56))
                clear c56
                by_cases c57 : (t399 == t403 && (t400 == t404)) = true
                · rw [if_pos c57] at H
                  have c57b0 : (t399 == t403 && (t400 == t404)) = true := c57
                  (try (have c57b1 : decide (t399 = t403 && (t400 == t404)) = true := by simpa using c57))
                  (try (have c57b2 : (t399 == t403 && (t400 == t404)) = true := by simpa using c57))
                  clear c57
                  by_cases c58 : t401 = true
                  · subst c58
                    have H1 : ((impl_SpanPut.f t399 t400).bind fun t407 => (some (t407.toList == t398.toList))) = some r := by rw [if_pos rfl] at H; exact H
                    clear H
                    have H := H1
                    clear H1
                    replace H := Option.bind_eq_some_iff.mp H
                    obtain ⟨t407, A590, H⟩ := H
                    replace H : (some (t407.toList == t398.toList)) = some r := H
                    have A59 := Aside0.mk A590
                    clear A590
                    obtain rfl := Option.some.inj H
                    go_wp2_with (first | ((with_reducible refine gate_callee (f := 25) rfl ?_); refine goesL_ (some 57) rfl rfl Tryd.func25 (by kernel_rfl) rfl #[.slice A1 l1.length c1] rfl za ?_; (with_reducible refine (spec_DrawSpanGet.calls kj8 _ _ l1 t398 _ ?side1 ?side2 A53.out).mono ?_); (case side1 => repeat (first | exact (Kd.C_below HR1.out HB.out) | (with_reducible refine Kd.C_alloc ?_ _) | (with_reducible refine Kd.C_drewN ?_ _) | (with_reducible refine Kd.C_drew ?_))); (case side2 => exact HC1.out); rintro e w60 ⟨rfl, hb⟩; refine ⟨_, rfl, ?_⟩; have n0_ := Aside0.mk (blk_below (g := gb388) (o := .cells #[.int .i64 t386, .int .i64 t387] 25 (0, 0)) (zk BK388.out) hb); have n1_ := Aside0.mk (blk_below (g := gb393) (o := .cells #[.int .i64 t390, .int .i64 t391] 25 (0, 0)) (zk BK393.out) hb); have n2_ := Aside0.mk (below_step zb hb); clear BK388; clear BK393; clear HB; have BK388 := n0_; have BK393 := n1_; have HB := n2_; clear n0_ n1_ n2_; (try clear hb); (try clear hb2); (try clear hk); (try clear hi)) | ((with_reducible refine gate_callee (f := 20) rfl ?_); refine goesL_ (some 60) rfl rfl Tryd.func20 (by kernel_rfl) rfl #[.string t398] rfl za ?_; (with_reducible refine (impl_SpanGet.calls t398 t399 t400 true _ ?side1 A54.out).mono ?_); (case side1 => exact HT.out.below zb); rintro e w61 ⟨rfl, hb⟩; refine ⟨_, rfl, ?_⟩; have n0_ := Aside0.mk (blk_below (g := gb388) (o := .cells #[.int .i64 t386, .int .i64 t387] 25 (0, 0)) (zk BK388.out) hb); have n1_ := Aside0.mk (blk_below (g := gb393) (o := .cells #[.int .i64 t390, .int .i64 t391] 25 (0, 0)) (zk BK393.out) hb); have n2_ := Aside0.mk (below_step zb hb); clear BK388; clear BK393; clear HB; have BK388 := n0_; have BK393 := n1_; have HB := n2_; clear n0_ n1_ n2_; (try clear hb); (try clear hb2); (try clear hk); (try clear hi)) | ((with_reducible refine gate_dst (N := 10) rfl ?_); (try (refine gate_guard (by rfl) ?_; dsimp only)); refine box_event ?hg (N := 10) ?hd (cs := #[.int .i64 0, .int .i64 0]) (t := 25) ?hr ?_; (case hd => rfl); (case hg => rfl); (case hr => first | (go_simp; done) | (go_simp; rfl)); intro gb402 hg w62 hbox hb; have n0_ := Aside0.mk (blk_below (g := gb388) (o := .cells #[.int .i64 t386, .int .i64 t387] 25 (0, 0)) (zk BK388.out) hb); have n1_ := Aside0.mk (blk_below (g := gb393) (o := .cells #[.int .i64 t390, .int .i64 t391] 25 (0, 0)) (zk BK393.out) hb); have n2_ := Aside0.mk (below_step zb hb); have n3_ := Aside0.mk (hbox); have n4_ := Aside0.mk ((by rw [hg]; exact (below_size zb) : w.heap.size ≤ gb402)); have n5_ := Aside0.mk ((by rw [hg]; exact (below_size zb) : w.heap.size ≤ gb402)); have n6_ := Aside0.mk ((by rw [hg]; exact Nat.ne_of_lt (blk_lt (g := gb388) (o := .cells #[.int .i64 t386, .int .i64 t387] 25 (0, 0)) (zk BK388.out)) : gb388 ≠ gb402)); have n7_ := Aside0.mk ((by rw [hg]; exact Nat.ne_of_gt (blk_lt (g := gb388) (o := .cells #[.int .i64 t386, .int .i64 t387] 25 (0, 0)) (zk BK388.out)) : gb402 ≠ gb388)); have n8_ := Aside0.mk ((by rw [hg]; exact Nat.ne_of_lt (blk_lt (g := gb393) (o := .cells #[.int .i64 t390, .int .i64 t391] 25 (0, 0)) (zk BK393.out)) : gb393 ≠ gb402)); have n9_ := Aside0.mk ((by rw [hg]; exact Nat.ne_of_gt (blk_lt (g := gb393) (o := .cells #[.int .i64 t390, .int .i64 t391] 25 (0, 0)) (zk BK393.out)) : gb402 ≠ gb393)); clear BK388; clear BK393; clear HB; have BK388 := n0_; have BK393 := n1_; have HB := n2_; have BK402 := n3_; have GW402 := n4_; have GE402 := n5_; have NB388_402 := n6_; have NB402_388 := n7_; have NB393_402 := n8_; have NB402_393 := n9_; clear n0_ n1_ n2_ n3_ n4_ n5_ n6_ n7_ n8_ n9_; clear hb hbox hg; have hnb63 := NB402_388.out; have hnc63 := NB388_402.out; have hnb64 := NB402_393.out; have hnc64 := NB393_402.out; have hcz65_0 : w62.cell? ⟨gb402, 0, none⟩ = some (.int .i64 0) := (blk_cell BK402.out 0).trans rfl; have hcz65_1 : w62.cell? ⟨gb402, 1, none⟩ = some (.int .i64 0) := (blk_cell BK402.out 1).trans rfl; have hfz65_0 := blk_frozen BK402.out 0; have hfz65_1 := blk_frozen BK402.out 1) | ((with_reducible refine gate_callee (f := 19) rfl ?_); refine goesL_ (some 65) rfl rfl Tryd.func19 (by kernel_rfl) rfl #[.string t398] rfl za ?_; (with_reducible refine (spec_SpanGet.calls kj8 t398 t403 t404 t405 _ A55.out).mono ?_); rintro e w66 ⟨rfl, hb⟩; refine ⟨_, rfl, ?_⟩; have n0_ := Aside0.mk (blk_below (g := gb388) (o := .cells #[.int .i64 t386, .int .i64 t387] 25 (0, 0)) (zk BK388.out) hb); have n1_ := Aside0.mk (blk_below (g := gb393) (o := .cells #[.int .i64 t390, .int .i64 t391] 25 (0, 0)) (zk BK393.out) hb); have n2_ := Aside0.mk (blk_below (g := gb402) (o := .cells #[.int .i64 t399, .int .i64 t400] 25 (0, 0)) (by (with_reducible repeat (first | refine blk_drewN ?_ _ | refine blk_drew ?_ | refine blk_alloc ?_ _)); refine blk_put (cs := #[.int .i64 t399, .int .i64 0]) ?_ 1 _ rfl; (with_reducible repeat (first | refine blk_drewN ?_ _ | refine blk_drew ?_ | refine blk_alloc ?_ _)); refine blk_put (cs := #[.int .i64 0, .int .i64 0]) ?_ 0 _ rfl; (with_reducible repeat (first | refine blk_drewN ?_ _ | refine blk_drew ?_ | refine blk_alloc ?_ _)); exact BK402.out) hb); have n3_ := Aside0.mk (below_step zb hb); clear BK388; clear BK393; clear BK402; clear HB; have BK388 := n0_; have BK393 := n1_; have BK402 := n2_; have HB := n3_; clear n0_ n1_ n2_ n3_; (try clear hb); (try clear hb2); (try clear hk); (try clear hi)) | ((with_reducible refine gate_dst (N := 12) rfl ?_); (try (refine gate_guard (by rfl) ?_; dsimp only)); refine box_event ?hg (N := 12) ?hd (cs := #[.int .i64 0, .int .i64 0]) (t := 25) ?hr ?_; (case hd => rfl); (case hg => rfl); (case hr => first | (go_simp; done) | (go_simp; rfl)); intro gb406 hg w67 hbox hb; have n0_ := Aside0.mk (blk_below (g := gb388) (o := .cells #[.int .i64 t386, .int .i64 t387] 25 (0, 0)) (zk BK388.out) hb); have n1_ := Aside0.mk (blk_below (g := gb393) (o := .cells #[.int .i64 t390, .int .i64 t391] 25 (0, 0)) (zk BK393.out) hb); have n2_ := Aside0.mk (blk_below (g := gb402) (o := .cells #[.int .i64 t399, .int .i64 t400] 25 (0, 0)) (zk BK402.out) hb); have n3_ := Aside0.mk (below_step zb hb); have n4_ := Aside0.mk (hbox); have n5_ := Aside0.mk ((by rw [hg]; exact (below_size zb) : w.heap.size ≤ gb406)); have n6_ := Aside0.mk ((by rw [hg]; exact (below_size zb) : w.heap.size ≤ gb406)); have n7_ := Aside0.mk ((by rw [hg]; exact Nat.ne_of_lt (blk_lt (g := gb388) (o := .cells #[.int .i64 t386, .int .i64 t387] 25 (0, 0)) (zk BK388.out)) : gb388 ≠ gb406)); have n8_ := Aside0.mk ((by rw [hg]; exact Nat.ne_of_gt (blk_lt (g := gb388) (o := .cells #[.int .i64 t386, .int .i64 t387] 25 (0, 0)) (zk BK388.out)) : gb406 ≠ gb388)); have n9_ := Aside0.mk ((by rw [hg]; exact Nat.ne_of_lt (blk_lt (g := gb393) (o := .cells #[.int .i64 t390, .int .i64 t391] 25 (0, 0)) (zk BK393.out)) : gb393 ≠ gb406)); have n10_ := Aside0.mk ((by rw [hg]; exact Nat.ne_of_gt (blk_lt (g := gb393) (o := .cells #[.int .i64 t390, .int .i64 t391] 25 (0, 0)) (zk BK393.out)) : gb406 ≠ gb393)); have n11_ := Aside0.mk ((by rw [hg]; exact Nat.ne_of_lt (blk_lt (g := gb402) (o := .cells #[.int .i64 t399, .int .i64 t400] 25 (0, 0)) (zk BK402.out)) : gb402 ≠ gb406)); have n12_ := Aside0.mk ((by rw [hg]; exact Nat.ne_of_gt (blk_lt (g := gb402) (o := .cells #[.int .i64 t399, .int .i64 t400] 25 (0, 0)) (zk BK402.out)) : gb406 ≠ gb402)); clear BK388; clear BK393; clear BK402; clear HB; have BK388 := n0_; have BK393 := n1_; have BK402 := n2_; have HB := n3_; have BK406 := n4_; have GW406 := n5_; have GE406 := n6_; have NB388_406 := n7_; have NB406_388 := n8_; have NB393_406 := n9_; have NB406_393 := n10_; have NB402_406 := n11_; have NB406_402 := n12_; clear n0_ n1_ n2_ n3_ n4_ n5_ n6_ n7_ n8_ n9_ n10_ n11_ n12_; clear hb hbox hg; have hnb68 := NB406_388.out; have hnc68 := NB388_406.out; have hnb69 := NB406_393.out; have hnc69 := NB393_406.out; have hnb70 := NB406_402.out; have hnc70 := NB402_406.out; have hcz71_0 : w67.cell? ⟨gb406, 0, none⟩ = some (.int .i64 0) := (blk_cell BK406.out 0).trans rfl; have hcz71_1 : w67.cell? ⟨gb406, 1, none⟩ = some (.int .i64 0) := (blk_cell BK406.out 1).trans rfl; have hfz71_0 := blk_frozen BK406.out 0; have hfz71_1 := blk_frozen BK406.out 1; have hcz72_0 : w67.cell? ⟨gb402, 0, none⟩ = some (.int .i64 t399) := (blk_cell BK402.out 0).trans rfl; have hcz72_1 : w67.cell? ⟨gb402, 1, none⟩ = some (.int .i64 t400) := (blk_cell BK402.out 1).trans rfl; have hfz72_0 := blk_frozen BK402.out 0; have hfz72_1 := blk_frozen BK402.out 1) | (go_at_call 13; (with_reducible refine (impl_SpanPut.calls t399 t400 t407 _ ?side1 A59.out).mono ?_); (case side1 => exact HT.out.toI.below zb); rintro e w73 ⟨rfl, hb⟩; have n0_ := Aside0.mk (blk_below (g := gb388) (o := .cells #[.int .i64 t386, .int .i64 t387] 25 (0, 0)) (zk BK388.out) hb); have n1_ := Aside0.mk (blk_below (g := gb393) (o := .cells #[.int .i64 t390, .int .i64 t391] 25 (0, 0)) (zk BK393.out) hb); have n2_ := Aside0.mk (blk_below (g := gb402) (o := .cells #[.int .i64 t399, .int .i64 t400] 25 (0, 0)) (zk BK402.out) hb); have n3_ := Aside0.mk (blk_below (g := gb406) (o := .cells #[.int .i64 t403, .int .i64 t404] 25 (0, 0)) (by (with_reducible repeat (first | refine blk_drewN ?_ _ | refine blk_drew ?_ | refine blk_alloc ?_ _)); refine blk_put (cs := #[.int .i64 t403, .int .i64 0]) ?_ 1 _ rfl; (with_reducible repeat (first | refine blk_drewN ?_ _ | refine blk_drew ?_ | refine blk_alloc ?_ _)); refine blk_put (cs := #[.int .i64 0, .int .i64 0]) ?_ 0 _ rfl; (with_reducible repeat (first | refine blk_drewN ?_ _ | refine blk_drew ?_ | refine blk_alloc ?_ _)); exact BK406.out) hb); have n4_ := Aside0.mk (below_step zb hb); clear BK388; clear BK393; clear BK402; clear BK406; clear HB; have BK388 := n0_; have BK393 := n1_; have BK402 := n2_; have BK406 := n3_; have HB := n4_; clear n0_ n1_ n2_ n3_ n4_; (try clear hb); (try clear hb2); (try clear hk); (try clear hi)))
                    go_ret
                    exact ⟨by first | rfl | (simp [errW_none, errW_some] <;> rfl) | (simp [*, errW_none, errW_some] <;> rfl), zb⟩
                  · replace c58 := Bool.eq_false_iff.mpr c58
                    subst c58
                    have H1 : (some true) = some r := by rw [if_neg (show ¬ (false = true) by decide)] at H; exact H
                    clear H
                    have H := H1
                    clear H1
                    obtain rfl := Option.some.inj H
                    go_wp2_with (first | ((with_reducible refine gate_callee (f := 25) rfl ?_); refine goesL_ (some 57) rfl rfl Tryd.func25 (by kernel_rfl) rfl #[.slice A1 l1.length c1] rfl za ?_; (with_reducible refine (spec_DrawSpanGet.calls kj8 _ _ l1 t398 _ ?side1 ?side2 A53.out).mono ?_); (case side1 => repeat (first | exact (Kd.C_below HR1.out HB.out) | (with_reducible refine Kd.C_alloc ?_ _) | (with_reducible refine Kd.C_drewN ?_ _) | (with_reducible refine Kd.C_drew ?_))); (case side2 => exact HC1.out); rintro e w74 ⟨rfl, hb⟩; refine ⟨_, rfl, ?_⟩; have n0_ := Aside0.mk (blk_below (g := gb388) (o := .cells #[.int .i64 t386, .int .i64 t387] 25 (0, 0)) (zk BK388.out) hb); have n1_ := Aside0.mk (blk_below (g := gb393) (o := .cells #[.int .i64 t390, .int .i64 t391] 25 (0, 0)) (zk BK393.out) hb); have n2_ := Aside0.mk (below_step zb hb); clear BK388; clear BK393; clear HB; have BK388 := n0_; have BK393 := n1_; have HB := n2_; clear n0_ n1_ n2_; (try clear hb); (try clear hb2); (try clear hk); (try clear hi)) | ((with_reducible refine gate_callee (f := 20) rfl ?_); refine goesL_ (some 60) rfl rfl Tryd.func20 (by kernel_rfl) rfl #[.string t398] rfl za ?_; (with_reducible refine (impl_SpanGet.calls t398 t399 t400 false _ ?side1 A54.out).mono ?_); (case side1 => exact HT.out.below zb); rintro e w75 ⟨rfl, hb⟩; refine ⟨_, rfl, ?_⟩; have n0_ := Aside0.mk (blk_below (g := gb388) (o := .cells #[.int .i64 t386, .int .i64 t387] 25 (0, 0)) (zk BK388.out) hb); have n1_ := Aside0.mk (blk_below (g := gb393) (o := .cells #[.int .i64 t390, .int .i64 t391] 25 (0, 0)) (zk BK393.out) hb); have n2_ := Aside0.mk (below_step zb hb); clear BK388; clear BK393; clear HB; have BK388 := n0_; have BK393 := n1_; have HB := n2_; clear n0_ n1_ n2_; (try clear hb); (try clear hb2); (try clear hk); (try clear hi)) | ((with_reducible refine gate_dst (N := 10) rfl ?_); (try (refine gate_guard (by rfl) ?_; dsimp only)); refine box_event ?hg (N := 10) ?hd (cs := #[.int .i64 0, .int .i64 0]) (t := 25) ?hr ?_; (case hd => rfl); (case hg => rfl); (case hr => first | (go_simp; done) | (go_simp; rfl)); intro gb402 hg w76 hbox hb; have n0_ := Aside0.mk (blk_below (g := gb388) (o := .cells #[.int .i64 t386, .int .i64 t387] 25 (0, 0)) (zk BK388.out) hb); have n1_ := Aside0.mk (blk_below (g := gb393) (o := .cells #[.int .i64 t390, .int .i64 t391] 25 (0, 0)) (zk BK393.out) hb); have n2_ := Aside0.mk (below_step zb hb); have n3_ := Aside0.mk (hbox); have n4_ := Aside0.mk ((by rw [hg]; exact (below_size zb) : w.heap.size ≤ gb402)); have n5_ := Aside0.mk ((by rw [hg]; exact (below_size zb) : w.heap.size ≤ gb402)); have n6_ := Aside0.mk ((by rw [hg]; exact Nat.ne_of_lt (blk_lt (g := gb388) (o := .cells #[.int .i64 t386, .int .i64 t387] 25 (0, 0)) (zk BK388.out)) : gb388 ≠ gb402)); have n7_ := Aside0.mk ((by rw [hg]; exact Nat.ne_of_gt (blk_lt (g := gb388) (o := .cells #[.int .i64 t386, .int .i64 t387] 25 (0, 0)) (zk BK388.out)) : gb402 ≠ gb388)); have n8_ := Aside0.mk ((by rw [hg]; exact Nat.ne_of_lt (blk_lt (g := gb393) (o := .cells #[.int .i64 t390, .int .i64 t391] 25 (0, 0)) (zk BK393.out)) : gb393 ≠ gb402)); have n9_ := Aside0.mk ((by rw [hg]; exact Nat.ne_of_gt (blk_lt (g := gb393) (o := .cells #[.int .i64 t390, .int .i64 t391] 25 (0, 0)) (zk BK393.out)) : gb402 ≠ gb393)); clear BK388; clear BK393; clear HB; have BK388 := n0_; have BK393 := n1_; have HB := n2_; have BK402 := n3_; have GW402 := n4_; have GE402 := n5_; have NB388_402 := n6_; have NB402_388 := n7_; have NB393_402 := n8_; have NB402_393 := n9_; clear n0_ n1_ n2_ n3_ n4_ n5_ n6_ n7_ n8_ n9_; clear hb hbox hg; have hnb77 := NB402_388.out; have hnc77 := NB388_402.out; have hnb78 := NB402_393.out; have hnc78 := NB393_402.out; have hcz79_0 : w76.cell? ⟨gb402, 0, none⟩ = some (.int .i64 0) := (blk_cell BK402.out 0).trans rfl; have hcz79_1 : w76.cell? ⟨gb402, 1, none⟩ = some (.int .i64 0) := (blk_cell BK402.out 1).trans rfl; have hfz79_0 := blk_frozen BK402.out 0; have hfz79_1 := blk_frozen BK402.out 1) | ((with_reducible refine gate_callee (f := 19) rfl ?_); refine goesL_ (some 65) rfl rfl Tryd.func19 (by kernel_rfl) rfl #[.string t398] rfl za ?_; (with_reducible refine (spec_SpanGet.calls kj8 t398 t403 t404 t405 _ A55.out).mono ?_); rintro e w80 ⟨rfl, hb⟩; refine ⟨_, rfl, ?_⟩; have n0_ := Aside0.mk (blk_below (g := gb388) (o := .cells #[.int .i64 t386, .int .i64 t387] 25 (0, 0)) (zk BK388.out) hb); have n1_ := Aside0.mk (blk_below (g := gb393) (o := .cells #[.int .i64 t390, .int .i64 t391] 25 (0, 0)) (zk BK393.out) hb); have n2_ := Aside0.mk (blk_below (g := gb402) (o := .cells #[.int .i64 t399, .int .i64 t400] 25 (0, 0)) (by (with_reducible repeat (first | refine blk_drewN ?_ _ | refine blk_drew ?_ | refine blk_alloc ?_ _)); refine blk_put (cs := #[.int .i64 t399, .int .i64 0]) ?_ 1 _ rfl; (with_reducible repeat (first | refine blk_drewN ?_ _ | refine blk_drew ?_ | refine blk_alloc ?_ _)); refine blk_put (cs := #[.int .i64 0, .int .i64 0]) ?_ 0 _ rfl; (with_reducible repeat (first | refine blk_drewN ?_ _ | refine blk_drew ?_ | refine blk_alloc ?_ _)); exact BK402.out) hb); have n3_ := Aside0.mk (below_step zb hb); clear BK388; clear BK393; clear BK402; clear HB; have BK388 := n0_; have BK393 := n1_; have BK402 := n2_; have HB := n3_; clear n0_ n1_ n2_ n3_; (try clear hb); (try clear hb2); (try clear hk); (try clear hi)) | ((with_reducible refine gate_dst (N := 12) rfl ?_); (try (refine gate_guard (by rfl) ?_; dsimp only)); refine box_event ?hg (N := 12) ?hd (cs := #[.int .i64 0, .int .i64 0]) (t := 25) ?hr ?_; (case hd => rfl); (case hg => rfl); (case hr => first | (go_simp; done) | (go_simp; rfl)); intro gb406 hg w81 hbox hb; have n0_ := Aside0.mk (blk_below (g := gb388) (o := .cells #[.int .i64 t386, .int .i64 t387] 25 (0, 0)) (zk BK388.out) hb); have n1_ := Aside0.mk (blk_below (g := gb393) (o := .cells #[.int .i64 t390, .int .i64 t391] 25 (0, 0)) (zk BK393.out) hb); have n2_ := Aside0.mk (blk_below (g := gb402) (o := .cells #[.int .i64 t399, .int .i64 t400] 25 (0, 0)) (zk BK402.out) hb); have n3_ := Aside0.mk (below_step zb hb); have n4_ := Aside0.mk (hbox); have n5_ := Aside0.mk ((by rw [hg]; exact (below_size zb) : w.heap.size ≤ gb406)); have n6_ := Aside0.mk ((by rw [hg]; exact (below_size zb) : w.heap.size ≤ gb406)); have n7_ := Aside0.mk ((by rw [hg]; exact Nat.ne_of_lt (blk_lt (g := gb388) (o := .cells #[.int .i64 t386, .int .i64 t387] 25 (0, 0)) (zk BK388.out)) : gb388 ≠ gb406)); have n8_ := Aside0.mk ((by rw [hg]; exact Nat.ne_of_gt (blk_lt (g := gb388) (o := .cells #[.int .i64 t386, .int .i64 t387] 25 (0, 0)) (zk BK388.out)) : gb406 ≠ gb388)); have n9_ := Aside0.mk ((by rw [hg]; exact Nat.ne_of_lt (blk_lt (g := gb393) (o := .cells #[.int .i64 t390, .int .i64 t391] 25 (0, 0)) (zk BK393.out)) : gb393 ≠ gb406)); have n10_ := Aside0.mk ((by rw [hg]; exact Nat.ne_of_gt (blk_lt (g := gb393) (o := .cells #[.int .i64 t390, .int .i64 t391] 25 (0, 0)) (zk BK393.out)) : gb406 ≠ gb393)); have n11_ := Aside0.mk ((by rw [hg]; exact Nat.ne_of_lt (blk_lt (g := gb402) (o := .cells #[.int .i64 t399, .int .i64 t400] 25 (0, 0)) (zk BK402.out)) : gb402 ≠ gb406)); have n12_ := Aside0.mk ((by rw [hg]; exact Nat.ne_of_gt (blk_lt (g := gb402) (o := .cells #[.int .i64 t399, .int .i64 t400] 25 (0, 0)) (zk BK402.out)) : gb406 ≠ gb402)); clear BK388; clear BK393; clear BK402; clear HB; have BK388 := n0_; have BK393 := n1_; have BK402 := n2_; have HB := n3_; have BK406 := n4_; have GW406 := n5_; have GE406 := n6_; have NB388_406 := n7_; have NB406_388 := n8_; have NB393_406 := n9_; have NB406_393 := n10_; have NB402_406 := n11_; have NB406_402 := n12_; clear n0_ n1_ n2_ n3_ n4_ n5_ n6_ n7_ n8_ n9_ n10_ n11_ n12_; clear hb hbox hg; have hnb82 := NB406_388.out; have hnc82 := NB388_406.out; have hnb83 := NB406_393.out; have hnc83 := NB393_406.out; have hnb84 := NB406_402.out; have hnc84 := NB402_406.out; have hcz85_0 : w81.cell? ⟨gb406, 0, none⟩ = some (.int .i64 0) := (blk_cell BK406.out 0).trans rfl; have hcz85_1 : w81.cell? ⟨gb406, 1, none⟩ = some (.int .i64 0) := (blk_cell BK406.out 1).trans rfl; have hfz85_0 := blk_frozen BK406.out 0; have hfz85_1 := blk_frozen BK406.out 1; have hcz86_0 : w81.cell? ⟨gb402, 0, none⟩ = some (.int .i64 t399) := (blk_cell BK402.out 0).trans rfl; have hcz86_1 : w81.cell? ⟨gb402, 1, none⟩ = some (.int .i64 t400) := (blk_cell BK402.out 1).trans rfl; have hfz86_0 := blk_frozen BK402.out 0; have hfz86_1 := blk_frozen BK402.out 1))
                    go_ret
                    exact ⟨by first | rfl | (simp [errW_none, errW_some] <;> rfl) | (simp [*, errW_none, errW_some] <;> rfl), zb⟩
                · rw [if_neg c57] at H
                  have c57b0 : (t399 == t403 && (t400 == t404)) = false := by simpa using c57
                  (try (have c57b1 : decide (t399 = t403 && (t400 == t404)) = false := by simpa using c57))
                  (try (have c57b2 : (t399 == t403 && (t400 == t404)) = false := by simpa using c57))
                  (try (have c57b3 : ¬ (t399 = t403 && (t400 == t404)) := by simpa using c57))
                  clear c57
                  obtain rfl := Option.some.inj H
                  go_wp2_with (first | ((with_reducible refine gate_callee (f := 25) rfl ?_); refine goesL_ (some 57) rfl rfl Tryd.func25 (by kernel_rfl) rfl #[.slice A1 l1.length c1] rfl za ?_; (with_reducible refine (spec_DrawSpanGet.calls kj8 _ _ l1 t398 _ ?side1 ?side2 A53.out).mono ?_); (case side1 => repeat (first | exact (Kd.C_below HR1.out HB.out) | (with_reducible refine Kd.C_alloc ?_ _) | (with_reducible refine Kd.C_drewN ?_ _) | (with_reducible refine Kd.C_drew ?_))); (case side2 => exact HC1.out); rintro e w87 ⟨rfl, hb⟩; refine ⟨_, rfl, ?_⟩; have n0_ := Aside0.mk (blk_below (g := gb388) (o := .cells #[.int .i64 t386, .int .i64 t387] 25 (0, 0)) (zk BK388.out) hb); have n1_ := Aside0.mk (blk_below (g := gb393) (o := .cells #[.int .i64 t390, .int .i64 t391] 25 (0, 0)) (zk BK393.out) hb); have n2_ := Aside0.mk (below_step zb hb); clear BK388; clear BK393; clear HB; have BK388 := n0_; have BK393 := n1_; have HB := n2_; clear n0_ n1_ n2_; (try clear hb); (try clear hb2); (try clear hk); (try clear hi)) | ((with_reducible refine gate_callee (f := 20) rfl ?_); refine goesL_ (some 60) rfl rfl Tryd.func20 (by kernel_rfl) rfl #[.string t398] rfl za ?_; (with_reducible refine (impl_SpanGet.calls t398 t399 t400 t401 _ ?side1 A54.out).mono ?_); (case side1 => exact HT.out.below zb); rintro e w88 ⟨rfl, hb⟩; refine ⟨_, rfl, ?_⟩; have n0_ := Aside0.mk (blk_below (g := gb388) (o := .cells #[.int .i64 t386, .int .i64 t387] 25 (0, 0)) (zk BK388.out) hb); have n1_ := Aside0.mk (blk_below (g := gb393) (o := .cells #[.int .i64 t390, .int .i64 t391] 25 (0, 0)) (zk BK393.out) hb); have n2_ := Aside0.mk (below_step zb hb); clear BK388; clear BK393; clear HB; have BK388 := n0_; have BK393 := n1_; have HB := n2_; clear n0_ n1_ n2_; (try clear hb); (try clear hb2); (try clear hk); (try clear hi)) | ((with_reducible refine gate_dst (N := 10) rfl ?_); (try (refine gate_guard (by rfl) ?_; dsimp only)); refine box_event ?hg (N := 10) ?hd (cs := #[.int .i64 0, .int .i64 0]) (t := 25) ?hr ?_; (case hd => rfl); (case hg => rfl); (case hr => first | (go_simp; done) | (go_simp; rfl)); intro gb402 hg w89 hbox hb; have n0_ := Aside0.mk (blk_below (g := gb388) (o := .cells #[.int .i64 t386, .int .i64 t387] 25 (0, 0)) (zk BK388.out) hb); have n1_ := Aside0.mk (blk_below (g := gb393) (o := .cells #[.int .i64 t390, .int .i64 t391] 25 (0, 0)) (zk BK393.out) hb); have n2_ := Aside0.mk (below_step zb hb); have n3_ := Aside0.mk (hbox); have n4_ := Aside0.mk ((by rw [hg]; exact (below_size zb) : w.heap.size ≤ gb402)); have n5_ := Aside0.mk ((by rw [hg]; exact (below_size zb) : w.heap.size ≤ gb402)); have n6_ := Aside0.mk ((by rw [hg]; exact Nat.ne_of_lt (blk_lt (g := gb388) (o := .cells #[.int .i64 t386, .int .i64 t387] 25 (0, 0)) (zk BK388.out)) : gb388 ≠ gb402)); have n7_ := Aside0.mk ((by rw [hg]; exact Nat.ne_of_gt (blk_lt (g := gb388) (o := .cells #[.int .i64 t386, .int .i64 t387] 25 (0, 0)) (zk BK388.out)) : gb402 ≠ gb388)); have n8_ := Aside0.mk ((by rw [hg]; exact Nat.ne_of_lt (blk_lt (g := gb393) (o := .cells #[.int .i64 t390, .int .i64 t391] 25 (0, 0)) (zk BK393.out)) : gb393 ≠ gb402)); have n9_ := Aside0.mk ((by rw [hg]; exact Nat.ne_of_gt (blk_lt (g := gb393) (o := .cells #[.int .i64 t390, .int .i64 t391] 25 (0, 0)) (zk BK393.out)) : gb402 ≠ gb393)); clear BK388; clear BK393; clear HB; have BK388 := n0_; have BK393 := n1_; have HB := n2_; have BK402 := n3_; have GW402 := n4_; have GE402 := n5_; have NB388_402 := n6_; have NB402_388 := n7_; have NB393_402 := n8_; have NB402_393 := n9_; clear n0_ n1_ n2_ n3_ n4_ n5_ n6_ n7_ n8_ n9_; clear hb hbox hg; have hnb90 := NB402_388.out; have hnc90 := NB388_402.out; have hnb91 := NB402_393.out; have hnc91 := NB393_402.out; have hcz92_0 : w89.cell? ⟨gb402, 0, none⟩ = some (.int .i64 0) := (blk_cell BK402.out 0).trans rfl; have hcz92_1 : w89.cell? ⟨gb402, 1, none⟩ = some (.int .i64 0) := (blk_cell BK402.out 1).trans rfl; have hfz92_0 := blk_frozen BK402.out 0; have hfz92_1 := blk_frozen BK402.out 1) | ((with_reducible refine gate_callee (f := 19) rfl ?_); refine goesL_ (some 65) rfl rfl Tryd.func19 (by kernel_rfl) rfl #[.string t398] rfl za ?_; (with_reducible refine (spec_SpanGet.calls kj8 t398 t403 t404 t405 _ A55.out).mono ?_); rintro e w93 ⟨rfl, hb⟩; refine ⟨_, rfl, ?_⟩; have n0_ := Aside0.mk (blk_below (g := gb388) (o := .cells #[.int .i64 t386, .int .i64 t387] 25 (0, 0)) (zk BK388.out) hb); have n1_ := Aside0.mk (blk_below (g := gb393) (o := .cells #[.int .i64 t390, .int .i64 t391] 25 (0, 0)) (zk BK393.out) hb); have n2_ := Aside0.mk (blk_below (g := gb402) (o := .cells #[.int .i64 t399, .int .i64 t400] 25 (0, 0)) (by (with_reducible repeat (first | refine blk_drewN ?_ _ | refine blk_drew ?_ | refine blk_alloc ?_ _)); refine blk_put (cs := #[.int .i64 t399, .int .i64 0]) ?_ 1 _ rfl; (with_reducible repeat (first | refine blk_drewN ?_ _ | refine blk_drew ?_ | refine blk_alloc ?_ _)); refine blk_put (cs := #[.int .i64 0, .int .i64 0]) ?_ 0 _ rfl; (with_reducible repeat (first | refine blk_drewN ?_ _ | refine blk_drew ?_ | refine blk_alloc ?_ _)); exact BK402.out) hb); have n3_ := Aside0.mk (below_step zb hb); clear BK388; clear BK393; clear BK402; clear HB; have BK388 := n0_; have BK393 := n1_; have BK402 := n2_; have HB := n3_; clear n0_ n1_ n2_ n3_; (try clear hb); (try clear hb2); (try clear hk); (try clear hi)) | ((with_reducible refine gate_dst (N := 12) rfl ?_); (try (refine gate_guard (by rfl) ?_; dsimp only)); refine box_event ?hg (N := 12) ?hd (cs := #[.int .i64 0, .int .i64 0]) (t := 25) ?hr ?_; (case hd => rfl); (case hg => rfl); (case hr => first | (go_simp; done) | (go_simp; rfl)); intro gb406 hg w94 hbox hb; have n0_ := Aside0.mk (blk_below (g := gb388) (o := .cells #[.int .i64 t386, .int .i64 t387] 25 (0, 0)) (zk BK388.out) hb); have n1_ := Aside0.mk (blk_below (g := gb393) (o := .cells #[.int .i64 t390, .int .i64 t391] 25 (0, 0)) (zk BK393.out) hb); have n2_ := Aside0.mk (blk_below (g := gb402) (o := .cells #[.int .i64 t399, .int .i64 t400] 25 (0, 0)) (zk BK402.out) hb); have n3_ := Aside0.mk (below_step zb hb); have n4_ := Aside0.mk (hbox); have n5_ := Aside0.mk ((by rw [hg]; exact (below_size zb) : w.heap.size ≤ gb406)); have n6_ := Aside0.mk ((by rw [hg]; exact (below_size zb) : w.heap.size ≤ gb406)); have n7_ := Aside0.mk ((by rw [hg]; exact Nat.ne_of_lt (blk_lt (g := gb388) (o := .cells #[.int .i64 t386, .int .i64 t387] 25 (0, 0)) (zk BK388.out)) : gb388 ≠ gb406)); have n8_ := Aside0.mk ((by rw [hg]; exact Nat.ne_of_gt (blk_lt (g := gb388) (o := .cells #[.int .i64 t386, .int .i64 t387] 25 (0, 0)) (zk BK388.out)) : gb406 ≠ gb388)); have n9_ := Aside0.mk ((by rw [hg]; exact Nat.ne_of_lt (blk_lt (g := gb393) (o := .cells #[.int .i64 t390, .int .i64 t391] 25 (0, 0)) (zk BK393.out)) : gb393 ≠ gb406)); have n10_ := Aside0.mk ((by rw [hg]; exact Nat.ne_of_gt (blk_lt (g := gb393) (o := .cells #[.int .i64 t390, .int .i64 t391] 25 (0, 0)) (zk BK393.out)) : gb406 ≠ gb393)); have n11_ := Aside0.mk ((by rw [hg]; exact Nat.ne_of_lt (blk_lt (g := gb402) (o := .cells #[.int .i64 t399, .int .i64 t400] 25 (0, 0)) (zk BK402.out)) : gb402 ≠ gb406)); have n12_ := Aside0.mk ((by rw [hg]; exact Nat.ne_of_gt (blk_lt (g := gb402) (o := .cells #[.int .i64 t399, .int .i64 t400] 25 (0, 0)) (zk BK402.out)) : gb406 ≠ gb402)); clear BK388; clear BK393; clear BK402; clear HB; have BK388 := n0_; have BK393 := n1_; have BK402 := n2_; have HB := n3_; have BK406 := n4_; have GW406 := n5_; have GE406 := n6_; have NB388_406 := n7_; have NB406_388 := n8_; have NB393_406 := n9_; have NB406_393 := n10_; have NB402_406 := n11_; have NB406_402 := n12_; clear n0_ n1_ n2_ n3_ n4_ n5_ n6_ n7_ n8_ n9_ n10_ n11_ n12_; clear hb hbox hg; have hnb95 := NB406_388.out; have hnc95 := NB388_406.out; have hnb96 := NB406_393.out; have hnc96 := NB393_406.out; have hnb97 := NB406_402.out; have hnc97 := NB402_406.out; have hcz98_0 : w94.cell? ⟨gb406, 0, none⟩ = some (.int .i64 0) := (blk_cell BK406.out 0).trans rfl; have hcz98_1 : w94.cell? ⟨gb406, 1, none⟩ = some (.int .i64 0) := (blk_cell BK406.out 1).trans rfl; have hfz98_0 := blk_frozen BK406.out 0; have hfz98_1 := blk_frozen BK406.out 1; have hcz99_0 : w94.cell? ⟨gb402, 0, none⟩ = some (.int .i64 t399) := (blk_cell BK402.out 0).trans rfl; have hcz99_1 : w94.cell? ⟨gb402, 1, none⟩ = some (.int .i64 t400) := (blk_cell BK402.out 1).trans rfl; have hfz99_0 := blk_frozen BK402.out 0; have hfz99_1 := blk_frozen BK402.out 1))
                  go_ret
                  exact ⟨by first | rfl | (simp [errW_none, errW_some] <;> rfl) | (simp [*, errW_none, errW_some] <;> rfl), zb⟩
              · rw [if_neg c56] at H
                have c56b0 : (t401 == t405) = false := by simpa using c56
                (try (have c56b1 : decide (t401 = t405) = false := by simpa using c56))
                (try (have c56b2 : (t401 == t405) = false := by simpa using c56))
                (try (have c56b3 : ¬ (t401 = t405) := by simpa using c56))
                clear c56
                obtain rfl := Option.some.inj H
                go_wp2_with (first | ((with_reducible refine gate_callee (f := 25) rfl ?_); refine goesL_ (some 57) rfl rfl Tryd.func25 (by kernel_rfl) rfl #[.slice A1 l1.length c1] rfl za ?_; (with_reducible refine (spec_DrawSpanGet.calls kj8 _ _ l1 t398 _ ?side1 ?side2 A53.out).mono ?_); (case side1 => repeat (first | exact (Kd.C_below HR1.out HB.out) | (with_reducible refine Kd.C_alloc ?_ _) | (with_reducible refine Kd.C_drewN ?_ _) | (with_reducible refine Kd.C_drew ?_))); (case side2 => exact HC1.out); rintro e w100 ⟨rfl, hb⟩; refine ⟨_, rfl, ?_⟩; have n0_ := Aside0.mk (blk_below (g := gb388) (o := .cells #[.int .i64 t386, .int .i64 t387] 25 (0, 0)) (zk BK388.out) hb); have n1_ := Aside0.mk (blk_below (g := gb393) (o := .cells #[.int .i64 t390, .int .i64 t391] 25 (0, 0)) (zk BK393.out) hb); have n2_ := Aside0.mk (below_step zb hb); clear BK388; clear BK393; clear HB; have BK388 := n0_; have BK393 := n1_; have HB := n2_; clear n0_ n1_ n2_; (try clear hb); (try clear hb2); (try clear hk); (try clear hi)) | ((with_reducible refine gate_callee (f := 20) rfl ?_); refine goesL_ (some 60) rfl rfl Tryd.func20 (by kernel_rfl) rfl #[.string t398] rfl za ?_; (with_reducible refine (impl_SpanGet.calls t398 t399 t400 t401 _ ?side1 A54.out).mono ?_); (case side1 => exact HT.out.below zb); rintro e w101 ⟨rfl, hb⟩; refine ⟨_, rfl, ?_⟩; have n0_ := Aside0.mk (blk_below (g := gb388) (o := .cells #[.int .i64 t386, .int .i64 t387] 25 (0, 0)) (zk BK388.out) hb); have n1_ := Aside0.mk (blk_below (g := gb393) (o := .cells #[.int .i64 t390, .int .i64 t391] 25 (0, 0)) (zk BK393.out) hb); have n2_ := Aside0.mk (below_step zb hb); clear BK388; clear BK393; clear HB; have BK388 := n0_; have BK393 := n1_; have HB := n2_; clear n0_ n1_ n2_; (try clear hb); (try clear hb2); (try clear hk); (try clear hi)) | ((with_reducible refine gate_dst (N := 10) rfl ?_); (try (refine gate_guard (by rfl) ?_; dsimp only)); refine box_event ?hg (N := 10) ?hd (cs := #[.int .i64 0, .int .i64 0]) (t := 25) ?hr ?_; (case hd => rfl); (case hg => rfl); (case hr => first | (go_simp; done) | (go_simp; rfl)); intro gb402 hg w102 hbox hb; have n0_ := Aside0.mk (blk_below (g := gb388) (o := .cells #[.int .i64 t386, .int .i64 t387] 25 (0, 0)) (zk BK388.out) hb); have n1_ := Aside0.mk (blk_below (g := gb393) (o := .cells #[.int .i64 t390, .int .i64 t391] 25 (0, 0)) (zk BK393.out) hb); have n2_ := Aside0.mk (below_step zb hb); have n3_ := Aside0.mk (hbox); have n4_ := Aside0.mk ((by rw [hg]; exact (below_size zb) : w.heap.size ≤ gb402)); have n5_ := Aside0.mk ((by rw [hg]; exact (below_size zb) : w.heap.size ≤ gb402)); have n6_ := Aside0.mk ((by rw [hg]; exact Nat.ne_of_lt (blk_lt (g := gb388) (o := .cells #[.int .i64 t386, .int .i64 t387] 25 (0, 0)) (zk BK388.out)) : gb388 ≠ gb402)); have n7_ := Aside0.mk ((by rw [hg]; exact Nat.ne_of_gt (blk_lt (g := gb388) (o := .cells #[.int .i64 t386, .int .i64 t387] 25 (0, 0)) (zk BK388.out)) : gb402 ≠ gb388)); have n8_ := Aside0.mk ((by rw [hg]; exact Nat.ne_of_lt (blk_lt (g := gb393) (o := .cells #[.int .i64 t390, .int .i64 t391] 25 (0, 0)) (zk BK393.out)) : gb393 ≠ gb402)); have n9_ := Aside0.mk ((by rw [hg]; exact Nat.ne_of_gt (blk_lt (g := gb393) (o := .cells #[.int .i64 t390, .int .i64 t391] 25 (0, 0)) (zk BK393.out)) : gb402 ≠ gb393)); clear BK388; clear BK393; clear HB; have BK388 := n0_; have BK393 := n1_; have HB := n2_; have BK402 := n3_; have GW402 := n4_; have GE402 := n5_; have NB388_402 := n6_; have NB402_388 := n7_; have NB393_402 := n8_; have NB402_393 := n9_; clear n0_ n1_ n2_ n3_ n4_ n5_ n6_ n7_ n8_ n9_; clear hb hbox hg; have hnb103 := NB402_388.out; have hnc103 := NB388_402.out; have hnb104 := NB402_393.out; have hnc104 := NB393_402.out; have hcz105_0 : w102.cell? ⟨gb402, 0, none⟩ = some (.int .i64 0) := (blk_cell BK402.out 0).trans rfl; have hcz105_1 : w102.cell? ⟨gb402, 1, none⟩ = some (.int .i64 0) := (blk_cell BK402.out 1).trans rfl; have hfz105_0 := blk_frozen BK402.out 0; have hfz105_1 := blk_frozen BK402.out 1) | ((with_reducible refine gate_callee (f := 19) rfl ?_); refine goesL_ (some 65) rfl rfl Tryd.func19 (by kernel_rfl) rfl #[.string t398] rfl za ?_; (with_reducible refine (spec_SpanGet.calls kj8 t398 t403 t404 t405 _ A55.out).mono ?_); rintro e w106 ⟨rfl, hb⟩; refine ⟨_, rfl, ?_⟩; have n0_ := Aside0.mk (blk_below (g := gb388) (o := .cells #[.int .i64 t386, .int .i64 t387] 25 (0, 0)) (zk BK388.out) hb); have n1_ := Aside0.mk (blk_below (g := gb393) (o := .cells #[.int .i64 t390, .int .i64 t391] 25 (0, 0)) (zk BK393.out) hb); have n2_ := Aside0.mk (blk_below (g := gb402) (o := .cells #[.int .i64 t399, .int .i64 t400] 25 (0, 0)) (by (with_reducible repeat (first | refine blk_drewN ?_ _ | refine blk_drew ?_ | refine blk_alloc ?_ _)); refine blk_put (cs := #[.int .i64 t399, .int .i64 0]) ?_ 1 _ rfl; (with_reducible repeat (first | refine blk_drewN ?_ _ | refine blk_drew ?_ | refine blk_alloc ?_ _)); refine blk_put (cs := #[.int .i64 0, .int .i64 0]) ?_ 0 _ rfl; (with_reducible repeat (first | refine blk_drewN ?_ _ | refine blk_drew ?_ | refine blk_alloc ?_ _)); exact BK402.out) hb); have n3_ := Aside0.mk (below_step zb hb); clear BK388; clear BK393; clear BK402; clear HB; have BK388 := n0_; have BK393 := n1_; have BK402 := n2_; have HB := n3_; clear n0_ n1_ n2_ n3_; (try clear hb); (try clear hb2); (try clear hk); (try clear hi)) | ((with_reducible refine gate_dst (N := 12) rfl ?_); (try (refine gate_guard (by rfl) ?_; dsimp only)); refine box_event ?hg (N := 12) ?hd (cs := #[.int .i64 0, .int .i64 0]) (t := 25) ?hr ?_; (case hd => rfl); (case hg => rfl); (case hr => first | (go_simp; done) | (go_simp; rfl)); intro gb406 hg w107 hbox hb; have n0_ := Aside0.mk (blk_below (g := gb388) (o := .cells #[.int .i64 t386, .int .i64 t387] 25 (0, 0)) (zk BK388.out) hb); have n1_ := Aside0.mk (blk_below (g := gb393) (o := .cells #[.int .i64 t390, .int .i64 t391] 25 (0, 0)) (zk BK393.out) hb); have n2_ := Aside0.mk (blk_below (g := gb402) (o := .cells #[.int .i64 t399, .int .i64 t400] 25 (0, 0)) (zk BK402.out) hb); have n3_ := Aside0.mk (below_step zb hb); have n4_ := Aside0.mk (hbox); have n5_ := Aside0.mk ((by rw [hg]; exact (below_size zb) : w.heap.size ≤ gb406)); have n6_ := Aside0.mk ((by rw [hg]; exact (below_size zb) : w.heap.size ≤ gb406)); have n7_ := Aside0.mk ((by rw [hg]; exact Nat.ne_of_lt (blk_lt (g := gb388) (o := .cells #[.int .i64 t386, .int .i64 t387] 25 (0, 0)) (zk BK388.out)) : gb388 ≠ gb406)); have n8_ := Aside0.mk ((by rw [hg]; exact Nat.ne_of_gt (blk_lt (g := gb388) (o := .cells #[.int .i64 t386, .int .i64 t387] 25 (0, 0)) (zk BK388.out)) : gb406 ≠ gb388)); have n9_ := Aside0.mk ((by rw [hg]; exact Nat.ne_of_lt (blk_lt (g := gb393) (o := .cells #[.int .i64 t390, .int .i64 t391] 25 (0, 0)) (zk BK393.out)) : gb393 ≠ gb406)); have n10_ := Aside0.mk ((by rw [hg]; exact Nat.ne_of_gt (blk_lt (g := gb393) (o := .cells #[.int .i64 t390, .int .i64 t391] 25 (0, 0)) (zk BK393.out)) : gb406 ≠ gb393)); have n11_ := Aside0.mk ((by rw [hg]; exact Nat.ne_of_lt (blk_lt (g := gb402) (o := .cells #[.int .i64 t399, .int .i64 t400] 25 (0, 0)) (zk BK402.out)) : gb402 ≠ gb406)); have n12_ := Aside0.mk ((by rw [hg]; exact Nat.ne_of_gt (blk_lt (g := gb402) (o := .cells #[.int .i64 t399, .int .i64 t400] 25 (0, 0)) (zk BK402.out)) : gb406 ≠ gb402)); clear BK388; clear BK393; clear BK402; clear HB; have BK388 := n0_; have BK393 := n1_; have BK402 := n2_; have HB := n3_; have BK406 := n4_; have GW406 := n5_; have GE406 := n6_; have NB388_406 := n7_; have NB406_388 := n8_; have NB393_406 := n9_; have NB406_393 := n10_; have NB402_406 := n11_; have NB406_402 := n12_; clear n0_ n1_ n2_ n3_ n4_ n5_ n6_ n7_ n8_ n9_ n10_ n11_ n12_; clear hb hbox hg; have hnb108 := NB406_388.out; have hnc108 := NB388_406.out; have hnb109 := NB406_393.out; have hnc109 := NB393_406.out; have hnb110 := NB406_402.out; have hnc110 := NB402_406.out; have hcz111_0 : w107.cell? ⟨gb406, 0, none⟩ = some (.int .i64 0) := (blk_cell BK406.out 0).trans rfl; have hcz111_1 : w107.cell? ⟨gb406, 1, none⟩ = some (.int .i64 0) := (blk_cell BK406.out 1).trans rfl; have hfz111_0 := blk_frozen BK406.out 0; have hfz111_1 := blk_frozen BK406.out 1))
                go_ret
                exact ⟨by first | rfl | (simp [errW_none, errW_some] <;> rfl) | (simp [*, errW_none, errW_some] <;> rfl), zb⟩
def laws_FnSpanPut.Pure : Prop := ∀ (l0 : List Int) (l1 : List Int), l0.length ≤ maxLen → l0.length * 1 ≤ 140737488351232 → (∀ x ∈ l0, (Lit.int .u8 x).wf = true) → l1.length ≤ maxLen → l1.length * 1 ≤ 140737488351232 → (∀ x ∈ l1, (Lit.int .u8 x).wf = true) → ∃ k, laws_FnSpanPut.f k l0 l1 = some true
theorem laws_FnSpanPut.walk (P : laws_FnSpanPut.Pure) (a0 : Option Addr) (len0 cap0 : Nat) (z0 : List Int) (a1 : Option Addr) (len1 cap1 : Nat) (z1 : List Int) (w : World) (hT : EnvA w) (w0 : (a0 = none ∧ len0 = 0 ∧ cap0 = 0 ∧ z0 = []) ∨ ∃ x, a0 = some x ∧ len0 ≤ cap0 ∧ cap0 ≤ maxLen ∧ z0.length = cap0 ∧ (∀ i, i < z0.length → w.cell? (x.add i) = some (.int .u8 (z0.getD i 0))) ∧ ∀ n ∈ z0, (Lit.int .u8 n).wf = true) (y0 : len0 * 1 ≤ 140737488351232) (w1 : (a1 = none ∧ len1 = 0 ∧ cap1 = 0 ∧ z1 = []) ∨ ∃ x, a1 = some x ∧ len1 ≤ cap1 ∧ cap1 ≤ maxLen ∧ z1.length = cap1 ∧ (∀ i, i < z1.length → w.cell? (x.add i) = some (.int .u8 (z1.getD i 0))) ∧ ∀ n ∈ z1, (Lit.int .u8 n).wf = true) (y1 : len1 * 1 ≤ 140737488351232) :
    Calls Tryd.prog 7 #[.slice a0 len0 cap0, .slice a1 len1 cap1] w fun e w' => e = .returned (.bool true) ∧ Below w.heap.size w w' := by
  obtain ⟨l0, rfl, hr0, hm0, hw0, hc0⟩ := ReadsInt.ofRowC w0
  obtain ⟨l1, rfl, hr1, hm1, hw1, hc1⟩ := ReadsInt.ofRowC w1
  obtain ⟨k, h⟩ := P l0 l1 hm0 y0 hw0 hm1 y1 hw1
  refine (laws_FnSpanPut.calls k _ _ l0 _ _ l1 true w hT (Kd.C_of_reads (d := (0 : Int)) (h1 := fun _ => rfl) hr0) hc0 (Kd.C_of_reads (d := (0 : Int)) (h1 := fun _ => rfl) hr1) hc1 h).mono ?_
  rintro e w' ⟨rfl, hd⟩
  exact ⟨rfl, hd⟩
end Go.Proofs.YtgeloncilhighaaDoor.Pr
end
section
namespace Go.Proofs.YtgeloncilhighaaDoor.Dec
open Go.Lib
set_option linter.unusedVariables false
set_option linter.unusedSimpArgs false
def IsD (b : UInt8) : Prop := 48 ≤ b.toNat ∧ b.toNat ≤ 57
instance (b : UInt8) : Decidable (IsD b) := inferInstanceAs (Decidable (_ ∧ _))
def Digs (l : List UInt8) : Prop := ∀ b ∈ l, IsD b
instance (l : List UInt8) : Decidable (Digs l) := inferInstanceAs (Decidable (∀ b ∈ l, IsD b))
def dvalA (a : Nat) (l : List UInt8) : Nat := l.foldl (fun a b => a * 10 + (b.toNat - 48)) a
def dval (l : List UInt8) : Nat := dvalA 0 l
theorem Digs.nil : Digs [] := fun _ h => by cases h
theorem Digs.append {a b : List UInt8} (ha : Digs a) (hb : Digs b) : Digs (a ++ b) := fun x hx => (List.mem_append.1 hx).elim (ha x) (hb x)
theorem Digs.tail {x : UInt8} {a : List UInt8} (h : Digs (x :: a)) : Digs a := fun y hy => h y (by simp [hy])
theorem Digs.head {x : UInt8} {a : List UInt8} (h : Digs (x :: a)) : IsD x := h x (by simp)
theorem Digs.get {l : List UInt8} (h : Digs l) {i : Nat} {b : UInt8} (hb : l[i]? = some b) : IsD b := h b (List.mem_of_getElem? hb)
theorem dvalA_nil (a : Nat) : dvalA a [] = a := List.foldl_nil
theorem dvalA_cons (a : Nat) (b : UInt8) (r : List UInt8) : dvalA a (b :: r) = dvalA (a * 10 + (b.toNat - 48)) r := List.foldl_cons ..
theorem dvalA_eq0 (l : List UInt8) : ∀ a, dvalA a l = a * 10 ^ l.length + dvalA 0 l := by
  induction l with
  | nil => intro a; rw [dvalA_nil, dvalA_nil, List.length_nil, Nat.pow_zero, Nat.mul_one, Nat.add_zero]
  | cons b r ih =>
    intro a
    rw [dvalA_cons, dvalA_cons, ih, ih (0 * 10 + (b.toNat - 48)), List.length_cons, Nat.pow_succ]
    generalize 10 ^ r.length = P
    generalize b.toNat - 48 = d
    rw [Nat.zero_mul, Nat.zero_add, Nat.add_mul, Nat.mul_assoc, Nat.mul_comm 10 P, Nat.add_assoc]
theorem dvalA_eq (l : List UInt8) (a : Nat) : dvalA a l = a * 10 ^ l.length + dval l := dvalA_eq0 l a
theorem dvalA_append (x b : List UInt8) (n : Nat) : dvalA n (x ++ b) = dvalA (dvalA n x) b := List.foldl_append ..
theorem dval_append (a b : List UInt8) : dval (a ++ b) = dval a * 10 ^ b.length + dval b := by
  unfold dval
  rw [dvalA_append, dvalA_eq b]
  rfl
theorem dval_nil : dval [] = 0 := dvalA_nil 0
theorem dval_one (b : UInt8) : dval [b] = b.toNat - 48 := by unfold dval; rw [dvalA_cons, dvalA_nil, Nat.zero_mul, Nat.zero_add]
theorem dval_cons (b : UInt8) (l : List UInt8) : dval (b :: l) = (b.toNat - 48) * 10 ^ l.length + dval l := by
  unfold dval
  rw [dvalA_cons, dvalA_eq0, Nat.zero_mul, Nat.zero_add]
theorem dval_snoc (l : List UInt8) (b : UInt8) : dval (l ++ [b]) = dval l * 10 + (b.toNat - 48) := by rw [dval_append, dval_one]; simp
theorem dval_lt {l : List UInt8} (h : Digs l) : dval l < 10 ^ l.length := by
  induction l with
  | nil => simp [dval_nil]
  | cons b r ih =>
    have h1 := ih h.tail
    have h2 := h.head
    unfold IsD at h2
    rw [dval_cons, List.length_cons, Nat.pow_succ]
    have h3 : (b.toNat - 48) * 10 ^ r.length ≤ 9 * 10 ^ r.length := Nat.mul_le_mul_right _ (by omega)
    omega
theorem ofNat_toNat {d : Nat} (h : d < 10) : (UInt8.ofNat (48 + d)).toNat = 48 + d := by
  rw [UInt8.toNat_ofNat']
  exact Nat.mod_eq_of_lt (by omega)
theorem decDigits_digs (n : Nat) : Digs (decDigits n) := by
  induction n using Nat.strongRecOn with
  | ind n ih =>
    rw [decDigits]
    split
    · intro b hb
      rw [List.mem_singleton.1 hb]
      unfold IsD
      rw [ofNat_toNat (by omega)]
      omega
    · refine (ih (n / 10) (by omega)).append ?_
      intro b hb
      rw [List.mem_singleton.1 hb]
      unfold IsD
      rw [ofNat_toNat (by omega)]
      omega
theorem decDigits_dval (n : Nat) : dval (decDigits n) = n := by
  induction n using Nat.strongRecOn with
  | ind n ih =>
    rw [decDigits]
    split
    · rw [dval_one, ofNat_toNat (by omega)]; omega
    · rw [dval_snoc, ih (n / 10) (by omega), ofNat_toNat (by omega)]; omega
def Canon (l : List UInt8) : Prop := l.length = 1 ∨ (1 < l.length ∧ l.head? ≠ some 48)
instance (l : List UInt8) : Decidable (Canon l) := inferInstanceAs (Decidable (_ ∨ _))
theorem decDigits_len_pos (n : Nat) : 0 < (decDigits n).length := by rw [decDigits]; split <;> simp
theorem decDigits_head (n : Nat) (h : n ≠ 0) : (decDigits n).head? ≠ some 48 := by
  induction n using Nat.strongRecOn with
  | ind n ih =>
    rw [decDigits]
    split
    · intro e
      rw [List.head?_cons, Option.some.injEq] at e
      have := congrArg UInt8.toNat e
      rw [ofNat_toNat (by omega)] at this
      have h48 : (48 : UInt8).toNat = 48 := rfl
      omega
    · have h1 := ih (n / 10) (by omega) (by omega)
      have h2 := decDigits_len_pos (n / 10)
      cases hd : decDigits (n / 10) with
      | nil => rw [hd] at h2; simp at h2
      | cons x xs => rw [hd] at h1; simpa using h1
theorem decDigits_canon (n : Nat) : Canon (decDigits n) := by
  have hp := decDigits_len_pos n
  by_cases h : n = 0
  · subst h; left; rw [decDigits, dif_pos (by decide)]; rfl
  · have := decDigits_head n h
    unfold Canon
    by_cases hl : (decDigits n).length = 1
    · exact .inl hl
    · exact .inr ⟨by omega, this⟩
theorem digit_inj {x y : UInt8} (hx : IsD x) (hy : IsD y) (h : x.toNat - 48 = y.toNat - 48) : x = y := by
  unfold IsD at hx hy
  exact UInt8.toNat_inj.1 (by omega)
theorem digs_uniq_len : ∀ {a b : List UInt8}, Digs a → Digs b → a.length = b.length → dval a = dval b → a = b
  | [], [], _, _, _, _ => rfl
  | [], _ :: _, _, _, h, _ => by simp at h
  | _ :: _, [], _, _, h, _ => by simp at h
  | x :: xs, y :: ys, ha, hb, h, hv => by
    have hl : xs.length = ys.length := by simpa using h
    rw [dval_cons, dval_cons, hl] at hv
    have l1 := dval_lt ha.tail
    have l2 := dval_lt hb.tail
    rw [hl] at l1
    have e : x.toNat - 48 = y.toNat - 48 := by
      have p : 0 < 10 ^ ys.length := Nat.pow_pos (by decide)
      rcases Nat.lt_trichotomy (x.toNat - 48) (y.toNat - 48) with hlt | he | hgt
      · have := Nat.mul_le_mul_right (10 ^ ys.length) (show (x.toNat - 48) + 1 ≤ y.toNat - 48 from hlt)
        rw [Nat.add_mul, Nat.one_mul] at this
        omega
      · exact he
      · have := Nat.mul_le_mul_right (10 ^ ys.length) (show (y.toNat - 48) + 1 ≤ x.toNat - 48 from hgt)
        rw [Nat.add_mul, Nat.one_mul] at this
        omega
    rw [e] at hv
    rw [digit_inj ha.head hb.head e, digs_uniq_len ha.tail hb.tail hl (by omega)]
theorem dval_ge {l : List UInt8} (h : Digs l) (h1 : l.head? ≠ some 48) (h0 : l ≠ []) : 10 ^ (l.length - 1) ≤ dval l := by
  cases l with
  | nil => exact absurd rfl h0
  | cons x xs =>
    have hx := h.head
    have : x.toNat ≠ 48 := fun e => h1 (by rw [List.head?_cons, UInt8.toNat_inj.1 (show x.toNat = (48 : UInt8).toNat from e)])
    unfold IsD at hx
    rw [dval_cons]
    have := Nat.mul_le_mul_right (10 ^ xs.length) (show 1 ≤ x.toNat - 48 by omega)
    simp only [List.length_cons, Nat.add_sub_cancel]
    omega
theorem canon_uniq {a b : List UInt8} (ha : Digs a) (hb : Digs b) (ca : Canon a) (cb : Canon b) (h : dval a = dval b) : a = b := by
  have key : ∀ {a b : List UInt8}, Digs a → Digs b → Canon a → Canon b → dval a = dval b → a.length ≤ b.length := by
    intro a b ha hb ca cb h
    rcases ca with h1 | ⟨h1, h2⟩
    · rcases cb with h3 | ⟨h3, _⟩ <;> omega
    · have g := dval_ge ha h2 (by intro e; rw [e] at h1; simp at h1)
      have l := dval_lt hb
      apply Nat.le_of_not_lt
      intro hlt
      have := Nat.pow_le_pow_right (show 0 < 10 by decide) (show b.length ≤ a.length - 1 by omega)
      omega
  exact digs_uniq_len ha hb (Nat.le_antisymm (key ha hb ca cb h) (key hb ha cb ca h.symm)) h
theorem decDigits_of {l : List UInt8} (h : Digs l) (c : Canon l) : decDigits (dval l) = l := canon_uniq (decDigits_digs _) h (decDigits_canon _) c (decDigits_dval _)
theorem decDigits_len_le {n k : Nat} (hk : 0 < k) (h : n < 10 ^ k) : (decDigits n).length ≤ k := by
  apply Nat.le_of_not_lt
  intro hlt
  have hn : n ≠ 0 := by
    intro e
    subst e
    have : (decDigits 0).length = 1 := by rw [decDigits, dif_pos (by decide)]; rfl
    omega
  have g := dval_ge (decDigits_digs n) (decDigits_head n hn) (by intro e; have := decDigits_len_pos n; rw [e] at this; simp at this)
  rw [decDigits_dval] at g
  have := Nat.pow_le_pow_right (show 0 < 10 by decide) (show k ≤ (decDigits n).length - 1 by omega)
  omega
end Go.Proofs.YtgeloncilhighaaDoor.Dec
end
section
namespace Go.Proofs.YtgeloncilhighaaDoor.Str
open Go.Lib Go.RowKit Go.Proofs.YtgeloncilhighaaDoor.Dec Go.Proofs.YtgeloncilhighaaDoor.Pr Go.Proofs.YtgeloncilhighaaDoor.Ext Go.Proofs.YtgeloncilhighaaDoorW.PrintWords Go.Proofs.YtgeloncilhighaaDoorW.PrintLast Go.Proofs.YtgeloncilhighaaDoorW.PrintMore
set_option linter.unusedVariables false
set_option linter.unusedSimpArgs false
def str (l : List UInt8) : ByteArray := ⟨l.toArray⟩
theorem str_eta (s : ByteArray) : s = str s.data.toList := by unfold str; simp
theorem str_size (l : List UInt8) : (str l).size = l.length := by unfold str; simp [ByteArray.size]
theorem str_data (l : List UInt8) : (str l).data.toList = l := by unfold str; simp
theorem str_toList (l : List UInt8) : (str l).toList = l := by rw [ByteArray.toList_eq, str_data]
theorem str_append (a b : List UInt8) : str a ++ str b = str (a ++ b) := by
  apply ByteArray.ext
  simp [str]
theorem str_extract (l : List UInt8) (a b : Nat) : (str l).extract a b = str ((l.drop a).take (b - a)) := by
  rw [extract_eq, str_data]; rfl
theorem str_bt (l : List UInt8) {i : Int} (h0 : 0 ≤ i) (h1 : i < l.length) : bt (str l) i = ((l[i.toNat]'(by omega)).toNat : Int) := by
  unfold bt
  rw [dif_pos (by rw [str_size]; omega)]
  rfl
theorem str_btD (l : List UInt8) {i : Int} (h0 : 0 ≤ i) (h1 : i < l.length) : bt (str l) i = ((l.getD i.toNat 0).toNat : Int) := by
  rw [str_bt l h0 h1, List.getD_eq_getElem?_getD, List.getElem?_eq_getElem (by omega)]; rfl
theorem bS {α β : Type} (a : α) (f : α → Option β) : (some a).bind f = f a := by have h := Option.bind_some a f; rw [h]
theorem w64 {x : Int} (h : -9223372036854775808 ≤ x) (h' : x ≤ 9223372036854775807) : wrap64 x = x := by unfold wrap64; omega
theorem itoa_f {n : Int} (h0 : -9223372036854775808 ≤ n) (h1 : n ≤ 9223372036854775807) : lib_Itoa.f n = some (str (itoa n)) := by
  unfold lib_Itoa.f
  rw [if_pos ⟨h0, h1⟩]; rfl
theorem strOf_one {d : Int} (h0 : 0 ≤ d) (h1 : d < 10) : strOfNums [(wrap64 (48 + d)) % 256] = str [UInt8.ofNat (48 + d.toNat)] := by
  rw [w64 (by omega) (by omega), show (48 + d) % 256 = 48 + d from by omega]
  have e : (48 + d).toNat = 48 + d.toNat := by omega
  unfold strOfNums str
  simp [e]
theorem itoa_nonneg {n : Int} (h : 0 ≤ n) : itoa n = decDigits n.toNat := by unfold itoa; rw [if_neg (by omega)]
theorem itoa_neg {n : Int} (h : n < 0) : itoa n = 45 :: decDigits n.natAbs := by unfold itoa; rw [if_pos h]
theorem decDigits_le (n : Nat) : (decDigits n).length ≤ n + 1 := by
  induction n using Nat.strongRecOn with
  | ind n ih =>
    rw [decDigits]
    split
    · simp
    · have := ih (n / 10) (by omega)
      rw [List.length_append, List.length_singleton]; omega
theorem l1Dec_nonneg (m : Nat) : ∀ (k : Nat) (n : Int), 0 ≤ n → n ≤ 9223372036854775807 → n < 10 ^ m → m < k → spec_l1Dec.f k n = some (str (decDigits n.toNat)) := by
  induction m with
  | zero =>
    intro k n h0 _ hm hk
    obtain ⟨k, rfl⟩ : ∃ j, k = j + 1 := ⟨k - 1, by omega⟩
    have hn : n = 0 := by simp at hm; omega
    subst hn
    rw [spec_l1Dec.f, if_neg (by omega), if_neg (by omega), if_pos (by omega), strOf_one (by omega) (by omega), decDigits, dif_pos (by decide)]
  | succ m ih =>
    intro k n h0 h1 hm hk
    obtain ⟨k, rfl⟩ : ∃ j, k = j + 1 := ⟨k - 1, by omega⟩
    rw [spec_l1Dec.f, if_neg (by omega), if_neg (by omega)]
    by_cases h : n < 10
    · rw [if_pos h, strOf_one h0 h, decDigits, dif_pos (by omega)]
    · have hp : (10 : Int) ^ (m + 1) = 10 ^ m * 10 := Int.pow_succ ..
      rw [if_neg h, Int.tdiv_eq_ediv_of_nonneg h0, w64 (by omega) (by omega), ih k (n / 10) (by omega) (by omega) (by rw [hp] at hm; omega) (by omega), Int.tmod_eq_emod_of_nonneg h0]
      simp only [bS]
      have hd := decDigits_le (n / 10).toNat
      have hd2 : (decDigits (n / 10).toNat).length ≤ 19 := decDigits_len_le (by decide) (by omega)
      rw [strOf_one (by omega) (by omega), str_size, str_size, if_pos (by simp; omega), str_append]
      congr 2
      rw [show n.toNat = n.toNat from rfl, decDigits.eq_def n.toNat, dif_neg (by omega)]
      rw [show (n / 10).toNat = n.toNat / 10 from by omega, show (n % 10).toNat = n.toNat % 10 from by omega]
theorem p19 : (10 : Int) ^ 19 = 10000000000000000000 := by decide
theorem l1Dec_eq {n : Int} (h0 : -9223372036854775808 ≤ n) (h1 : n ≤ 9223372036854775807) (k : Nat) (hk : 25 ≤ k) : spec_l1Dec.f k n = some (str (itoa n)) := by
  by_cases h : 0 ≤ n
  · rw [l1Dec_nonneg 19 k n h h1 (by rw [p19]; omega) (by omega), itoa_nonneg h]
  · obtain ⟨k, rfl⟩ : ∃ j, k = j + 1 := ⟨k - 1, by omega⟩
    rw [spec_l1Dec.f]
    by_cases hm : n < -9223372036854775807
    · have : n = -9223372036854775808 := by omega
      subst this
      rw [if_pos hm]
      have e : itoa (-9223372036854775808) = [45, 57, 50, 50, 51, 51, 55, 50, 48, 51, 54, 56, 53, 52, 55, 55, 53, 56, 48, 56] := by decide +kernel
      rw [e]; rfl
    · have hd2 : (decDigits (-n).toNat).length ≤ 19 := decDigits_len_le (by decide) (by omega)
      rw [if_neg hm, if_pos (by omega), w64 (by omega) (by omega), l1Dec_nonneg 19 k (-n) (by omega) (by omega) (by rw [p19]; omega) (by omega)]
      simp only [bS]
      rw [str_size, if_pos (by omega), itoa_neg (by omega), show n.natAbs = (-n).toNat from by omega]
      exact congrArg some (str_append [45] _)
theorem itoa_len {n : Int} (h0 : -9223372036854775808 ≤ n) (h1 : n ≤ 9223372036854775807) : (itoa n).length ≤ 20 := by
  by_cases h : 0 ≤ n
  · rw [itoa_nonneg h]
    have : (decDigits n.toNat).length ≤ 19 := decDigits_len_le (by decide) (by omega)
    omega
  · rw [itoa_neg (by omega)]
    have : (decDigits n.natAbs).length ≤ 19 := decDigits_len_le (by decide) (by omega)
    rw [List.length_cons]; omega
end Go.Proofs.YtgeloncilhighaaDoor.Str
end
section
namespace Go.Proofs.YtgeloncilhighaaDoor.Str
open Go.Lib Go.RowKit Go.Proofs.YtgeloncilhighaaDoor.Dec Go.Proofs.YtgeloncilhighaaDoor.Pr Go.Proofs.YtgeloncilhighaaDoor.Ext Go.Proofs.YtgeloncilhighaaDoorW.PrintWords Go.Proofs.YtgeloncilhighaaDoorW.PrintLast Go.Proofs.YtgeloncilhighaaDoorW.PrintMore
set_option linter.unusedVariables false
set_option linter.unusedSimpArgs false
def spanOk (a b : Int) : Prop := (-120000 ≤ a ∧ a ≤ 120000) ∧ (-4000000 ≤ b ∧ b ≤ 4000000)
instance (a b : Int) : Decidable (spanOk a b) := inferInstanceAs (Decidable (_ ∧ _))
def spanT (a b : Int) : List UInt8 := ((itoa a ++ [109]) ++ itoa b) ++ [100]
def spanP (a b : Int) : List UInt8 := if spanOk a b then spanT a b else []
theorem implSpanOk (a b : Int) : impl_SpanOk.f a b = some (decide (spanOk a b)) := by
  unfold impl_SpanOk.f impl_in.f spanOk
  by_cases h1 : a ≥ -120000 <;> by_cases h2 : a ≤ 120000 <;> by_cases h3 : b ≥ -4000000 <;> by_cases h4 : b ≤ 4000000 <;> simp [h1, h2, h3, h4]
theorem specSpanOk (a b : Int) : spec_l3SpanOk.f a b = some (decide (spanOk a b)) := by
  unfold spec_l3SpanOk.f spec_l1In.f spanOk
  by_cases h1 : a ≥ -120000 <;> by_cases h2 : a ≤ 120000 <;> by_cases h3 : b ≥ -4000000 <;> by_cases h4 : b ≤ 4000000 <;> simp [h1, h2, h3, h4]
def I64 (n : Int) : Prop := -9223372036854775808 ≤ n ∧ n ≤ 9223372036854775807
theorem implSpanPut {a b : Int} (ha : I64 a) (hb : I64 b) : impl_SpanPut.f a b = some (str (spanP a b)) := by
  unfold impl_SpanPut.f spanP
  rw [implSpanOk]
  simp only [bS]
  by_cases h : spanOk a b
  · have la := itoa_len ha.1 ha.2
    have lb := itoa_len hb.1 hb.2
    rw [if_pos (decide_eq_true h), if_pos h, itoa_f ha.1 ha.2]
    simp only [bS]
    rw [str_size, if_pos (by omega), itoa_f hb.1 hb.2]
    simp only [bS]
    rw [show (⟨#[109]⟩ : ByteArray) = str [109] from rfl, show (⟨#[100]⟩ : ByteArray) = str [100] from rfl]
    simp only [str_append, str_size, List.length_append, List.length_cons, List.length_nil]
    rw [if_pos (by omega), if_pos (by omega)]
    rfl
  · rw [if_neg (by simpa using h), if_neg h]
    rfl
theorem specSpanT {a b : Int} (ha : I64 a) (hb : I64 b) (k : Nat) (hk : 25 ≤ k) : spec_l3SpanPut.f k a b = some (str (spanT a b)) := by
  unfold spec_l3SpanPut.f
  have la := itoa_len ha.1 ha.2
  have lb := itoa_len hb.1 hb.2
  rw [l1Dec_eq ha.1 ha.2 k hk]
  simp only [bS]
  rw [str_size, if_pos (by omega), l1Dec_eq hb.1 hb.2 k hk]
  simp only [bS]
  rw [show (⟨#[109]⟩ : ByteArray) = str [109] from rfl, show (⟨#[100]⟩ : ByteArray) = str [100] from rfl]
  simp only [str_append, str_size, List.length_append, List.length_cons, List.length_nil]
  rw [if_pos (by omega), if_pos (by omega)]
  rfl
theorem specSpanPut {a b : Int} (ha : I64 a) (hb : I64 b) (k : Nat) (hk : 25 ≤ k) : spec_SpanPut.f k a b = some (str (spanP a b)) := by
  unfold spec_SpanPut.f spanP
  rw [specSpanOk]
  simp only [bS]
  by_cases h : spanOk a b
  · rw [if_pos (decide_eq_true h), if_pos h, specSpanT ha hb k hk]
    simp only [bS]
  · rw [if_neg (by simpa using h), if_neg h]
    rfl
end Go.Proofs.YtgeloncilhighaaDoor.Str
end
section
namespace Go.Proofs.YtgeloncilhighaaDoor.Str
open Go.Lib Go.RowKit Go.Proofs.YtgeloncilhighaaDoor.Dec Go.Proofs.YtgeloncilhighaaDoor.Pr Go.Proofs.YtgeloncilhighaaDoor.Ext Go.Proofs.YtgeloncilhighaaDoorW.PrintWords Go.Proofs.YtgeloncilhighaaDoorW.PrintLast Go.Proofs.YtgeloncilhighaaDoorW.PrintMore
set_option linter.unusedVariables false
set_option linter.unusedSimpArgs false
theorem parse_digs : ∀ (l : List UInt8) (a : Nat), Digs l → (a + 1) * 10 ^ l.length ≤ 10 ^ 18 → parseUint10 a l = .ok (dvalA a l)
  | [], a, _, _ => by rw [parseUint10, dvalA_nil]
  | b :: r, a, hd, hb => by
    have h0 := hd.head
    unfold IsD at h0
    rw [List.length_cons, Nat.pow_succ] at hb
    have hp : 1 ≤ 10 ^ r.length := Nat.one_le_pow _ _ (by decide)
    have h1 : (a + 1) * 1 ≤ (a + 1) * 10 ^ r.length := Nat.mul_le_mul_left _ hp
    have h2 : (a + 1) * (10 ^ r.length * 10) = ((a + 1) * 10 ^ r.length) * 10 := (Nat.mul_assoc ..).symm
    rw [h2] at hb
    have e18 : 10 ^ 18 = 1000000000000000000 := by decide
    rw [e18] at hb
    have ha : a + 1 ≤ 100000000000000000 := by omega
    simp only [parseUint10]
    rw [if_pos h0, if_neg (by omega), if_neg (by omega), dvalA_cons]
    refine parse_digs r _ hd.tail ?_
    rw [e18]
    have h3 : (a * 10 + (b.toNat - 48) + 1) * 10 ^ r.length ≤ ((a + 1) * 10) * 10 ^ r.length := Nat.mul_le_mul_right _ (by omega)
    have h4 : ((a + 1) * 10) * 10 ^ r.length = ((a + 1) * 10 ^ r.length) * 10 := by rw [Nat.mul_assoc, Nat.mul_comm 10, ← Nat.mul_assoc]
    omega
theorem atoiAll_digs {l : List UInt8} (hd : Digs l) (h0 : l ≠ []) (hl : l.length ≤ 18) : atoiAll l = .ok (dval l : Int) := by
  cases l with
  | nil => exact absurd rfl h0
  | cons b r =>
    have hb := hd.head
    unfold IsD at hb
    have hp := parse_digs (b :: r) 0 hd (by
      have : 10 ^ (b :: r).length ≤ 10 ^ 18 := Nat.pow_le_pow_right (by decide) hl
      omega)
    have hv : dvalA 0 (b :: r) < 9223372036854775808 := by
      have h1 := dval_lt hd
      have h2 : 10 ^ (b :: r).length ≤ 10 ^ 18 := Nat.pow_le_pow_right (by decide) hl
      have e18 : 10 ^ 18 = 1000000000000000000 := by decide
      unfold dval at h1
      omega
    unfold atoiAll
    simp only
    rw [if_neg (by omega)]
    unfold parseMag
    rw [if_neg (by simp), hp]
    simp only
    rw [if_neg (by omega), if_neg (by omega), if_neg (by omega)]
    rfl
theorem atoiAll_neg {l : List UInt8} (hd : Digs l) (h0 : l ≠ []) (hl : l.length ≤ 18) : atoiAll (45 :: l) = .ok (-(dval l : Int)) := by
  have hp := parse_digs l 0 hd (by
    have : 10 ^ l.length ≤ 10 ^ 18 := Nat.pow_le_pow_right (by decide) hl
    omega)
  have hv : dvalA 0 l < 9223372036854775808 := by
    have h1 := dval_lt hd
    have h2 : 10 ^ l.length ≤ 10 ^ 18 := Nat.pow_le_pow_right (by decide) hl
    have e18 : 10 ^ 18 = 1000000000000000000 := by decide
    unfold dval at h1
    omega
  unfold atoiAll
  have e45 : (45 : UInt8).toNat = 45 := rfl
  simp only [e45]
  rw [if_pos (by decide)]
  unfold parseMag
  rw [if_neg h0, hp]
  simp only
  rw [if_neg (by simp), if_neg (by omega), if_pos trivial]
  rfl
theorem atoiV_itoa {n : Int} (h0 : -1000000000 < n) (h1 : n < 1000000000) : atoiV (itoa n) = n := by
  unfold atoiV
  by_cases h : 0 ≤ n
  · have hl : (decDigits n.toNat).length ≤ 9 := decDigits_len_le (by decide) (by omega)
    rw [itoa_nonneg h, atoiAll_digs (decDigits_digs _) (by have := decDigits_len_pos n.toNat; intro e; rw [e] at this; simp at this) (by omega), decDigits_dval]
    simp only
    omega
  · have hl : (decDigits n.natAbs).length ≤ 9 := decDigits_len_le (by decide) (by omega)
    rw [itoa_neg (by omega), atoiAll_neg (decDigits_digs _) (by have := decDigits_len_pos n.natAbs; intro e; rw [e] at this; simp at this) (by omega), decDigits_dval]
    simp only
    omega
theorem atoiV_bd (l : List UInt8) : I64 (atoiV l) := by
  unfold atoiV I64
  cases h : atoiAll l with
  | ok v => have := atoiAll_bounds h; simp only; omega
  | range => simp only; unfold atoiSat; split <;> omega
  | _ => simp only; omega
theorem occ_one (l : List UInt8) (c : UInt8) (i : Nat) : occAt l [c] i = true ↔ l[i]? = some c := by
  unfold occAt
  rw [List.isPrefixOf_iff_prefix]
  constructor
  · rintro ⟨t, ht⟩
    have : (l.drop i)[0]? = some c := by rw [← ht]; rfl
    rwa [List.getElem?_drop, Nat.add_zero] at this
  · intro h
    obtain ⟨hi, he⟩ := List.getElem?_eq_some_iff.1 h
    rw [List.drop_eq_getElem_cons hi, he]
    exact ⟨_, rfl⟩
theorem cut_at {a r : List UInt8} {c : UInt8} (h : c ∉ a) : Lib.cut (a ++ c :: r) [c] = (a, r, true) := by
  have hi : index (a ++ c :: r) [c] = (a.length : Nat) := by
    refine index_hit (fun j hj => ?_) (by simp) ?_
    · apply Bool.eq_false_iff.2
      intro ho
      rw [occ_one, List.getElem?_append_left hj] at ho
      exact h (List.mem_of_getElem? ho)
    · rw [occ_one, List.getElem?_append_right (Nat.le_refl _), Nat.sub_self]; rfl
  unfold Lib.cut
  rw [hi, if_pos (by omega)]
  simp
theorem trim_end (a : List UInt8) (c : UInt8) : trimSuffix (a ++ [c]) [c] = a := by
  unfold trimSuffix hasSuffix
  rw [if_pos (by rw [List.isSuffixOf_iff_suffix]; exact List.suffix_append a [c])]
  simp
theorem itoa_bytes {n : Int} {b : UInt8} (h : b ∈ itoa n) : b = 45 ∨ IsD b := by
  unfold itoa at h
  split at h
  · rcases List.mem_cons.1 h with h | h
    · exact .inl h
    · exact .inr (decDigits_digs _ b h)
  · exact .inr (decDigits_digs _ b h)
theorem itoa_no {n : Int} {c : UInt8} (h1 : c ≠ 45) (h2 : ¬ IsD c) : c ∉ itoa n := fun h => (itoa_bytes h).elim h1 h2
theorem cut_lens (l c : List UInt8) : (Lib.cut l c).1.length ≤ l.length ∧ (Lib.cut l c).2.1.length ≤ l.length := by
  unfold Lib.cut
  split
  · simp only [List.length_take, List.length_drop]; omega
  · simp
def IsSpan (s : List UInt8) (a b : Int) : Prop := spanOk a b ∧ s = spanT a b
theorem span_cut {a b : Int} (h : spanOk a b) : atoiV (Lib.cut (spanT a b) [109]).1 = a ∧ atoiV (trimSuffix (Lib.cut (spanT a b) [109]).2.1 [100]) = b := by
  unfold spanOk at h
  have e : spanT a b = itoa a ++ 109 :: (itoa b ++ [100]) := by unfold spanT; simp
  rw [e, cut_at (itoa_no (by decide) (by decide))]
  simp only
  rw [trim_end]
  exact ⟨atoiV_itoa (by omega) (by omega), atoiV_itoa (by omega) (by omega)⟩
theorem IsSpan.uniq {s : List UInt8} {a b a' b' : Int} (h : IsSpan s a b) (h' : IsSpan s a' b') : a = a' ∧ b = b' := by
  obtain ⟨o, rfl⟩ := h
  obtain ⟨o', e⟩ := h'
  have c := span_cut o
  rw [e] at c
  have c' := span_cut o'
  exact ⟨c.1.symm.trans c'.1, c.2.symm.trans c'.2⟩
def Told (s : List UInt8) (r : Int × Int × Bool) : Prop := (r.2.2 = true ∧ IsSpan s r.1 r.2.1) ∨ (r = (0, 0, false) ∧ ∀ a b, ¬ IsSpan s a b)
theorem Told.uniq {s : List UInt8} {r r' : Int × Int × Bool} (h : Told s r) (h' : Told s r') : r = r' := by
  obtain ⟨a, b, c⟩ := r
  obtain ⟨a', b', c'⟩ := r'
  rcases h with ⟨h1, h2⟩ | ⟨h1, h2⟩ <;> rcases h' with ⟨h1', h2'⟩ | ⟨h1', h2'⟩
  · obtain ⟨e1, e2⟩ := h2.uniq h2'
    simp only at *
    rw [e1, e2, h1, h1']
  · exact absurd h2 (h2' _ _)
  · exact absurd h2' (h2 _ _)
  · rw [h1, h1']
theorem implSpanGet (s : List UInt8) (hs : s.length ≤ 4000000000) : ∃ r, impl_SpanGet.f (str s) = some r ∧ Told s r := by
  unfold impl_SpanGet.f lib_Cut.f
  have cl := cut_lens s [109]
  rw [if_pos (by rw [str_size]; omega), show (⟨#[109]⟩ : ByteArray) = str [109] from rfl, str_data, str_data]
  simp only [bS]
  have ts : (trimSuffix (Lib.cut s [109]).2.1 [100]).length ≤ s.length := Nat.le_trans (trimSuffix_le _ _) cl.2
  unfold lib_Atoi.f lib_TrimSuffix.f
  rw [show (⟨(Lib.cut s [109]).1.toArray⟩ : ByteArray) = str (Lib.cut s [109]).1 from rfl, show (⟨(Lib.cut s [109]).2.1.toArray⟩ : ByteArray) = str (Lib.cut s [109]).2.1 from rfl, show (⟨#[100]⟩ : ByteArray) = str [100] from rfl]
  simp only [str_size, str_data]
  rw [if_pos (by omega)]
  simp only [bS]
  rw [if_pos (by omega)]
  simp only [bS]
  rw [show (⟨(trimSuffix (Lib.cut s [109]).2.1 [100]).toArray⟩ : ByteArray) = str (trimSuffix (Lib.cut s [109]).2.1 [100]) from rfl]
  simp only [str_size, str_data]
  rw [if_pos (by omega)]
  simp only [bS, str_toList]
  have hm := atoiV_bd (Lib.cut s [109]).1
  have hd := atoiV_bd (trimSuffix (Lib.cut s [109]).2.1 [100])
  have key : ∀ a b, IsSpan s a b → a = atoiV (Lib.cut s [109]).1 ∧ b = atoiV (trimSuffix (Lib.cut s [109]).2.1 [100]) := by
    rintro a b ⟨o, rfl⟩
    have := span_cut o
    exact ⟨this.1.symm, this.2.symm⟩
  generalize atoiV (Lib.cut s [109]).1 = m at *
  generalize atoiV (trimSuffix (Lib.cut s [109]).2.1 [100]) = d at *
  by_cases h0 : s = []
  · rw [if_pos h0]
    refine ⟨_, rfl, .inr ⟨rfl, ?_⟩⟩
    rintro a b ⟨o, e⟩
    rw [h0] at e
    unfold spanT at e
    simp at e
  · rw [if_neg h0, implSpanPut hm hd]
    simp only [bS, str_toList]
    by_cases h1 : spanP m d = s
    · rw [if_pos h1]
      refine ⟨_, rfl, .inl ⟨rfl, ?_⟩⟩
      unfold spanP at h1
      split at h1
      · exact ⟨by assumption, h1.symm⟩
      · exact absurd h1.symm h0
    · rw [if_neg h1]
      refine ⟨_, rfl, .inr ⟨rfl, ?_⟩⟩
      rintro a b ⟨o, e⟩
      obtain ⟨rfl, rfl⟩ := key a b ⟨o, e⟩
      apply h1
      unfold spanP
      rw [if_pos o, e]
end Go.Proofs.YtgeloncilhighaaDoor.Str
end
section
namespace Go.Proofs.YtgeloncilhighaaDoor.Str
open Go.Lib Go.RowKit Go.Proofs.YtgeloncilhighaaDoor.Dec Go.Proofs.YtgeloncilhighaaDoor.Pr Go.Proofs.YtgeloncilhighaaDoor.Ext Go.Proofs.YtgeloncilhighaaDoorW.PrintWords Go.Proofs.YtgeloncilhighaaDoorW.PrintLast Go.Proofs.YtgeloncilhighaaDoorW.PrintMore
set_option linter.unusedVariables false
set_option linter.unusedSimpArgs false
def numOk (l : List UInt8) : Prop := Digs l ∧ l.length ≤ 9 ∧ Canon l
instance (l : List UInt8) : Decidable (numOk l) := inferInstanceAs (Decidable (_ ∧ _))
def numV (l : List UInt8) : Int := if numOk l then (dval l : Int) else -1
theorem getD_get {l : List UInt8} {i : Nat} (h : i < l.length) : l[i]? = some (l.getD i 0) := by
  rw [List.getD_eq_getElem?_getD, List.getElem?_eq_getElem h]; rfl
theorem take_succD {l : List UInt8} {i : Nat} (h : i < l.length) : l.take (i + 1) = l.take i ++ [l.getD i 0] := by
  rw [List.take_succ_eq_append_getElem h, List.getD_eq_getElem?_getD, List.getElem?_eq_getElem h]; rfl
theorem head_bt {l : List UInt8} (h : 0 < l.length) : (bt (str l) 0 = 48) ↔ l.head? = some 48 := by
  rw [str_btD l (by omega) (by omega)]
  cases l with
  | nil => simp at h
  | cons b r =>
    show ((b.toNat : Nat) : Int) = 48 ↔ some b = some 48
    constructor
    · intro e; rw [UInt8.toNat_inj.1 (show b.toNat = (48 : UInt8).toNat by have : (48 : UInt8).toNat = 48 := rfl; omega)]
    · intro e; rw [Option.some.inj e]; rfl
theorem num_l0 (l : List UInt8) (hl : l.length ≤ 4000000000) : ∀ (d k i : Nat), l.length - i ≤ d → i ≤ l.length → i ≤ 9 → d < k → Digs (l.take i) → spec_l1Num.l0 k (str l) (dval (l.take i) : Int) (i : Int) = some (numV l) := by
  intro d
  induction d with
  | zero =>
    intro k i hd hi h9 hk hD
    obtain ⟨k, rfl⟩ : ∃ j, k = j + 1 := ⟨k - 1, by omega⟩
    have e : i = l.length := by omega
    rw [spec_l1Num.l0, str_size, if_neg (by omega)]
    rw [e, List.take_length] at hD ⊢
    by_cases h0 : l.length = 0
    · rw [if_pos (by omega)]
      unfold numV
      rw [if_neg (by unfold numOk Canon; omega)]
    · rw [if_neg (by omega)]
      by_cases h1 : (l.length : Int) > 1
      · rw [if_pos h1, if_pos (by omega)]
        by_cases h2 : bt (str l) 0 = 48
        · rw [if_pos h2]
          have := (head_bt (by omega)).1 h2
          unfold numV
          rw [if_neg (by rintro ⟨_, _, c | ⟨_, c⟩⟩; · omega
                         · exact c this)]
        · rw [if_neg h2]
          unfold numV
          rw [if_pos ⟨hD, by omega, .inr ⟨by omega, fun e2 => h2 ((head_bt (by omega)).2 e2)⟩⟩]
      · rw [if_neg h1]
        unfold numV
        rw [if_pos ⟨hD, by omega, .inl (by omega)⟩]
  | succ d ih =>
    intro k i hd hi h9 hk hD
    by_cases hlt : i < l.length
    · obtain ⟨k, rfl⟩ : ∃ j, k = j + 1 := ⟨k - 1, by omega⟩
      have hb := UInt8.toNat_lt (l.getD i 0)
      rw [spec_l1Num.l0, str_size, if_pos (by omega), if_pos (by omega), str_btD l (by omega) (by omega), Int.toNat_natCast]
      have bad : ¬ IsD (l.getD i 0) → numV l = -1 := fun h => by
        unfold numV
        rw [if_neg (fun hn => h (hn.1.get (getD_get hlt)))]
      by_cases h1 : ((l.getD i 0).toNat : Int) < 48
      · rw [if_pos h1, bad (by unfold IsD; omega)]
      · rw [if_neg h1]
        by_cases h2 : ((l.getD i 0).toNat : Int) > 57
        · rw [if_pos h2, bad (by unfold IsD; omega)]
        · rw [if_neg h2]
          by_cases h3 : (i : Int) ≥ 9
          · rw [if_pos h3]
            unfold numV
            rw [if_neg (fun hn => by have := hn.2.1; omega)]
          · have hv := dval_lt hD
            rw [List.length_take, Nat.min_eq_left (by omega)] at hv
            have h10 : 10 ^ i ≤ 10 ^ 9 := Nat.pow_le_pow_right (by decide) (by omega)
            have e9 : 10 ^ 9 = 1000000000 := by decide
            rw [if_neg h3, w64 (x := (dval (l.take i) : Int) * 10) (by omega) (by omega), w64 (x := (i : Int) + 1) (by omega) (by omega), w64 (by omega) (by omega)]
            have e : ((dval (l.take i) : Int) * 10 + (((l.getD i 0).toNat : Int) - 48) % 256) = (dval (l.take (i + 1)) : Int) := by
              rw [take_succD hlt, dval_snoc]
              omega
            rw [e, show ((i : Int) + 1) = ((i + 1 : Nat) : Int) from by omega]
            refine ih k (i + 1) (by omega) (by omega) (by omega) (by omega) ?_
            rw [take_succD hlt]
            exact hD.append (fun b hb => by rw [List.mem_singleton.1 hb]; unfold IsD; omega)
    · exact ih k i (by omega) hi h9 (by omega) hD
theorem num_eq (l : List UInt8) (hl : l.length ≤ 4000000000) (k : Nat) (hk : l.length + 1 ≤ k) : spec_l1Num.f k (str l) = some (numV l) := by
  unfold spec_l1Num.f
  have := num_l0 l hl l.length k 0 (by omega) (by omega) (by omega) (by omega) (by rw [List.take_zero]; exact Digs.nil)
  rw [List.take_zero, dval_nil] at this
  exact this
theorem int_eq (l : List UInt8) (hl : l.length ≤ 4000000000) (k : Nat) (hk : l.length + 2 ≤ k) : ∃ v b, spec_l1Int.f k (str l) = some (v, b) ∧ (b = true → l = itoa v ∧ -1000000000 < v ∧ v < 1000000000) ∧ (∀ n, l = itoa n → -1000000000 < n → n < 1000000000 → b = true ∧ v = n) := by
  obtain ⟨k, rfl⟩ : ∃ j, k = j + 1 := ⟨k - 1, by omega⟩
  have plain : ∃ v b, spec_l1Int.j0 (k + 1) (str l) false = some (v, b) ∧ (b = true → l = itoa v ∧ -1000000000 < v ∧ v < 1000000000) ∧ (∀ n, 0 ≤ n → l = itoa n → n < 1000000000 → b = true ∧ v = n) := by
    rw [spec_l1Int.j0, if_neg (by decide), num_eq l hl k (by omega)]
    simp only [bS]
    by_cases h : numOk l
    · have hv : numV l = (dval l : Int) := if_pos h
      have hb := dval_lt h.1
      have h10 : 10 ^ l.length ≤ 10 ^ 9 := Nat.pow_le_pow_right (by decide) h.2.1
      have e9 : 10 ^ 9 = 1000000000 := by decide
      rw [hv, if_neg (by omega)]
      refine ⟨_, _, rfl, fun _ => ⟨?_, by omega, by omega⟩, ?_⟩
      · rw [itoa_nonneg (by omega), Int.toNat_natCast, decDigits_of h.1 h.2.2]
      · intro n h0 e _
        rw [itoa_nonneg h0] at e
        refine ⟨rfl, ?_⟩
        rw [e, decDigits_dval]; omega
    · have hv : numV l = -1 := if_neg h
      rw [hv, if_pos (by omega)]
      refine ⟨_, _, rfl, fun e => by simp at e, ?_⟩
      intro n h0 e h1
      exfalso
      apply h
      rw [itoa_nonneg h0] at e
      rw [e]
      exact ⟨decDigits_digs _, decDigits_len_le (by decide) (by omega), decDigits_canon _⟩
  unfold spec_l1Int.f
  rw [str_size]
  by_cases h1 : (l.length : Int) > 1
  · rw [if_pos h1, if_pos (by omega), str_btD l (by omega) (by omega)]
    cases l with
    | nil => simp at h1
    | cons c r =>
      show ∃ v b, spec_l1Int.j0 (k + 1) (str (c :: r)) ((((c.toNat : Nat) : Int)) == 45) = some (v, b) ∧ _
      rw [List.length_cons] at hl h1 hk
      by_cases h2 : c = 45
      · subst h2
        have e45 : (((45 : UInt8).toNat : Nat) : Int) == 45 := by decide
        rw [e45, spec_l1Int.j0, if_pos rfl, str_size, if_pos (by rw [List.length_cons]; omega), str_extract, num_eq _ (by simp; omega) k (by simp; omega)]
        simp only [bS]
        rw [show ((45 :: r).drop 1).take ((45 :: r).length - 1) = r from by simp]
        by_cases h : numOk r
        · have hv : numV r = (dval r : Int) := if_pos h
          have hb := dval_lt h.1
          have h10 : 10 ^ r.length ≤ 10 ^ 9 := Nat.pow_le_pow_right (by decide) h.2.1
          have e9 : 10 ^ 9 = 1000000000 := by decide
          rw [hv, w64 (by omega) (by omega)]
          refine ⟨_, _, rfl, ?_, ?_⟩
          · intro hp
            have hp' := of_decide_eq_true hp
            refine ⟨?_, by omega, by omega⟩
            rw [itoa_neg (by omega), show (-(dval r : Int)).natAbs = dval r by omega, decDigits_of h.1 h.2.2]
          · intro n e h3 h4
            by_cases hn : 0 ≤ n
            · rw [itoa_nonneg hn] at e
              have := decDigits_digs n.toNat 45 (by rw [← e]; simp)
              exact absurd this (by decide)
            · rw [itoa_neg (by omega)] at e
              have e2 : r = decDigits n.natAbs := (List.cons.inj e).2
              have e3 : dval r = n.natAbs := by rw [e2, decDigits_dval]
              refine ⟨decide_eq_true (by omega), by omega⟩
        · have hv : numV r = -1 := if_neg h
          rw [hv]
          refine ⟨_, _, rfl, fun e => by simp at e, ?_⟩
          intro n e h3 h4
          exfalso
          by_cases hn : 0 ≤ n
          · rw [itoa_nonneg hn] at e
            have := decDigits_digs n.toNat 45 (by rw [← e]; simp)
            exact absurd this (by decide)
          · rw [itoa_neg (by omega)] at e
            have e2 : r = decDigits n.natAbs := (List.cons.inj e).2
            apply h
            rw [e2]
            exact ⟨decDigits_digs _, decDigits_len_le (by decide) (by omega), decDigits_canon _⟩
      · have e45 : ((((c.toNat : Nat) : Int)) == 45) = false := by
          rw [beq_eq_false_iff_ne]
          intro e
          exact h2 (UInt8.toNat_inj.1 (show c.toNat = (45 : UInt8).toNat by have : (45 : UInt8).toNat = 45 := rfl; omega))
        rw [e45]
        obtain ⟨v, b, hf, hy, hn⟩ := plain
        refine ⟨v, b, hf, hy, ?_⟩
        intro n e h3 h4
        by_cases h0 : 0 ≤ n
        · exact hn n h0 e h4
        · rw [itoa_neg (by omega)] at e
          exact absurd (List.cons.inj e).1 h2
  · rw [if_neg h1]
    obtain ⟨v, b, hf, hy, hn⟩ := plain
    refine ⟨v, b, hf, hy, ?_⟩
    intro n e h3 h4
    by_cases h0 : 0 ≤ n
    · exact hn n h0 e h4
    · rw [itoa_neg (by omega)] at e
      have := decDigits_len_pos n.natAbs
      have := congrArg List.length e
      rw [List.length_cons] at this
      omega
end Go.Proofs.YtgeloncilhighaaDoor.Str
end
section
namespace Go.Proofs.YtgeloncilhighaaDoor.Str
open Go.Lib Go.RowKit Go.Proofs.YtgeloncilhighaaDoor.Dec Go.Proofs.YtgeloncilhighaaDoor.Pr Go.Proofs.YtgeloncilhighaaDoor.Ext Go.Proofs.YtgeloncilhighaaDoorW.PrintWords Go.Proofs.YtgeloncilhighaaDoorW.PrintLast Go.Proofs.YtgeloncilhighaaDoorW.PrintMore
set_option linter.unusedVariables false
set_option linter.unusedSimpArgs false
theorem bt_is {l : List UInt8} {i : Nat} (h : i < l.length) : (bt (str l) (i : Int) = 109) ↔ l[i]? = some 109 := by
  rw [str_btD l (by omega) (by omega), Int.toNat_natCast, getD_get h, Option.some.injEq]
  constructor
  · intro e; exact UInt8.toNat_inj.1 (show (l.getD i 0).toNat = (109 : UInt8).toNat by have : (109 : UInt8).toNat = 109 := rfl; omega)
  · intro e; rw [e]; rfl
theorem e1_ (a r : List UInt8) (c : UInt8) : ((a ++ c :: r).drop (0 : Int).toNat).take ((a.length : Int).toNat - (0 : Int).toNat) = a := by simp
theorem e2_ (a r : List UInt8) (c : UInt8) : ((a ++ c :: r).drop (a.length + 1)).take ((a ++ c :: r).length - (a.length + 1)) = r := by
  rw [List.drop_append, List.drop_eq_nil_of_le (by omega), show a.length + 1 - a.length = 1 by omega, List.drop_succ_cons, List.drop_zero, List.nil_append, List.take_of_length_le (by simp; omega)]
theorem one_full (x : ByteArray) : decide (([x].length : Int) < 1) = false := by simp
theorem one_less (x : ByteArray) : [x].length < 8796093022208 := by rw [List.length_singleton]; omega
theorem nil_less : ([] : List ByteArray).length < 8796093022208 := by rw [List.length_nil]; omega
theorem mid_ (a r : List UInt8) (c : UInt8) : (a ++ c :: r)[a.length]? = some c := by rw [List.getElem?_append_right (Nat.le_refl _), Nat.sub_self]; rfl
theorem len_ (a r : List UInt8) (c : UInt8) : (a ++ c :: r).length = a.length + r.length + 1 := by rw [List.length_append, List.length_cons]; omega
theorem fin_ (a r : List UInt8) (_hl : (a ++ 109 :: r).length ≤ 4000000000) (k : Nat) : spec_l1Cut.j1 (k + 1) (str (a ++ 109 :: r)) 109 1 [str a] ((a.length : Int) + 1) ((a.length : Int) + 1) false = some [str a, str r] := by
  have hn := len_ a r 109
  rw [spec_l1Cut.j1, if_neg (by decide), if_pos (by omega), if_pos (by rw [str_size]; omega), if_pos (one_less _), str_extract, str_size, show ((a.length : Int) + 1).toNat = a.length + 1 by omega, e2_, List.singleton_append]
theorem cut_hit (a r : List UInt8) (h : (109 : UInt8) ∉ a) (hl : (a ++ 109 :: r).length ≤ 4000000000) : ∀ (d k i : Nat), i + d = a.length → d + d + 5 ≤ k →
    spec_l1Cut.l0 k (str (a ++ 109 :: r)) 109 1 [] 0 (i : Int) = some [str a, str r] := by
  intro d
  induction d with
  | zero =>
    intro k i hi hk
    obtain ⟨k, rfl⟩ : ∃ j, k = j + 4 := ⟨k - 4, by omega⟩
    have hn := len_ a r 109
    obtain rfl : i = a.length := by omega
    rw [spec_l1Cut.l0, str_size, if_pos (by omega), spec_l1Cut.j1, if_pos (by decide), if_pos (by omega), if_pos (by rw [str_size]; omega), if_pos ((bt_is (by omega)).2 (mid_ a r 109)), if_pos (by omega), if_pos (by omega), if_pos (by rw [str_size]; omega), if_pos nil_less, w64 (by omega) (by omega)]
    rw [List.nil_append, str_extract, e1_]
    rw [spec_l1Cut.l0, str_size]
    by_cases h2 : (a.length : Int) + 1 < ((a ++ 109 :: r).length : Int)
    · rw [if_pos h2, one_full]; exact fin_ a r hl k
    · rw [if_neg h2]; exact fin_ a r hl k
  | succ d ih =>
    intro k i hi hk
    obtain ⟨k, rfl⟩ : ∃ j, k = j + 2 := ⟨k - 2, by omega⟩
    have hn := len_ a r 109
    have hne : ¬ bt (str (a ++ 109 :: r)) (i : Int) = 109 := by
      rw [bt_is (by omega), List.getElem?_append_left (by omega)]
      intro e; exact h (List.mem_of_getElem? e)
    rw [spec_l1Cut.l0, str_size, if_pos (by omega), spec_l1Cut.j1, if_pos (by decide), if_pos (by omega), if_pos (by rw [str_size]; omega), if_neg hne, w64 (by omega) (by omega), show (i : Int) + 1 = ((i + 1 : Nat) : Int) from by omega]
    exact ih k (i + 1) (by omega) (by omega)
theorem cut_miss (l : List UInt8) (h : (109 : UInt8) ∉ l) (hl : l.length ≤ 4000000000) : ∀ (d k i : Nat), i + d = l.length → d + d + 5 ≤ k →
    spec_l1Cut.l0 k (str l) 109 1 [] 0 (i : Int) = some [str l] := by
  intro d
  induction d with
  | zero =>
    intro k i hi hk
    obtain ⟨k, rfl⟩ : ∃ j, k = j + 4 := ⟨k - 4, by omega⟩
    rw [spec_l1Cut.l0, str_size, if_neg (by omega), spec_l1Cut.j1, if_neg (by decide), if_pos (by omega), if_pos (by rw [str_size]; omega), if_pos nil_less, str_extract]
    have e2 : (l.drop (0 : Int).toNat).take ((str l).size - (0 : Int).toNat) = l := by rw [str_size]; simp
    rw [e2, List.nil_append]
  | succ d ih =>
    intro k i hi hk
    obtain ⟨k, rfl⟩ : ∃ j, k = j + 2 := ⟨k - 2, by omega⟩
    have hne : ¬ bt (str l) (i : Int) = 109 := by
      rw [bt_is (by omega)]
      intro e; exact h (List.mem_of_getElem? e)
    rw [spec_l1Cut.l0, str_size, if_pos (by omega), spec_l1Cut.j1, if_pos (by decide), if_pos (by omega), if_pos (by rw [str_size]; omega), if_neg hne, w64 (by omega) (by omega), show (i : Int) + 1 = ((i + 1 : Nat) : Int) from by omega]
    exact ih k (i + 1) (by omega) (by omega)
theorem first_of (c : UInt8) : ∀ (l : List UInt8), c ∈ l → ∃ a r, l = a ++ c :: r ∧ c ∉ a
  | [], h => by cases h
  | b :: l, h => by
    by_cases hb : b = c
    · exact ⟨[], l, by rw [hb]; rfl, by simp⟩
    · obtain ⟨a, r, e, hn⟩ := first_of c l ((List.mem_cons.1 h).resolve_left (fun e => hb e.symm))
      exact ⟨b :: a, r, by rw [e]; rfl, by simp [hn, Ne.symm hb]⟩
theorem first_uniq {c : UInt8} {a a' r r' : List UInt8} (h : c ∉ a) (h' : c ∉ a') (e : a ++ c :: r = a' ++ c :: r') : a = a' ∧ r = r' := by
  have h1 := cut_at (r := r) h
  rw [e, cut_at h'] at h1
  exact ⟨(congrArg (·.1) h1).symm, (congrArg (·.2.1) h1).symm⟩
theorem specSpanGet (s : List UInt8) (hs : s.length ≤ 1000000000) (k : Nat) (hk : 2 * s.length + 20 ≤ k) : ∃ r, spec_SpanGet.f k (str s) = some r ∧ Told s r := by
  have key : ∃ r, spec_l3SpanGet.f k (str s) = some r ∧ Told s r := by
    obtain ⟨k, rfl⟩ : ∃ j, k = j + 1 := ⟨k - 1, by omega⟩
    have no : (∀ a b, ¬ IsSpan s a b) → ∃ r, spec_l3SpanGet.j0 (k + 1) (str s) true = some r ∧ Told s r := fun h => ⟨_, by rw [spec_l3SpanGet.j0, if_pos rfl], .inr ⟨rfl, h⟩⟩
    unfold spec_l3SpanGet.f
    rw [str_size]
    by_cases h0 : s = []
    · subst h0
      rw [if_pos (by simp)]
      apply no
      rintro a b ⟨o, e⟩
      unfold spanT at e
      simp at e
    · have hl : s.length ≠ 0 := fun e => h0 (List.eq_nil_of_length_eq_zero e)
      rw [if_neg (by omega), w64 (by omega) (by omega), if_pos (by omega), if_pos (by omega), str_btD s (by omega) (by omega)]
      obtain ⟨t, c, rfl⟩ : ∃ t c, s = t ++ [c] := ⟨s.dropLast, s.getLast h0, (List.dropLast_concat_getLast h0).symm⟩
      have hlen : (t ++ [c]).length = t.length + 1 := by simp
      have eg : ((t ++ [c]).getD (((t ++ [c]).length : Int) - 1).toNat 0) = c := by
        rw [show (((t ++ [c]).length : Int) - 1).toNat = t.length by omega, List.getD_eq_getElem?_getD, List.getElem?_append_right (Nat.le_refl _), Nat.sub_self]; rfl
      rw [eg]
      by_cases hc : c = 100
      · subst hc
        have e100 : ((((100 : UInt8).toNat : Nat) : Int) != 100) = false := by decide
        rw [e100, spec_l3SpanGet.j0, if_neg (by decide), str_size, w64 (by omega) (by omega), if_pos (by omega), if_pos (by omega), str_extract]
        have et : ((t ++ [100]).drop 0).take ((((t ++ [100]).length : Int) - 1).toNat - 0) = t := by
          have e0 : (((t ++ [100]).length : Int) - 1).toNat - 0 = t.length := by omega
          rw [e0, List.drop_zero, List.take_left']
          rfl
        rw [et]
        unfold spec_l1Cut.f
        by_cases hm : (109 : UInt8) ∈ t
        · obtain ⟨a, r, rfl, hna⟩ := first_of 109 t hm
          have hlt : (a ++ 109 :: r).length = a.length + (r.length + 1) := by simp
          have hcut := cut_hit a r hna (by omega) a.length k 0 (by omega) (by omega)
          rw [show ((0 : Nat) : Int) = 0 from rfl] at hcut
          rw [hcut]
          simp only [bS]
          rw [if_pos (by simp), if_pos (by simp)]
          obtain ⟨v, b, hf, hy, hn⟩ := int_eq a (by omega) k (by omega)
          obtain ⟨v', b', hf', hy', hn'⟩ := int_eq r (by omega) k (by omega)
          rw [show rdOf ByteArray.empty [str a, str r] 0 = str a from rfl, hf]
          simp only [bS]
          rw [if_pos (by simp), show rdOf ByteArray.empty [str a, str r] 1 = str r from rfl, hf']
          simp only [bS]
          have uq : ∀ x y, IsSpan (a ++ 109 :: r ++ [100]) x y → b = true ∧ v = x ∧ b' = true ∧ v' = y := by
            rintro x y ⟨o, e⟩
            have e2 : spanT x y = (itoa x ++ 109 :: itoa y) ++ [100] := by unfold spanT; simp
            rw [e2] at e
            have e3 := (List.append_inj' e rfl).1
            obtain ⟨e4, e5⟩ := first_uniq hna (itoa_no (by decide) (by decide)) e3
            unfold spanOk at o
            obtain ⟨p1, p2⟩ := hn x e4 (by omega) (by omega)
            obtain ⟨p3, p4⟩ := hn' y e5 (by omega) (by omega)
            exact ⟨p1, p2, p3, p4⟩
          by_cases hb : b = true
          · rw [if_pos hb]
            by_cases hb' : b' = true
            · rw [if_pos hb', specSpanOk]
              simp only [bS]
              by_cases ho : spanOk v v'
              · rw [if_pos (decide_eq_true ho)]
                refine ⟨_, rfl, .inl ⟨rfl, ho, ?_⟩⟩
                unfold spanT
                rw [← (hy hb).1, ← (hy' hb').1]
                simp
              · rw [if_neg (by simpa using ho)]
                refine ⟨_, rfl, .inr ⟨rfl, fun x y h => ?_⟩⟩
                obtain ⟨_, rfl, _, rfl⟩ := uq x y h
                exact ho h.1
            · rw [if_neg hb']
              exact ⟨_, rfl, .inr ⟨rfl, fun x y h => hb' (uq x y h).2.2.1⟩⟩
          · rw [if_neg hb]
            exact ⟨_, rfl, .inr ⟨rfl, fun x y h => hb (uq x y h).1⟩⟩
        · have hcut := cut_miss t hm (by omega) t.length k 0 (by omega) (by omega)
          rw [show ((0 : Nat) : Int) = 0 from rfl] at hcut
          rw [hcut]
          simp only [bS]
          rw [if_neg (by simp)]
          refine ⟨_, rfl, .inr ⟨rfl, ?_⟩⟩
          rintro x y ⟨o, e⟩
          have e2 : spanT x y = (itoa x ++ 109 :: itoa y) ++ [100] := by unfold spanT; simp
          rw [e2] at e
          have e3 := (List.append_inj' e rfl).1
          exact hm (by rw [e3]; simp)
      · have e100 : ((((c.toNat : Nat) : Int)) != 100) = true := by
          rw [bne_iff_ne]
          intro e
          exact hc (UInt8.toNat_inj.1 (show c.toNat = (100 : UInt8).toNat by have : (100 : UInt8).toNat = 100 := rfl; omega))
        rw [e100]
        apply no
        rintro x y ⟨o, e⟩
        unfold spanT at e
        have e3 := (List.append_inj' e rfl).2
        exact hc (List.cons.inj e3).1
  obtain ⟨r, hf, ht⟩ := key
  refine ⟨r, ?_, ht⟩
  unfold spec_SpanGet.f
  rw [hf]
  simp only [bS]
end Go.Proofs.YtgeloncilhighaaDoor.Str
end
section
namespace Go.Proofs.YtgeloncilhighaaDoor.Drw
open Go.RowKit Go.Lib Go.Proofs.YtgeloncilhighaaDoor.Pr Go.Proofs.YtgeloncilhighaaDoor.Ext Go.Proofs.YtgeloncilhighaaDoor.Str Go.Proofs.YtgeloncilhighaaDoorW.PrintWords Go.Proofs.YtgeloncilhighaaDoorW.PrintLast Go.Proofs.YtgeloncilhighaaDoorW.PrintMore
set_option linter.unusedVariables false
set_option linter.unusedSimpArgs false
theorem wf8 {a : Int} (h : (Lit.int .u8 a).wf = true) : 0 ≤ a ∧ a ≤ 255 := by
  simp [Lit.wf, IntKind.min, IntKind.max, IntKind.signed, IntKind.bits] at h; omega
theorem rd_mem {l : List Int} {i : Int} (h0 : 0 ≤ i) (h : i < (l.length : Int)) : rd l i ∈ l := by
  have hi : i.toNat < l.length := by omega
  unfold rd
  rw [List.getD_eq_getElem?_getD, List.getElem?_eq_getElem hi]
  exact List.getElem_mem hi
theorem xor_nonneg {x y : Int} (hx : 0 ≤ x) (hx' : x < 4611686018427387904) (hy : 0 ≤ y) (hy' : y < 4611686018427387904) : 0 ≤ Go.bits .xor .i64 x y := by
  obtain ⟨a, rfl⟩ := Int.eq_ofNat_of_zero_le hx
  obtain ⟨b, rfl⟩ := Int.eq_ofNat_of_zero_le hy
  have ha : a < 2 ^ 62 := by omega
  have hb : b < 2 ^ 62 := by omega
  have hlt := Nat.xor_lt_two_pow ha hb
  have ha' : a % 2 ^ IntKind.i64.bits = a := Nat.mod_eq_of_lt (by show a < 2 ^ 64; omega)
  have hb' : b % 2 ^ IntKind.i64.bits = b := Nat.mod_eq_of_lt (by show b < 2 ^ 64; omega)
  have e : Go.bits .xor .i64 (a : Int) (b : Int) = ((a ^^^ b : Nat) : Int) := by
    simp only [Go.bits, BitVec.ofInt_natCast, BitVec.toNat_xor, BitVec.toNat_ofNat, ha', hb']
    rw [IntKind.wrap_i64]
    omega
  rw [e]
  omega
def BytesOk (b : List Int) : Prop := b.length ≤ 2000 ∧ ∀ x ∈ b, 0 ≤ x ∧ x ≤ 255
theorem pick_any {b : List Int} (hb : BytesOk b) {p n : Int} (hp : 0 ≤ p) (hp' : p ≤ 1000000) (hn : 1 ≤ n) :
    ∃ r, (∀ k, spec_l1Rd_pick.f (k + 1) b p n = some (r, p + 1)) ∧ 0 ≤ r ∧ r < n := by
  have e1 : wrap64 (p + 1) = p + 1 := w64 (by omega) (by omega)
  have e2 : wrap64 (p + 1 - 1) = p := by rw [w64 (by omega) (by omega)]; omega
  have hl := hb.1
  by_cases h0 : b.length = 0
  · refine ⟨0, fun k => ?_, by omega, by omega⟩
    have hz : ((b.length : Int) == 0) = true := by rw [h0]; rfl
    unfold spec_l1Rd_pick.f
    rw [if_neg (by omega), e1, hz]
    simp only [spec_l1Rd_pick.j0, if_true]
  · have hz : ((b.length : Int) == 0) = false := by rw [beq_eq_false_iff_ne]; omega
    by_cases hk : p < (b.length : Int)
    · have hm := hb.2 _ (rd_mem hp hk)
      refine ⟨Int.tmod (rd b p) n, fun k => ?_, Int.tmod_nonneg _ hm.1, Int.tmod_lt_of_pos _ (by omega)⟩
      unfold spec_l1Rd_pick.f
      rw [if_neg (by omega), e1, hz]
      simp only [spec_l1Rd_pick.j0]
      rw [if_neg (by decide), e2, if_pos hk, if_pos hp, if_neg (by omega), w64 (by omega) (by omega)]
    · have hL : (0 : Int) < (b.length : Int) := by omega
      have e7 : wrap64 (wrap64 (p * 7) + 3) = p * 7 + 3 := by
        rw [w64 (x := p * 7) (by omega) (by omega), w64 (by omega) (by omega)]
      have i1 := Int.tmod_nonneg (b.length : Int) hp
      have j1 := Int.tmod_lt_of_pos p hL
      have i2 := Int.tmod_nonneg (b.length : Int) (show 0 ≤ p * 7 + 3 by omega)
      have j2 := Int.tmod_lt_of_pos (p * 7 + 3) hL
      have hA := hb.2 _ (rd_mem i1 j1)
      have hB := hb.2 _ (rd_mem i2 j2)
      have hq0 : 0 ≤ Int.tdiv p (b.length : Int) := Int.tdiv_nonneg hp (by omega)
      have hq1 : Int.tdiv p (b.length : Int) ≤ p := by
        rw [Int.tdiv_eq_ediv_of_nonneg hp]; exact Int.ediv_le_self _ hp
      generalize hAe : rd b (Int.tmod p (b.length : Int)) = A at hA
      generalize hBe : rd b (Int.tmod (p * 7 + 3) (b.length : Int)) = B at hB
      generalize hQe : Int.tdiv p (b.length : Int) = Q at hq0 hq1
      have hX : 0 ≤ wrap64 (wrap64 (wrap64 (wrap64 (wrap64 A * 131) + wrap64 (wrap64 B * 1117)) + wrap64 (p * 29)) + wrap64 (wrap64 Q * 53)) ∧
          wrap64 (wrap64 (wrap64 (wrap64 (wrap64 A * 131) + wrap64 (wrap64 B * 1117)) + wrap64 (p * 29)) + wrap64 (wrap64 Q * 53)) < 1000000000 := by
        rw [w64 (x := A) (by omega) (by omega), w64 (x := B) (by omega) (by omega), w64 (x := Q) (by omega) (by omega), w64 (x := A * 131) (by omega) (by omega), w64 (x := B * 1117) (by omega) (by omega),
          w64 (x := p * 29) (by omega) (by omega), w64 (x := Q * 53) (by omega) (by omega), w64 (x := A * 131 + B * 1117) (by omega) (by omega), w64 (x := A * 131 + B * 1117 + p * 29) (by omega) (by omega),
          w64 (by omega) (by omega)]
        omega
      generalize hXe : wrap64 (wrap64 (wrap64 (wrap64 (wrap64 A * 131) + wrap64 (wrap64 B * 1117)) + wrap64 (p * 29)) + wrap64 (wrap64 Q * 53)) = X at hX
      have hY : 0 ≤ wrap64 (Int.tdiv X 64) ∧ wrap64 (Int.tdiv X 64) < 1000000000 := by
        rw [Int.tdiv_eq_ediv_of_nonneg hX.1, w64 (by omega) (by omega)]; omega
      refine ⟨Int.tmod (Go.bits .xor .i64 X (wrap64 (Int.tdiv X 64))) n, fun k => ?_, Int.tmod_nonneg _ (xor_nonneg hX.1 (by omega) hY.1 (by omega)), Int.tmod_lt_of_pos _ (by omega)⟩
      unfold spec_l1Rd_pick.f
      rw [if_neg (by omega), e1, hz]
      simp only [spec_l1Rd_pick.j0]
      rw [if_neg (by decide), e2, if_neg hk, if_neg (by omega), if_pos i1, if_pos j1, e7, if_pos i2, if_pos j2, if_neg (by omega), hAe, hBe, hQe, hXe]
theorem open_any {l : List Int} (hl : ∀ x ∈ l, (Lit.int .u8 x).wf = true) : ∃ b, spec_l1Open.f l = some (b, 0) ∧ BytesOk b := by
  unfold spec_l1Open.f
  by_cases h : (l.length : Int) > 2000
  · rw [if_pos h, if_pos (by omega)]
    exact ⟨_, rfl, by rw [List.length_take]; omega, fun x hx => wf8 (hl x (List.mem_of_mem_take hx))⟩
  · rw [if_neg h]
    exact ⟨_, rfl, by omega, fun x hx => wf8 (hl x hx)⟩
theorem one_any {b : List Int} (hb : BytesOk b) {p : Int} (hp : 0 ≤ p) (hp' : p ≤ 1000000) {l : List Int} (hl : 1 ≤ l.length) :
    ∃ r, (∀ k, spec_l1Rd_one.f (k + 1) b p l = some (r, p + 1)) ∧ r ∈ l := by
  obtain ⟨i, hi, h0, h1⟩ := pick_any hb hp hp' (n := (l.length : Int)) (by omega)
  refine ⟨rd l i, fun k => ?_, rd_mem h0 h1⟩
  unfold spec_l1Rd_one.f
  rw [hi k]
  simp only [Option.bind_some]
  rw [if_pos h0, if_pos h1]
theorem pick_ge {b : List Int} (hb : BytesOk b) {p n : Int} (hp : 0 ≤ p) (hp' : p ≤ 1000000) (hn : 1 ≤ n) :
    ∃ r, (∀ k, 1 ≤ k → spec_l1Rd_pick.f k b p n = some (r, p + 1)) ∧ 0 ≤ r ∧ r < n := by
  obtain ⟨r, h, h0, h1⟩ := pick_any hb hp hp' hn
  exact ⟨r, fun k hk => by obtain ⟨m, rfl⟩ : ∃ m, k = m + 1 := ⟨k - 1, by omega⟩; exact h m, h0, h1⟩
theorem one_ge {b : List Int} (hb : BytesOk b) {p : Int} (hp : 0 ≤ p) (hp' : p ≤ 1000000) {l : List Int} (hl : 1 ≤ l.length) :
    ∃ r, (∀ k, 1 ≤ k → spec_l1Rd_one.f k b p l = some (r, p + 1)) ∧ r ∈ l := by
  obtain ⟨r, h, h0⟩ := one_any hb hp hp' hl
  exact ⟨r, fun k hk => by obtain ⟨m, rfl⟩ : ∃ m, k = m + 1 := ⟨k - 1, by omega⟩; exact h m, h0⟩
theorem rdOf_mem {l : List ByteArray} {i : Int} (h0 : 0 ≤ i) (h : i < (l.length : Int)) : rdOf ByteArray.empty l i ∈ l := by
  have hi : i.toNat < l.length := by omega
  unfold rdOf
  rw [List.getD_eq_getElem?_getD, List.getElem?_eq_getElem hi]
  exact List.getElem_mem hi
theorem of_any {b : List Int} (hb : BytesOk b) {p : Int} (hp : 0 ≤ p) (hp' : p ≤ 1000000) {l : List ByteArray} (hl : 1 ≤ l.length) (M : Nat) (hM : ∀ x ∈ l, x.size ≤ M) :
    ∃ s, (∀ k, 1 ≤ k → spec_l1Rd_of.f k b p l = some (str s, p + 1)) ∧ s.length ≤ M := by
  obtain ⟨i, hi, h0, h1⟩ := pick_ge hb hp hp' (n := (l.length : Int)) (by omega)
  have hm := hM _ (rdOf_mem h0 h1)
  refine ⟨(rdOf ByteArray.empty l i).data.toList, fun k hk => ?_, ?_⟩
  · unfold spec_l1Rd_of.f
    rw [hi k hk, ← str_eta]
    simp only [bS]
    rw [if_pos h0, if_pos h1]
  · rw [Array.length_toList]; exact hm
theorem bent_any {b : List Int} (hb : BytesOk b) {p : Int} (hp : 0 ≤ p) (hp' : p ≤ 900000) (l : List UInt8) (hl : l.length ≤ 1000000) :
    ∃ s p', (∀ k, 1 ≤ k → spec_l14Bent.f k b p (str l) = some (str s, p')) ∧ s.length ≤ l.length + 10 := by
  obtain ⟨i, hi, i0, i1⟩ := pick_ge hb hp (by omega) (n := (l.length : Int) + 1) (by omega)
  obtain ⟨r, hr, _, _⟩ := pick_ge hb (p := p + 1) (by omega) (by omega) (n := 6) (by omega)
  have start : ∀ k, 1 ≤ k → spec_l1Rd_pick.f k b p (wrap64 (((str l).size : Int) + 1)) = some (i, p + 1) := fun k hk => by
    rw [str_size, Str.w64 (by omega) (by omega)]; exact hi k hk
  obtain ⟨u, hu, u1⟩ := of_any hb (p := p + 1 + 1) (by omega) (by omega) (l := [(⟨#[48]⟩ : ByteArray), (⟨#[57]⟩ : ByteArray), (⟨#[45]⟩ : ByteArray), (⟨#[46]⟩ : ByteArray), (⟨#[32]⟩ : ByteArray), (⟨#[120]⟩ : ByteArray), (⟨#[44]⟩ : ByteArray), (⟨#[58]⟩ : ByteArray), (⟨#[39]⟩ : ByteArray), (⟨#[33]⟩ : ByteArray), (⟨#[59]⟩ : ByteArray)]) (by simp) 1 (by decide)
  obtain ⟨v, hv, v1⟩ := of_any hb (p := p + 1 + 1) (by omega) (by omega) (l := [(⟨#[120]⟩ : ByteArray), (⟨#[48]⟩ : ByteArray), (⟨#[32]⟩ : ByteArray), (⟨#[39]⟩ : ByteArray), (⟨#[59]⟩ : ByteArray), (⟨#[10]⟩ : ByteArray)]) (by simp) 1 (by decide)
  obtain ⟨z, hz, z1⟩ := of_any hb (p := p + 1 + 1) (by omega) (by omega) (l := [(⟨#[48]⟩ : ByteArray), (⟨#[45]⟩ : ByteArray), (⟨#[46]⟩ : ByteArray), (⟨#[32]⟩ : ByteArray), (⟨#[40]⟩ : ByteArray), (⟨#[49]⟩ : ByteArray)]) (by simp) 1 (by decide)
  by_cases h0 : r = 0
  · by_cases hlt : i < (l.length : Int)
    · refine ⟨(((l.drop 0).take (i.toNat - 0)) ++ u) ++ (l.drop (i + 1).toNat).take (l.length - (i + 1).toNat), p + 1 + 1 + 1, fun k hk => ?_, by simp; omega⟩
      unfold spec_l14Bent.f
      rw [start k hk]; simp only [bS]
      rw [hr k hk]; simp only [bS]
      rw [if_pos h0, str_size, if_pos hlt, if_pos i0, if_pos (by omega), hu k hk]; simp only [bS]
      simp only [str_extract, str_append, str_size]
      rw [Str.w64 (by omega) (by omega), if_pos (by simp; omega), if_pos (by omega), if_pos (by omega), if_pos (by simp; omega)]
    · refine ⟨l, p + 1 + 1, fun k hk => ?_, by omega⟩
      unfold spec_l14Bent.f
      rw [start k hk]; simp only [bS]
      rw [hr k hk]; simp only [bS]
      rw [if_pos h0, str_size, if_neg hlt]
  · by_cases h1 : r = 1
    · refine ⟨(l.drop 0).take (i.toNat - 0), p + 1 + 1, fun k hk => ?_, by simp; omega⟩
      unfold spec_l14Bent.f
      rw [start k hk]; simp only [bS]
      rw [hr k hk]; simp only [bS]
      rw [if_neg h0, if_pos h1, str_size, if_pos i0, if_pos (by omega), str_extract]
    · by_cases h2 : r = 2
      · refine ⟨l ++ v, p + 1 + 1 + 1, fun k hk => ?_, by simp; omega⟩
        unfold spec_l14Bent.f
        rw [start k hk]; simp only [bS]
        rw [hr k hk]; simp only [bS]
        rw [if_neg h0, if_neg h1, if_pos h2, hv k hk]; simp only [bS]
        rw [str_size, str_size, if_pos (by omega), str_append]
      · by_cases h3 : r = 3
        · refine ⟨(((l.drop 0).take (i.toNat - 0)) ++ z) ++ (l.drop i.toNat).take (l.length - i.toNat), p + 1 + 1 + 1, fun k hk => ?_, by simp; omega⟩
          unfold spec_l14Bent.f
          rw [start k hk]; simp only [bS]
          rw [hr k hk]; simp only [bS]
          rw [if_neg h0, if_neg h1, if_neg h2, if_pos h3, str_size, if_pos i0, if_pos (by omega), hz k hk]; simp only [bS]
          simp only [str_extract, str_append, str_size]
          rw [if_pos (by simp; omega), if_pos (by simp; omega)]
        · refine ⟨l, p + 1 + 1, fun k hk => ?_, by omega⟩
          unfold spec_l14Bent.f
          rw [start k hk]; simp only [bS]
          rw [hr k hk]; simp only [bS]
          rw [if_neg h0, if_neg h1, if_neg h2, if_neg h3]
end Go.Proofs.YtgeloncilhighaaDoor.Drw
end
section
namespace Go.Proofs.YtgeloncilhighaaDoor.Drw
open Go.RowKit Go.Lib Go.Proofs.YtgeloncilhighaaDoor.Pr Go.Proofs.YtgeloncilhighaaDoor.Ext Go.Proofs.YtgeloncilhighaaDoor.Str Go.Proofs.YtgeloncilhighaaDoorW.PrintWords Go.Proofs.YtgeloncilhighaaDoorW.PrintLast Go.Proofs.YtgeloncilhighaaDoorW.PrintMore
set_option linter.unusedVariables false
set_option linter.unusedSimpArgs false
theorem mem3 {x : Int} {l : List Int} (h : x ∈ l) (hl : ∀ y ∈ l, I64 y) : I64 x := hl x h
theorem i64_wrap (x : Int) : I64 (wrap64 x) := by unfold I64 wrap64; omega
theorem i64_zero : I64 0 := by unfold I64; omega
theorem span_any {b : List Int} (hb : BytesOk b) {p : Int} (hp : 0 ≤ p) (hp' : p ≤ 900000) : ∃ t s p', (∀ k, 1 ≤ k → spec_l14Span.f k b p = some (t, s, p')) ∧ p ≤ p' ∧ p' ≤ p + 10 ∧ I64 t ∧ I64 s := by
  obtain ⟨r, hr, r0, r6⟩ := pick_ge hb hp (by omega) (n := 5) (by omega)
  by_cases h0 : r = 0
  · obtain ⟨x, hx, mx⟩ := one_ge hb (p := p + 1) (by omega) (by omega) (l := [0, 120000, (-120000), 119987, (-119988)]) (by decide)
    obtain ⟨y, hy, my⟩ := one_ge hb (p := p + 1 + 1) (by omega) (by omega) (l := [0, 4000000, (-4000000)]) (by decide)
    refine ⟨x, y, p + 1 + 1 + 1, fun k hk => ?_, by omega, by omega, mem3 mx (by unfold I64; decide), mem3 my (by unfold I64; decide)⟩
    unfold spec_l14Span.f
    rw [hr k hk]; simp only [bS]
    rw [if_pos h0, hx k hk]; simp only [bS]
    rw [hy k hk]; simp only [bS]
  · by_cases h1 : r = 1
    · obtain ⟨x, hx, _, _⟩ := pick_ge hb (p := p + 1) (by omega) (by omega) (n := 30) (by omega)
      refine ⟨wrap64 (x - 15), 0, p + 1 + 1, fun k hk => ?_, by omega, by omega, i64_wrap _, i64_zero⟩
      unfold spec_l14Span.f
      rw [hr k hk]; simp only [bS]
      rw [if_neg h0, if_pos h1, hx k hk]; simp only [bS]
    · by_cases h2 : r = 2
      · obtain ⟨x, hx, _, _⟩ := pick_ge hb (p := p + 1) (by omega) (by omega) (n := 80) (by omega)
        refine ⟨0, wrap64 (x - 40), p + 1 + 1, fun k hk => ?_, by omega, by omega, i64_zero, i64_wrap _⟩
        unfold spec_l14Span.f
        rw [hr k hk]; simp only [bS]
        rw [if_neg h0, if_neg h1, if_pos h2, hx k hk]; simp only [bS]
      · obtain ⟨x, hx, _, _⟩ := pick_ge hb (p := p + 1) (by omega) (by omega) (n := 60) (by omega)
        obtain ⟨y, hy, _, _⟩ := pick_ge hb (p := p + 1 + 1) (by omega) (by omega) (n := 60) (by omega)
        refine ⟨wrap64 (x - 30), wrap64 (y - 30), p + 1 + 1 + 1, fun k hk => ?_, by omega, by omega, i64_wrap _, i64_wrap _⟩
        unfold spec_l14Span.f
        rw [hr k hk]; simp only [bS]
        rw [if_neg h0, if_neg h1, if_neg h2, hx k hk]; simp only [bS]
        rw [hy k hk]; simp only [bS]
theorem anySpan_any {b : List Int} (hb : BytesOk b) {p : Int} (hp : 0 ≤ p) (hp' : p ≤ 800000) : ∃ t s p', (∀ k, 2 ≤ k → spec_l14AnySpan.f k b p = some (t, s, p')) ∧ I64 t ∧ I64 s := by
  obtain ⟨t, s, q, hs, q1, q2, it, is⟩ := span_any hb hp (by omega)
  obtain ⟨r, hr, _, _⟩ := pick_ge hb (p := q) (by omega) (by omega) (n := 20) (by omega)
  have last : ∀ (t p : Int), I64 t → 0 ≤ p → p ≤ 900000 → ∃ t' s' p', (∀ k, 2 ≤ k → spec_l14AnySpan.j0 k b p t s = some (t', s', p')) ∧ I64 t' ∧ I64 s' := by
    intro t p it hp hp'
    obtain ⟨r, hr, _, _⟩ := pick_ge hb hp (by omega) (n := 20) (by omega)
    by_cases h0 : r = 0
    · obtain ⟨x, hx, mx⟩ := one_ge hb (p := p + 1) (by omega) (by omega) (l := [4000001, (-4000001)]) (by decide)
      refine ⟨t, x, p + 1 + 1, fun k hk => ?_, it, mem3 mx (by unfold I64; decide)⟩
      obtain ⟨k, rfl⟩ : ∃ m, k = m + 1 := ⟨k - 1, by omega⟩
      rw [spec_l14AnySpan.j0, hr k (by omega)]; simp only [bS]
      rw [if_pos h0, hx k (by omega)]; simp only [bS]
    · refine ⟨t, s, p + 1, fun k hk => ?_, it, is⟩
      obtain ⟨k, rfl⟩ : ∃ m, k = m + 1 := ⟨k - 1, by omega⟩
      rw [spec_l14AnySpan.j0, hr k (by omega)]; simp only [bS]
      rw [if_neg h0]
  by_cases h0 : r = 0
  · obtain ⟨x, hx, mx⟩ := one_ge hb (p := q + 1) (by omega) (by omega) (l := [120001, (-120001)]) (by decide)
    obtain ⟨t', s', p', hl, l1, l2⟩ := last x (q + 1 + 1) (mem3 mx (by unfold I64; decide)) (by omega) (by omega)
    refine ⟨t', s', p', fun k hk => ?_, l1, l2⟩
    unfold spec_l14AnySpan.f
    rw [hs k (by omega)]; simp only [bS]
    rw [hr k (by omega)]; simp only [bS]
    rw [if_pos h0, hx k (by omega)]; simp only [bS]
    exact hl k hk
  · obtain ⟨t', s', p', hl, l1, l2⟩ := last t (q + 1) it (by omega) (by omega)
    refine ⟨t', s', p', fun k hk => ?_, l1, l2⟩
    unfold spec_l14AnySpan.f
    rw [hs k (by omega)]; simp only [bS]
    rw [hr k (by omega)]; simp only [bS]
    rw [if_neg h0]
    exact hl k hk
theorem drawSpanPut_any {l : List Int} (hl : ∀ x ∈ l, (Lit.int .u8 x).wf = true) : ∃ t s, (∀ k, 2 ≤ k → spec_DrawSpanPut.f k l = some (t, s)) ∧ I64 t ∧ I64 s := by
  obtain ⟨b, hb, hB⟩ := open_any hl
  obtain ⟨t, s, q, hs, i1, i2⟩ := anySpan_any hB (p := 0) (by omega) (by omega)
  refine ⟨t, s, fun k hk => ?_, i1, i2⟩
  unfold spec_DrawSpanPut.f
  rw [hb]; simp only [bS]
  rw [hs k hk]; simp only [bS]
theorem drawSpanGet_any {l : List Int} (hl : ∀ x ∈ l, (Lit.int .u8 x).wf = true) : ∃ s, (∀ k, 30 ≤ k → spec_DrawSpanGet.f k l = some (str s)) ∧ s.length ≤ 1000 := by
  obtain ⟨b, hb, hB⟩ := open_any hl
  obtain ⟨r, hr, _, _⟩ := pick_ge hB (p := 0) (by omega) (by omega) (n := 8) (by omega)
  by_cases h0 : r = 0
  · obtain ⟨v, hv, v1⟩ := of_any hB (p := 0 + 1) (by omega) (by omega) (l := [(⟨#[]⟩ : ByteArray), (⟨#[109]⟩ : ByteArray), (⟨#[48, 109, 48, 100]⟩ : ByteArray), (⟨#[45, 48, 109, 48, 100]⟩ : ByteArray), (⟨#[51, 109]⟩ : ByteArray), (⟨#[52, 100]⟩ : ByteArray), (⟨#[49, 50, 48, 48, 48, 49, 109, 48, 100]⟩ : ByteArray), (⟨#[49, 109, 50, 109, 51, 100]⟩ : ByteArray)]) (by simp) 10 (by decide)
    refine ⟨v, fun k hk => ?_, by omega⟩
    unfold spec_DrawSpanGet.f
    rw [hb]; simp only [bS]
    rw [hr k (by omega)]; simp only [bS]
    rw [if_pos h0, hv k (by omega)]; simp only [bS]
  · obtain ⟨t, s, q, hs, q1, q2, it, is⟩ := span_any hB (p := 0 + 1) (by omega) (by omega)
    have lt : (spanT t s).length ≤ 50 := by
      have := itoa_len it.1 it.2
      have := itoa_len is.1 is.2
      unfold spanT
      simp only [List.length_append, List.length_cons, List.length_nil]; omega
    obtain ⟨v, p', hv, v1⟩ := bent_any hB (p := q) (by omega) (by omega) (spanT t s) (by omega)
    refine ⟨v, fun k hk => ?_, by omega⟩
    unfold spec_DrawSpanGet.f
    rw [hb]; simp only [bS]
    rw [hr k (by omega)]; simp only [bS]
    rw [if_neg h0, hs k (by omega)]; simp only [bS]
    rw [specSpanT it is k (by omega)]; simp only [bS]
    rw [hv k (by omega)]; simp only [bS]
end Go.Proofs.YtgeloncilhighaaDoor.Drw
end
section
namespace Go.Proofs.YtgeloncilhighaaDoor.Pure
open Go.RowKit Go.Proofs.YtgeloncilhighaaDoor.Pr Go.Proofs.YtgeloncilhighaaDoor.Ext Go.Proofs.YtgeloncilhighaaDoor.Str Go.Proofs.YtgeloncilhighaaDoor.Drw Go.Proofs.YtgeloncilhighaaDoorW.PrintWords Go.Proofs.YtgeloncilhighaaDoorW.PrintLast Go.Proofs.YtgeloncilhighaaDoorW.PrintMore
set_option linter.unusedVariables false
set_option linter.unusedSimpArgs false
theorem spanOk_i64 {a b : Int} (h : spanOk a b) : I64 a ∧ I64 b := by unfold spanOk at h; unfold I64; omega
theorem spanPut_j1 {l : List Int} (hl : ∀ x ∈ l, (Lit.int .u8 x).wf = true) (k : Nat) (hk : 3000 ≤ k) : laws_FnSpanPut.j1 k l false = some true := by
  obtain ⟨k, rfl⟩ : ∃ j, k = j + 1 := ⟨k - 1, by omega⟩
  obtain ⟨s, hs, ls⟩ := drawSpanGet_any hl
  obtain ⟨r, h1, t1⟩ := implSpanGet s (by omega)
  obtain ⟨r', h2, t2⟩ := specSpanGet s (by omega) k (by omega)
  obtain rfl := t1.uniq t2
  rw [laws_FnSpanPut.j1, if_neg (by decide), hs k (by omega)]; simp only [bS]
  rw [h1]; simp only [bS]
  rw [h2]; simp only [bS]
  rw [if_pos (by simp), if_pos (by simp)]
  rcases t1 with ⟨e, o, e2⟩ | ⟨e, _⟩
  · rw [if_pos e, implSpanPut (spanOk_i64 o).1 (spanOk_i64 o).2]; simp only [bS]
    rw [str_toList, str_toList]
    unfold spanP
    rw [if_pos o, ← e2]
    simp
  · rw [e]
    simp
theorem FnSpanPut {l m : List Int} (hl : ∀ x ∈ l, (Lit.int .u8 x).wf = true) (hm : ∀ x ∈ m, (Lit.int .u8 x).wf = true) : laws_FnSpanPut.f 4000 l m = some true := by
  unfold laws_FnSpanPut.f
  have go : ∀ b, laws_FnSpanPut.j0 (3999 + 1) l m b = some true := by
    intro b
    rw [laws_FnSpanPut.j0]
    cases b with
    | true => rw [if_pos rfl]
    | false =>
      rw [if_neg (by decide)]
      obtain ⟨a, d, hd, ia, id⟩ := drawSpanPut_any hl
      have lp : (spanP a d).length ≤ 50 := by
        have := itoa_len ia.1 ia.2
        have := itoa_len id.1 id.2
        unfold spanP spanT
        split
        · simp only [List.length_append, List.length_cons, List.length_nil]; omega
        · simp
      obtain ⟨r, h1, t1⟩ := implSpanGet (spanP a d) (by omega)
      rw [hd 3999 (by omega)]; simp only [bS]
      rw [implSpanPut ia id]; simp only [bS]
      rw [h1]; simp only [bS]
      rw [specSpanPut ia id 3999 (by omega)]; simp only [bS]
      rw [if_pos trivial, implSpanOk]; simp only [bS]
      unfold spec_SpanOk.f
      rw [specSpanOk]; simp only [bS]
      rw [if_neg (by simp)]
      have key : (spanOk a d ∧ r = (a, d, true)) ∨ (¬ spanOk a d ∧ r = (0, 0, false)) := by
        by_cases o : spanOk a d
        · left
          refine ⟨o, ?_⟩
          have hs : IsSpan (spanP a d) a d := ⟨o, by unfold spanP; rw [if_pos o]⟩
          rcases t1 with ⟨e, h⟩ | ⟨e, h⟩
          · obtain ⟨x, y, z⟩ := r
            obtain ⟨e1, e2⟩ := h.uniq hs
            simp only at *
            rw [e1, e2, e]
          · exact absurd hs (h _ _)
        · right
          refine ⟨o, ?_⟩
          rcases t1 with ⟨e, h⟩ | ⟨e, h⟩
          · exfalso
            have := h.2
            unfold spanP spanT at this
            rw [if_neg o] at this
            simp at this
          · exact e
      rcases key with ⟨o, rfl⟩ | ⟨o, rfl⟩
      · rw [decide_eq_true o, if_neg (by simp), if_pos rfl]
        simp only [beq_self_eq_true, Bool.not_true, Bool.or_self]
        exact spanPut_j1 hm 3999 (by omega)
      · rw [decide_eq_false o, if_neg (by simp), if_neg (by simp)]
        exact spanPut_j1 hm 3999 (by omega)
  split
  · exact go true
  · exact go _
end Go.Proofs.YtgeloncilhighaaDoor.Pure
end
section
namespace Go.Proofs.YtgeloncilhighaaDoor.LaidE
open Go Go.RowKit Go.Proofs.YtgeloncilhighaaDoor.Ext
set_option linter.unusedVariables false
theorem powType : (Tryd.prog.globals[4]?).map (·.type) = some 123 := by kernel_rfl
theorem powData : (Rows.laid_internal_strconv_uint64pow10 : DataW Unit) = Lib.tabData .u64 Lib.pow10Tab := rfl
theorem envI_of {r : List (String × DataW Unit)} {W : World} (h : laidMet Tryd.prog (("internal/strconv.uint64pow10", Rows.laid_internal_strconv_uint64pow10) :: r) W) : EnvI W :=
  Lib.tabIs_of_head gPow powType Tryd.underlying123 Tryd.underlying102 (by kernel_rfl) (by kernel_rfl) (powData ▸ h)
theorem star : "*" ++ "errors.errorString" = "*errors.errorString" := by decide
theorem rowErr (u : TypeId) (h : Tryd.prog.typeName? 3 u = some "*errors.errorString") : u = 131 :=
  typeName_ptr_named (nm := "errors.errorString") (by rw [star]; kernel_rfl) (by kernel_rfl) (by decide) u (by rw [star]; exact h)
theorem gSyn : Tryd.prog.globalNamed "strconv.ErrSyntax" = some 2 := by kernel_rfl
theorem gRan : Tryd.prog.globalNamed "strconv.ErrRange" = some 3 := by kernel_rfl
theorem gSynType : (Tryd.prog.globals[2]?).map (·.type) = some 57 := by kernel_rfl
theorem gRanType : (Tryd.prog.globals[3]?).map (·.type) = some 57 := by kernel_rfl
theorem cellsE : Tryd.prog.cellsOf 133 = 1 := by kernel_rfl
theorem cellsS : Tryd.prog.cellsOf 9 = 1 := by kernel_rfl
theorem syn_of {r : List (String × DataW Unit)} {W : World} (h : laidMet Tryd.prog (("strconv.ErrSyntax", Rows.laid_strconv_ErrSyntax) :: r) W) : HoldsErr 2 W := by
  obtain ⟨a0, s0, hv0, -, -, -⟩ := laid_sentinel h gSyn gSynType Tryd.underlying57 rowErr Tryd.underlying131 Tryd.underlying133 rfl rfl Tryd.underlying9 cellsE cellsS
  exact ⟨_, by simpa using World.var?_cell gSyn hv0 0, .inr ⟨_, _, rfl⟩⟩
theorem ran_of {r : List (String × DataW Unit)} {W : World} (h : laidMet Tryd.prog (("strconv.ErrRange", Rows.laid_strconv_ErrRange) :: r) W) : HoldsErr 3 W := by
  obtain ⟨a0, s0, hv0, -, -, -⟩ := laid_sentinel h gRan gRanType Tryd.underlying57 rowErr Tryd.underlying131 Tryd.underlying133 rfl rfl Tryd.underlying9 cellsE cellsS
  exact ⟨_, by simpa using World.var?_cell gRan hv0 0, .inr ⟨_, _, rfl⟩⟩
theorem len_of {W : World} (h : W.ShapedOpen Tryd.prog) : ∃ m, W.cell? ⟨1, 0, none⟩ = some (.int .i64 m) :=
  cell_of_shapedOpen_int h (of_decide_eq_true (by kernel_rfl)) (t := 3) (zero := #[.int .i64 0]) (by kernel_rfl) rfl (by kernel_rfl) (by kernel_rfl) Tryd.underlying3
end Go.Proofs.YtgeloncilhighaaDoor.LaidE
end
