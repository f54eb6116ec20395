/- What the claim's row needs of the contracts and words below it, and no more. -/
import Derived.Test.YtdbgpoileffbeaaGreatDoorQDw3
import Derived.Lib.AtoiAllMem
import Derived.Lib.IndexLaws
import Derived.Lib.AtoiAllCases
import Derived.Test.YtdbgpoileffbeaaGreatDoorRows
import Derived.Stop.LaidErr
import Derived.Lib.LaidTab
import Derived.Shelf.Vars
import Derived.SizedLaws
import Derived.KernelRfl
section
namespace Go.Proofs.YtdbgpoileffbeaaGreatDoor.Pw
open Go.Proofs.YtdbgpoileffbeaaGreatDoor.Pr Go.Proofs.YtdbgpoileffbeaaGreatDoor.RWs Go.RowKit Go.Proofs.YtdbgpoileffbeaaGreatDoorW.PrintWords Go.Proofs.YtdbgpoileffbeaaGreatDoorW.PrintLast Go.Proofs.YtdbgpoileffbeaaGreatDoor.Ext Go.Proofs.YtdbgpoileffbeaaGreatDoorW.PrintMore
attribute [local go_sem] max2_int min2_int max_two min_two max_three min_three max_four min_four
set_option linter.unusedVariables false
set_option linter.unusedSimpArgs false
set_option maxHeartbeats 8000000 in
set_option maxRecDepth 100000 in
theorem impl_DecGet.calls (k : Nat) (a0 : ByteArray) (r1 : Bool) (r2 : List Int) (r3 : Int) (r4 : Bool) (w : World) (hT : EnvA w) (h : impl_DecGet.f k a0 = some (r1, r2, r3, r4)) :
    Calls Tryz.prog 7 #[.string a0] w fun e w' => ∃ v1_ : Value, e = .returned (.tuple #[.agg #[.bool r1, v1_, .int .i64 r3], .bool r4]) ∧ Kd.RW (Kd.int .i64) 3 w' w.heap.size (fun _ => True) v1_ r2 ∧ Below w.heap.size w w' := by
  have hu26 := Tryz.underlying26
  have hu24 := Tryz.underlying24
  have HB := Aside0.mk (Below.refl w.heap.size w)
  have HT := Aside0.mk hT
  clear hT
  have H : ((lib_CutPrefix.f a0 (⟨#[45]⟩ : ByteArray)).bind fun bt243 => ((lib_Cut.f bt243.1 (⟨#[46]⟩ : ByteArray)).bind fun bt245 => (if bt245.1.size + bt245.2.1.size ≤ 9223372036854775807 then ((impl_isDigits.f k (bt245.1 ++ bt245.2.1)).bind fun t248 => (if t248 = true then (impl_DecGet.j0 k a0 bt243.2 bt245.2.1 (bt245.1 ++ bt245.2.1) (decide (((bt245.1 ++ bt245.2.1).size : Int) > 120))) else (impl_DecGet.j0 k a0 bt243.2 bt245.2.1 (bt245.1 ++ bt245.2.1) true))) else (none)))) = some (r1, r2, r3, r4) := h
  clear h
  replace H := Option.bind_eq_some_iff.mp H
  obtain ⟨⟨t243, t244⟩, A20, H⟩ := H
  replace H : ((lib_Cut.f t243 (⟨#[46]⟩ : ByteArray)).bind fun bt245 => (if bt245.1.size + bt245.2.1.size ≤ 9223372036854775807 then ((impl_isDigits.f k (bt245.1 ++ bt245.2.1)).bind fun t248 => (if t248 = true then (impl_DecGet.j0 k a0 t244 bt245.2.1 (bt245.1 ++ bt245.2.1) (decide (((bt245.1 ++ bt245.2.1).size : Int) > 120))) else (impl_DecGet.j0 k a0 t244 bt245.2.1 (bt245.1 ++ bt245.2.1) true))) else (none))) = some (r1, r2, r3, r4) := H
  have A2 := Aside0.mk A20
  clear A20
  replace H := Option.bind_eq_some_iff.mp H
  obtain ⟨⟨t245, t246, t247⟩, A30, H⟩ := H
  replace H : (if t245.size + t246.size ≤ 9223372036854775807 then ((impl_isDigits.f k (t245 ++ t246)).bind fun t248 => (if t248 = true then (impl_DecGet.j0 k a0 t244 t246 (t245 ++ t246) (decide (((t245 ++ t246).size : Int) > 120))) else (impl_DecGet.j0 k a0 t244 t246 (t245 ++ t246) true))) else (none)) = some (r1, r2, r3, r4) := H
  have A3 := Aside0.mk A30
  clear A30
  by_cases c4 : t245.size + t246.size ≤ 9223372036854775807
  · rw [if_pos c4] at H
    have c4b0 := eq_true c4
    have c4b1 : decide (t245.size + t246.size ≤ 9223372036854775807) = true := decide_eq_true c4
    try have c4b2 : (9223372036854775807 < t245.size + t246.size) = False := eq_false (Nat.not_lt.2 c4)
    have HC5 := Aside0.mk H
    clear H
    go_enter Tryz.func7, Tryz.ntmps7
    go_upto_region 4 with (first | ((with_reducible refine gate_dst (N := 2) rfl ?_); (try (refine gate_guard (by rfl) ?_; dsimp only)); refine box_event ?hg (N := 2) ?hd (cs := #[.bool false, .slice none 0 0, .int .i64 0]) (t := 26) ?hr ?_; (case hd => rfl); (case hg => rfl); (case hr => first | (go_simp; done) | (go_simp; rfl)); intro gb242 hg w6 hbox hb; have n0_ := Aside0.mk (below_step zb hb); have n1_ := Aside0.mk (hbox); have n2_ := Aside0.mk ((by rw [hg]; exact (below_size zb) : w.heap.size ≤ gb242)); have n3_ := Aside0.mk ((by rw [hg]; exact (below_size zb) : w.heap.size ≤ gb242)); clear HB; have HB := n0_; have BK242 := n1_; have GW242 := n2_; have GE242 := n3_; clear n0_ n1_ n2_ n3_; clear hb hbox hg) | ((with_reducible refine gate_callee (f := 18) rfl ?_); refine goesL_ (some 15) rfl rfl Tryz.func18 (by kernel_rfl) rfl #[.string a0, .string (⟨#[45]⟩ : ByteArray)] rfl za ?_; (with_reducible refine (lib_CutPrefix.calls a0 (⟨#[45]⟩ : ByteArray) t243 t244 _ A2.out).mono ?_); rintro e w' ⟨rfl, ⟨nd, rfl⟩⟩; refine ⟨_, rfl, ?_⟩) | ((with_reducible refine gate_callee (f := 19) rfl ?_); refine goesL_ (some 20) rfl rfl Tryz.func19 (by kernel_rfl) rfl #[.string t243, .string (⟨#[46]⟩ : ByteArray)] rfl za ?_; (with_reducible refine (lib_Cut.calls t243 (⟨#[46]⟩ : ByteArray) t245 t246 t247 _ ?side1 A3.out).mono ?_); (case side1 => exact HT.out.below zb); rintro e w7 ⟨rfl, hb⟩; refine ⟨_, rfl, ?_⟩; have n0_ := Aside0.mk (blk_below (g := gb242) (o := .cells #[.bool false, .slice none 0 0, .int .i64 0] 26 (0, 0)) (zk BK242.out) hb); have n1_ := Aside0.mk (below_step zb hb); clear BK242; clear HB; have BK242 := n0_; have HB := n1_; clear n0_ n1_; (try clear hb); (try clear hb2); (try clear hk); (try clear hi)))
    (try simp only [Act.put, List.setIfInBounds_toArray, List.set_cons_zero, List.set_cons_succ])
    go_cut [34] (fun v34 wc => ∃ (kq : Nat) (x34_4 : Bool), v34 = .bool x34_4 ∧ Aside0 (impl_DecGet.j0 kq a0 t244 t246 (t245 ++ t246) x34_4 = some (r1, r2, r3, r4)) ∧ Aside0 (kq ≤ k) ∧ Aside0 (wc.heap[gb242]? = some (.cells #[.bool false, (.slice none 0 0), .int .i64 0] 26 (0, 0))) ∧ Aside0 (Below w.heap.size w wc))
    case first =>
      have H := HC5.out
      clear HC5
      replace H := Option.bind_eq_some_iff.mp H
      obtain ⟨t248, A80, H⟩ := H
      replace H : (if t248 = true then (impl_DecGet.j0 k a0 t244 t246 (t245 ++ t246) (decide (((t245 ++ t246).size : Int) > 120))) else (impl_DecGet.j0 k a0 t244 t246 (t245 ++ t246) true)) = some (r1, r2, r3, r4) := H
      have A8 := Aside0.mk A80
      clear A80
      by_cases c9 : t248 = true
      · subst c9
        have H1 : (impl_DecGet.j0 k a0 t244 t246 (t245 ++ t246) (decide (((t245 ++ t246).size : Int) > 120))) = some (r1, r2, r3, r4) := by rw [if_pos rfl] at H; exact H
        clear H
        have H := H1
        clear H1
        have H' := Aside0.mk H
        clear H
        go_wp2_with (first | ((with_reducible refine gate_callee (f := 20) rfl ?_); refine goesL_ (some 28) rfl rfl Tryz.func20 (by kernel_rfl) rfl #[.string (t245 ++ t246)] rfl za ?_; (with_reducible refine (impl_isDigits.calls k (t245 ++ t246) true _ A8.out).mono ?_); rintro e w' ⟨rfl, ⟨nd, rfl⟩⟩; refine ⟨_, rfl, ?_⟩))
        go_meet
        case rel => exact ⟨_, (decide (((t245 ++ t246).size : Int) > 120)), (by first | rfl | (simp; done) | (simp [*]; done)), H', ⟨by first | omega | exact Nat.le_refl _⟩, ⟨by (with_reducible repeat (first | refine blk_drewN ?_ _ | refine blk_drew ?_ | refine blk_alloc ?_ _)); exact BK242.out⟩, ⟨zb⟩⟩
      · replace c9 := Bool.eq_false_iff.mpr c9
        subst c9
        have H1 : (impl_DecGet.j0 k a0 t244 t246 (t245 ++ t246) true) = some (r1, r2, r3, r4) := by rw [if_neg (show ¬ (false = true) by decide)] at H; exact H
        clear H
        have H := H1
        clear H1
        have H' := Aside0.mk H
        clear H
        go_wp2_with (first | ((with_reducible refine gate_callee (f := 20) rfl ?_); refine goesL_ (some 28) rfl rfl Tryz.func20 (by kernel_rfl) rfl #[.string (t245 ++ t246)] rfl za ?_; (with_reducible refine (impl_isDigits.calls k (t245 ++ t246) false _ A8.out).mono ?_); rintro e w' ⟨rfl, ⟨nd, rfl⟩⟩; refine ⟨_, rfl, ?_⟩))
        go_meet
        case rel => exact ⟨_, (true), (by first | rfl | (simp; done) | (simp [*]; done)), H', ⟨by first | omega | exact Nat.le_refl _⟩, ⟨by (with_reducible repeat (first | refine blk_drewN ?_ _ | refine blk_drew ?_ | refine blk_alloc ?_ _)); exact BK242.out⟩, ⟨zb⟩⟩
    case rest =>
      clear HC5
      try clear c1
      try clear c2
      try clear p2
      try clear c4
      try clear c4b0
      try clear c4b1
      try clear c4b2
      try clear c7
      try clear c9
      obtain ⟨kq, x34_4, rfl, HA, HJ4, BK242, HB⟩ := hcut
      cases kq with
      | zero => exact absurd HA.out (by simp [impl_DecGet.j0])
      | succ kj4 =>
        have H := HA.out
        clear HA
        simp only [impl_DecGet.j0] at H
        by_cases c10 : x34_4 = true
        · subst c10
          have H1 : (some (false, ([] : List Int), 0, false)) = some (r1, r2, r3, r4) := by rw [if_pos rfl] at H; exact H
          clear H
          have H := H1
          clear H1
          simp only [Option.some.injEq, Prod.mk.injEq] at H
          obtain ⟨rfl, rfl, rfl, rfl⟩ := H
          have hcz11_0 : wc.cell? ⟨gb242, 0, none⟩ = some (.bool false) := (blk_cell BK242.out 0).trans rfl
          have hcz11_1 : wc.cell? ⟨gb242, 1, none⟩ = some (.slice none 0 0) := (blk_cell BK242.out 1).trans rfl
          have hcz11_2 : wc.cell? ⟨gb242, 2, none⟩ = some (.int .i64 0) := (blk_cell BK242.out 2).trans rfl
          have hfz11_0 := blk_frozen BK242.out 0
          have hfz11_1 := blk_frozen BK242.out 1
          have hfz11_2 := blk_frozen BK242.out 2
          go_wp2
          refine bodyPost_ret (results_ct rfl _ _ gb242 26 #[.bool false, .slice none 0 0, .int .i64 0] (0, 0) _ rfl (by (with_reducible repeat (first | refine blk_drewN ?_ _ | refine blk_drew ?_ | refine blk_alloc ?_ _)); refine blk_put (cs := #[.bool false, .slice none 0 0, .int .i64 0]) ?_ 2 _ rfl; (with_reducible repeat (first | refine blk_drewN ?_ _ | refine blk_drew ?_ | refine blk_alloc ?_ _)); refine blk_put (cs := #[.bool false, .slice none 0 0, .int .i64 0]) ?_ 1 _ rfl; (with_reducible repeat (first | refine blk_drewN ?_ _ | refine blk_drew ?_ | refine blk_alloc ?_ _)); refine blk_put (cs := #[.bool false, .slice none 0 0, .int .i64 0]) ?_ 0 _ rfl; (with_reducible repeat (first | refine blk_drewN ?_ _ | refine blk_drew ?_ | refine blk_alloc ?_ _)); exact BK242.out) Tryz.underlying26 rfl (by kernel_rfl)) rfl ?_
          exact ⟨_, by first | rfl | (simp [errW_none, errW_some] <;> rfl) | (simp [*, errW_none, errW_some] <;> rfl), by first | exact Kd.RW_nil _ _ _ _ _ | exact Kd.N_nil _ _ _ _ _ | exact Kd.V_nil _ _ _ _ _ | exact Kd.Q_nil _ _ _ _ _ | exact Kd.S_nil _ _ _ _ _, zb⟩
        · replace c10 := Bool.eq_false_iff.mpr c10
          subst c10
          have H1 : ((impl_readLimbs.f kj4 (t245 ++ t246)).bind fun t249 => ((impl_big.f kj4 t244 t249).bind fun bt252 => (if bt252.2.2 = true then ((impl_DecOk.f bt252.1 bt252.2.1 (t246.size : Int)).bind fun t259 => (if t259 = true then ((impl_DecPut.f bt252.1 bt252.2.1 (t246.size : Int)).bind fun t260 => (if t260.toList = a0.toList then (some (bt252.1, bt252.2.1, (t246.size : Int), true)) else (some (false, ([] : List Int), 0, false)))) else (some (false, ([] : List Int), 0, false)))) else (some (false, ([] : List Int), 0, false))))) = some (r1, r2, r3, r4) := by rw [if_neg (show ¬ (false = true) by decide)] at H; exact H
          clear H
          have H := H1
          clear H1
          replace H := Option.bind_eq_some_iff.mp H
          obtain ⟨t249, A120, H⟩ := H
          replace H : ((impl_big.f kj4 t244 t249).bind fun bt252 => (if bt252.2.2 = true then ((impl_DecOk.f bt252.1 bt252.2.1 (t246.size : Int)).bind fun t259 => (if t259 = true then ((impl_DecPut.f bt252.1 bt252.2.1 (t246.size : Int)).bind fun t260 => (if t260.toList = a0.toList then (some (bt252.1, bt252.2.1, (t246.size : Int), true)) else (some (false, ([] : List Int), 0, false)))) else (some (false, ([] : List Int), 0, false)))) else (some (false, ([] : List Int), 0, false)))) = some (r1, r2, r3, r4) := H
          have A12 := Aside0.mk A120
          clear A120
          replace H := Option.bind_eq_some_iff.mp H
          obtain ⟨⟨t252, t253, t256⟩, A130, H⟩ := H
          replace H : (if t256 = true then ((impl_DecOk.f t252 t253 (t246.size : Int)).bind fun t259 => (if t259 = true then ((impl_DecPut.f t252 t253 (t246.size : Int)).bind fun t260 => (if t260.toList = a0.toList then (some (t252, t253, (t246.size : Int), true)) else (some (false, ([] : List Int), 0, false)))) else (some (false, ([] : List Int), 0, false)))) else (some (false, ([] : List Int), 0, false))) = some (r1, r2, r3, r4) := H
          have A13 := Aside0.mk A130
          clear A130
          by_cases c14 : t256 = true
          · subst c14
            have H1 : ((impl_DecOk.f t252 t253 (t246.size : Int)).bind fun t259 => (if t259 = true then ((impl_DecPut.f t252 t253 (t246.size : Int)).bind fun t260 => (if t260.toList = a0.toList then (some (t252, t253, (t246.size : Int), true)) else (some (false, ([] : List Int), 0, false)))) else (some (false, ([] : List Int), 0, false)))) = some (r1, r2, r3, r4) := by rw [if_pos rfl] at H; exact H
            clear H
            have H := H1
            clear H1
            replace H := Option.bind_eq_some_iff.mp H
            obtain ⟨t259, A150, H⟩ := H
            replace H : (if t259 = true then ((impl_DecPut.f t252 t253 (t246.size : Int)).bind fun t260 => (if t260.toList = a0.toList then (some (t252, t253, (t246.size : Int), true)) else (some (false, ([] : List Int), 0, false)))) else (some (false, ([] : List Int), 0, false))) = some (r1, r2, r3, r4) := H
            have A15 := Aside0.mk A150
            clear A150
            by_cases c16 : t259 = true
            · subst c16
              have H1 : ((impl_DecPut.f t252 t253 (t246.size : Int)).bind fun t260 => (if t260.toList = a0.toList then (some (t252, t253, (t246.size : Int), true)) else (some (false, ([] : List Int), 0, false)))) = some (r1, r2, r3, r4) := by rw [if_pos rfl] at H; exact H
              clear H
              have H := H1
              clear H1
              replace H := Option.bind_eq_some_iff.mp H
              obtain ⟨t260, A170, H⟩ := H
              replace H : (if t260.toList = a0.toList then (some (t252, t253, (t246.size : Int), true)) else (some (false, ([] : List Int), 0, false))) = some (r1, r2, r3, r4) := H
              have A17 := Aside0.mk A170
              clear A170
              by_cases c18 : t260.toList = a0.toList
              · rw [if_pos c18] at H
                have c18b0 : (t260.toList == a0.toList) = true := beq_iff_eq.mpr c18
                have c18b1 : (t260.toList != a0.toList) = false := bne_eq_false_iff_eq.mpr c18
                clear c18
                simp only [Option.some.injEq, Prod.mk.injEq] at H
                obtain ⟨rfl, rfl, rfl, rfl⟩ := H
                go_wp2_with (first | ((with_reducible refine gate_callee (f := 22) rfl ?_); refine goesL_ (some 39) rfl rfl Tryz.func22 (by kernel_rfl) rfl #[.string (t245 ++ t246)] rfl za ?_; (with_reducible refine (impl_readLimbs.calls kj4 (t245 ++ t246) t249 _ ?side1 A12.out).mono ?_); (case side1 => exact HT.out.below zb); rintro e w19 ⟨v250, rfl, ho0, hb⟩; refine ⟨_, rfl, ?_⟩; have n0_ := Aside0.mk (Kd.V_lower (Kd.V_mono (ok' := fun k_ => k_ ≠ gb242) ho0 (fun k_ hk_ => (Kd.freshB (g := gb242) (o := .cells #[.bool false, .slice none 0 0, .int .i64 0] 26 (0, 0)) (zk BK242.out) k_ hk_))) (below_size zb)); have n1_ := Aside0.mk (blk_below (g := gb242) (o := .cells #[.bool false, .slice none 0 0, .int .i64 0] 26 (0, 0)) (zk BK242.out) hb); have n2_ := Aside0.mk (below_step zb hb); clear BK242; clear HB; have HO251 := n0_; have BK242 := n1_; have HB := n2_; clear n0_ n1_ n2_; (try clear hb); (try clear hb2); (try clear hk); (try clear hi); (try clear ho0); obtain ⟨Ao20, co20, eo20⟩ := Kd.V_slice HO251.out; subst eo20) | ((with_reducible refine gate_callee (f := 21) rfl ?_); refine goesL_ (some 40) rfl rfl Tryz.func21 (by kernel_rfl) rfl #[.bool t244, .slice Ao20 t249.length co20] rfl za ?_; (with_reducible refine (impl_big.calls kj4 t244 _ _ t249 t252 t253 true _ ?side1 ?side2 A13.out).mono ?_); (case side1 => repeat (first | exact (Kd.V_reads' HO251.out).2.2 | (with_reducible refine Kd.C_alloc ?_ _) | (with_reducible refine Kd.C_drewN ?_ _) | (with_reducible refine Kd.C_drew ?_))); (case side2 => exact (Kd.V_reads' HO251.out).2.1); rintro e w21 ⟨v254, rfl, ho0, hb⟩; refine ⟨_, rfl, ?_⟩; have n0_ := Aside0.mk (Kd.V_elder' (zV HO251.out) (Kd.RW_base ho0) hb); have n1_ := Aside0.mk (Kd.RW_lower ho0 (below_size zb)); have n2_ := Aside0.mk (blk_below (g := gb242) (o := .cells #[.bool false, .slice none 0 0, .int .i64 0] 26 (0, 0)) (zk BK242.out) hb); have n3_ := Aside0.mk (below_step zb hb); clear HO251; clear BK242; clear HB; have HO251 := n0_; have HO255 := n1_; have BK242 := n2_; have HB := n3_; clear n0_ n1_ n2_ n3_; (try clear hb); (try clear hb2); (try clear hk); (try clear hi); (try clear ho0)) | ((with_reducible refine gate_dst (N := 10) rfl ?_); (try (refine gate_guard (by rfl) ?_; dsimp only)); refine box_event ?hg (N := 10) ?hd (cs := #[.bool false, .slice none 0 0]) (t := 24) ?hr ?_; (case hd => rfl); (case hg => rfl); (case hr => first | (go_simp; done) | (go_simp; rfl)); intro gb257 hg w22 hbox hb; have n0_ := Aside0.mk (Kd.V_below (Kd.V_elderB (zV HO251.out) gb257 (Nat.le_of_eq hg.symm)) hb); have n1_ := Aside0.mk (Kd.RW_below (zRW HO255.out) hb); have n2_ := Aside0.mk (blk_below (g := gb242) (o := .cells #[.bool false, .slice none 0 0, .int .i64 0] 26 (0, 0)) (zk BK242.out) hb); have n3_ := Aside0.mk (below_step zb hb); have n4_ := Aside0.mk (hbox); have n5_ := Aside0.mk ((by rw [hg]; exact (below_size zb) : w.heap.size ≤ gb257)); have n6_ := Aside0.mk ((by rw [hg]; exact (below_size zb) : w.heap.size ≤ gb257)); have n7_ := Aside0.mk ((by rw [hg]; exact Nat.ne_of_lt (blk_lt (g := gb242) (o := .cells #[.bool false, .slice none 0 0, .int .i64 0] 26 (0, 0)) (zk BK242.out)) : gb242 ≠ gb257)); have n8_ := Aside0.mk ((by rw [hg]; exact Nat.ne_of_gt (blk_lt (g := gb242) (o := .cells #[.bool false, .slice none 0 0, .int .i64 0] 26 (0, 0)) (zk BK242.out)) : gb257 ≠ gb242)); clear HO251; clear HO255; clear BK242; clear HB; have HO251 := n0_; have HO255 := n1_; have BK242 := n2_; have HB := n3_; have BK257 := n4_; have GW257 := n5_; have GE257 := n6_; have NB242_257 := n7_; have NB257_242 := n8_; clear n0_ n1_ n2_ n3_ n4_ n5_ n6_ n7_ n8_; clear hb hbox hg; have hnb23 := NB257_242.out; have hnc23 := NB242_257.out; have hcz24_0 : w22.cell? ⟨gb257, 0, none⟩ = some (.bool false) := (blk_cell BK257.out 0).trans rfl; have hcz24_1 : w22.cell? ⟨gb257, 1, none⟩ = some (.slice none 0 0) := (blk_cell BK257.out 1).trans rfl; have hfz24_0 := blk_frozen BK257.out 0; have hfz24_1 := blk_frozen BK257.out 1; obtain ⟨Ao25, co25, eo25⟩ := Kd.RW_slice HO255.out; subst eo25) | ((with_reducible refine gate_dst (N := 12) rfl ?_); (try (refine gate_guard (by rfl) ?_; dsimp only)); refine box_event ?hg (N := 12) ?hd (cs := #[.bool false, .slice none 0 0, .int .i64 0]) (t := 26) ?hr ?_; (case hd => rfl); (case hg => rfl); (case hr => first | (go_simp; done) | (go_simp; rfl)); intro gb258 hg w26 hbox hb; have n0_ := Aside0.mk (Kd.V_below (Kd.V_elderB (by (with_reducible repeat (first | apply Kd.V_alloc | apply Kd.V_drewN | apply Kd.V_drew)); exact (Kd.V_mono (Kd.V_far (p := ⟨gb257, 1, none⟩) (Kd.V_far (p := ⟨gb257, 0, none⟩) (Kd.V_mono HO251.out (fun k_ hk => (⟨hk, hk.2⟩ : _ ∧ k_ ≠ gb257))) (fun _ hk => hk.2) (.bool t252)) (fun _ hk => hk.2) (.slice Ao25 t253.length co25)) (fun _ h_ => h_.1))) gb258 (Nat.le_of_eq hg.symm)) hb); have n1_ := Aside0.mk (Kd.RW_below (by (with_reducible repeat (first | apply Kd.RW_alloc | apply Kd.RW_drewN | apply Kd.RW_drew)); exact (Kd.RW_mono (Kd.RW_far (p := ⟨gb257, 1, none⟩) (Kd.RW_far (p := ⟨gb257, 0, none⟩) (Kd.RW_types HO255.out BK257.out (by decide)) (fun _ hk => hk.2) (.bool t252)) (fun _ hk => hk.2) (.slice Ao25 t253.length co25)) (fun _ h_ => h_.1))) hb); have n2_ := Aside0.mk (blk_below (g := gb242) (o := .cells #[.bool false, .slice none 0 0, .int .i64 0] 26 (0, 0)) (zk BK242.out) hb); have n3_ := Aside0.mk (blk_below (g := gb257) (o := .cells #[.bool t252, .slice Ao25 t253.length co25] 24 (0, 0)) (by (with_reducible repeat (first | refine blk_drewN ?_ _ | refine blk_drew ?_ | refine blk_alloc ?_ _)); refine blk_put (cs := #[.bool t252, .slice none 0 0]) ?_ 1 _ rfl; (with_reducible repeat (first | refine blk_drewN ?_ _ | refine blk_drew ?_ | refine blk_alloc ?_ _)); refine blk_put (cs := #[.bool false, .slice none 0 0]) ?_ 0 _ rfl; (with_reducible repeat (first | refine blk_drewN ?_ _ | refine blk_drew ?_ | refine blk_alloc ?_ _)); exact BK257.out) hb); have n4_ := Aside0.mk (below_step zb hb); have n5_ := Aside0.mk (hbox); have n6_ := Aside0.mk ((by rw [hg]; exact (below_size zb) : w.heap.size ≤ gb258)); have n7_ := Aside0.mk ((by rw [hg]; exact (below_size zb) : w.heap.size ≤ gb258)); have n8_ := Aside0.mk ((by rw [hg]; exact Nat.ne_of_lt (blk_lt (g := gb242) (o := .cells #[.bool false, .slice none 0 0, .int .i64 0] 26 (0, 0)) (zk BK242.out)) : gb242 ≠ gb258)); have n9_ := Aside0.mk ((by rw [hg]; exact Nat.ne_of_gt (blk_lt (g := gb242) (o := .cells #[.bool false, .slice none 0 0, .int .i64 0] 26 (0, 0)) (zk BK242.out)) : gb258 ≠ gb242)); have n10_ := Aside0.mk ((by rw [hg]; exact Nat.ne_of_lt (blk_lt (g := gb257) (o := .cells #[.bool t252, .slice Ao25 t253.length co25] 24 (0, 0)) (by (with_reducible repeat (first | refine blk_drewN ?_ _ | refine blk_drew ?_ | refine blk_alloc ?_ _)); refine blk_put (cs := #[.bool t252, .slice none 0 0]) ?_ 1 _ rfl; (with_reducible repeat (first | refine blk_drewN ?_ _ | refine blk_drew ?_ | refine blk_alloc ?_ _)); refine blk_put (cs := #[.bool false, .slice none 0 0]) ?_ 0 _ rfl; (with_reducible repeat (first | refine blk_drewN ?_ _ | refine blk_drew ?_ | refine blk_alloc ?_ _)); exact BK257.out)) : gb257 ≠ gb258)); have n11_ := Aside0.mk ((by rw [hg]; exact Nat.ne_of_gt (blk_lt (g := gb257) (o := .cells #[.bool t252, .slice Ao25 t253.length co25] 24 (0, 0)) (by (with_reducible repeat (first | refine blk_drewN ?_ _ | refine blk_drew ?_ | refine blk_alloc ?_ _)); refine blk_put (cs := #[.bool t252, .slice none 0 0]) ?_ 1 _ rfl; (with_reducible repeat (first | refine blk_drewN ?_ _ | refine blk_drew ?_ | refine blk_alloc ?_ _)); refine blk_put (cs := #[.bool false, .slice none 0 0]) ?_ 0 _ rfl; (with_reducible repeat (first | refine blk_drewN ?_ _ | refine blk_drew ?_ | refine blk_alloc ?_ _)); exact BK257.out)) : gb258 ≠ gb257)); clear HO251; clear HO255; clear BK242; clear BK257; clear HB; have HO251 := n0_; have HO255 := n1_; have BK242 := n2_; have BK257 := n3_; have HB := n4_; have BK258 := n5_; have GW258 := n6_; have GE258 := n7_; have NB242_258 := n8_; have NB258_242 := n9_; have NB257_258 := n10_; have NB258_257 := n11_; clear n0_ n1_ n2_ n3_ n4_ n5_ n6_ n7_ n8_ n9_ n10_ n11_; clear hb hbox hg; have hnb27 := NB258_242.out; have hnc27 := NB242_258.out; have hnb28 := NB258_257.out; have hnc28 := NB257_258.out; have hcz29_0 : w26.cell? ⟨gb258, 0, none⟩ = some (.bool false) := (blk_cell BK258.out 0).trans rfl; have hcz29_1 : w26.cell? ⟨gb258, 1, none⟩ = some (.slice none 0 0) := (blk_cell BK258.out 1).trans rfl; have hcz29_2 : w26.cell? ⟨gb258, 2, none⟩ = some (.int .i64 0) := (blk_cell BK258.out 2).trans rfl; have hfz29_0 := blk_frozen BK258.out 0; have hfz29_1 := blk_frozen BK258.out 1; have hfz29_2 := blk_frozen BK258.out 2) | (go_at_call 16; (with_reducible refine (impl_DecOk.calls t252 _ _ t253 (t246.size : Int) true _ ?side1 ?side2 ?side3 A15.out).mono ?_); (case side1 => exact HT.out.toI.below zb); (case side2 => refine (Kd.RW_reads' (e := 3) (base := w.heap.size) (ok := fun k_ => True) (n := t253.length) (c := co25) ?_).2.2; exact (by (with_reducible repeat (first | apply Kd.RW_alloc | apply Kd.RW_drewN | apply Kd.RW_drew)); exact (Kd.RW_mono (Kd.RW_far (p := ⟨gb258, 2, none⟩) (Kd.RW_far (p := ⟨gb258, 1, none⟩) (Kd.RW_far (p := ⟨gb258, 0, none⟩) (Kd.RW_types HO255.out BK258.out (by decide)) (fun _ hk => hk.2) (.bool t252)) (fun _ hk => hk.2) (.slice Ao25 t253.length co25)) (fun _ hk => hk.2) (.int .i64 (t246.size : Int))) (fun _ h_ => h_.1)))); (case side3 => exact (Kd.RW_reads' HO255.out).2.1); rintro e w30 ⟨rfl, hb⟩; have n0_ := Aside0.mk (Kd.V_below (by (with_reducible repeat (first | apply Kd.V_alloc | apply Kd.V_drewN | apply Kd.V_drew)); exact (Kd.V_mono (Kd.V_far (p := ⟨gb258, 2, none⟩) (Kd.V_far (p := ⟨gb258, 1, none⟩) (Kd.V_far (p := ⟨gb258, 0, none⟩) (Kd.V_mono HO251.out (fun k_ hk => (⟨hk, hk.2⟩ : _ ∧ k_ ≠ gb258))) (fun _ hk => hk.2) (.bool t252)) (fun _ hk => hk.2) (.slice Ao25 t253.length co25)) (fun _ hk => hk.2) (.int .i64 (t246.size : Int))) (fun _ h_ => h_.1))) hb); have n1_ := Aside0.mk (Kd.RW_below (by (with_reducible repeat (first | apply Kd.RW_alloc | apply Kd.RW_drewN | apply Kd.RW_drew)); exact (Kd.RW_mono (Kd.RW_far (p := ⟨gb258, 2, none⟩) (Kd.RW_far (p := ⟨gb258, 1, none⟩) (Kd.RW_far (p := ⟨gb258, 0, none⟩) (Kd.RW_types HO255.out BK258.out (by decide)) (fun _ hk => hk.2) (.bool t252)) (fun _ hk => hk.2) (.slice Ao25 t253.length co25)) (fun _ hk => hk.2) (.int .i64 (t246.size : Int))) (fun _ h_ => h_.1))) hb); have n2_ := Aside0.mk (blk_below (g := gb242) (o := .cells #[.bool false, .slice none 0 0, .int .i64 0] 26 (0, 0)) (zk BK242.out) hb); have n3_ := Aside0.mk (blk_below (g := gb257) (o := .cells #[.bool t252, .slice Ao25 t253.length co25] 24 (0, 0)) (zk BK257.out) hb); have n4_ := Aside0.mk (blk_below (g := gb258) (o := .cells #[.bool t252, .slice Ao25 t253.length co25, .int .i64 (t246.size : Int)] 26 (0, 0)) (by (with_reducible repeat (first | refine blk_drewN ?_ _ | refine blk_drew ?_ | refine blk_alloc ?_ _)); refine blk_put (cs := #[.bool t252, .slice Ao25 t253.length co25, .int .i64 0]) ?_ 2 _ rfl; (with_reducible repeat (first | refine blk_drewN ?_ _ | refine blk_drew ?_ | refine blk_alloc ?_ _)); refine blk_put (cs := #[.bool t252, .slice none 0 0, .int .i64 0]) ?_ 1 _ rfl; (with_reducible repeat (first | refine blk_drewN ?_ _ | refine blk_drew ?_ | refine blk_alloc ?_ _)); refine blk_put (cs := #[.bool false, .slice none 0 0, .int .i64 0]) ?_ 0 _ rfl; (with_reducible repeat (first | refine blk_drewN ?_ _ | refine blk_drew ?_ | refine blk_alloc ?_ _)); exact BK258.out) hb); have n5_ := Aside0.mk (below_step zb hb); clear HO251; clear HO255; clear BK242; clear BK257; clear BK258; clear HB; have HO251 := n0_; have HO255 := n1_; have BK242 := n2_; have BK257 := n3_; have BK258 := n4_; have HB := n5_; clear n0_ n1_ n2_ n3_ n4_ n5_; (try clear hb); (try clear hb2); (try clear hk); (try clear hi); have hcz31_0 : w30.cell? ⟨gb258, 0, none⟩ = some (.bool t252) := (blk_cell BK258.out 0).trans rfl; have hcz31_1 : w30.cell? ⟨gb258, 1, none⟩ = some (.slice Ao25 t253.length co25) := (blk_cell BK258.out 1).trans rfl; have hcz31_2 : w30.cell? ⟨gb258, 2, none⟩ = some (.int .i64 (t246.size : Int)) := (blk_cell BK258.out 2).trans rfl; have hfz31_0 := blk_frozen BK258.out 0; have hfz31_1 := blk_frozen BK258.out 1; have hfz31_2 := blk_frozen BK258.out 2) | (go_at_call 12; (with_reducible refine (impl_DecPut.calls t252 _ _ t253 (t246.size : Int) t260 _ ?side1 ?side2 ?side3 A17.out).mono ?_); (case side1 => exact HT.out.toI.below zb); (case side2 => repeat (first | exact (Kd.RW_reads' HO255.out).2.2 | (with_reducible refine Kd.C_alloc ?_ _) | (with_reducible refine Kd.C_drewN ?_ _) | (with_reducible refine Kd.C_drew ?_))); (case side3 => exact (Kd.RW_reads' HO255.out).2.1); rintro e w32 ⟨rfl, hb⟩; have n0_ := Aside0.mk (Kd.V_below (zV HO251.out) hb); have n1_ := Aside0.mk (Kd.RW_below (zRW HO255.out) hb); have n2_ := Aside0.mk (blk_below (g := gb242) (o := .cells #[.bool false, .slice none 0 0, .int .i64 0] 26 (0, 0)) (zk BK242.out) hb); have n3_ := Aside0.mk (blk_below (g := gb257) (o := .cells #[.bool t252, .slice Ao25 t253.length co25] 24 (0, 0)) (zk BK257.out) hb); have n4_ := Aside0.mk (blk_below (g := gb258) (o := .cells #[.bool t252, .slice Ao25 t253.length co25, .int .i64 (t246.size : Int)] 26 (0, 0)) (zk BK258.out) hb); have n5_ := Aside0.mk (below_step zb hb); clear HO251; clear HO255; clear BK242; clear BK257; clear BK258; clear HB; have HO251 := n0_; have HO255 := n1_; have BK242 := n2_; have BK257 := n3_; have BK258 := n4_; have HB := n5_; clear n0_ n1_ n2_ n3_ n4_ n5_; (try clear hb); (try clear hb2); (try clear hk); (try clear hi); have hcz33_0 : w32.cell? ⟨gb258, 0, none⟩ = some (.bool t252) := (blk_cell BK258.out 0).trans rfl; have hcz33_1 : w32.cell? ⟨gb258, 1, none⟩ = some (.slice Ao25 t253.length co25) := (blk_cell BK258.out 1).trans rfl; have hcz33_2 : w32.cell? ⟨gb258, 2, none⟩ = some (.int .i64 (t246.size : Int)) := (blk_cell BK258.out 2).trans rfl; have hfz33_0 := blk_frozen BK258.out 0; have hfz33_1 := blk_frozen BK258.out 1; have hfz33_2 := blk_frozen BK258.out 2; have hcz34_0 : w32.cell? ⟨gb242, 0, none⟩ = some (.bool false) := (blk_cell BK242.out 0).trans rfl; have hcz34_1 : w32.cell? ⟨gb242, 1, none⟩ = some (.slice none 0 0) := (blk_cell BK242.out 1).trans rfl; have hcz34_2 : w32.cell? ⟨gb242, 2, none⟩ = some (.int .i64 0) := (blk_cell BK242.out 2).trans rfl; have hfz34_0 := blk_frozen BK242.out 0; have hfz34_1 := blk_frozen BK242.out 1; have hfz34_2 := blk_frozen BK242.out 2))
                refine bodyPost_ret (results_ct rfl _ _ gb242 26 #[.bool t252, .slice Ao25 t253.length co25, .int .i64 (t246.size : Int)] (0, 0) _ rfl (by (with_reducible repeat (first | refine blk_drewN ?_ _ | refine blk_drew ?_ | refine blk_alloc ?_ _)); refine blk_put (cs := #[.bool t252, .slice Ao25 t253.length co25, .int .i64 0]) ?_ 2 _ rfl; (with_reducible repeat (first | refine blk_drewN ?_ _ | refine blk_drew ?_ | refine blk_alloc ?_ _)); refine blk_put (cs := #[.bool t252, .slice none 0 0, .int .i64 0]) ?_ 1 _ rfl; (with_reducible repeat (first | refine blk_drewN ?_ _ | refine blk_drew ?_ | refine blk_alloc ?_ _)); refine blk_put (cs := #[.bool false, .slice none 0 0, .int .i64 0]) ?_ 0 _ rfl; (with_reducible repeat (first | refine blk_drewN ?_ _ | refine blk_drew ?_ | refine blk_alloc ?_ _)); exact BK242.out) Tryz.underlying26 rfl (by kernel_rfl)) rfl ?_
                exact ⟨_, by first | rfl | (simp [errW_none, errW_some] <;> rfl) | (simp [*, errW_none, errW_some] <;> rfl), by (with_reducible repeat (first | apply Kd.RW_alloc | apply Kd.RW_drewN | apply Kd.RW_drew)); exact Kd.RW_mono (Kd.RW_far (p := ⟨gb242, 2, none⟩) (Kd.RW_far (p := ⟨gb242, 1, none⟩) (Kd.RW_far (p := ⟨gb242, 0, none⟩) (Kd.RW_types HO255.out BK242.out (by decide)) (fun _ hk => hk.2) (.bool t252)) (fun _ hk => hk.2) (.slice Ao25 t253.length co25)) (fun _ hk => hk.2) (.int .i64 (t246.size : Int))) (fun _ hk => trivial), zb⟩
              · rw [if_neg c18] at H
                have c18b0 : (t260.toList == a0.toList) = false := beq_eq_false_iff_ne.mpr c18
                have c18b1 : (t260.toList != a0.toList) = true := bne_iff_ne.mpr c18
                simp only [Option.some.injEq, Prod.mk.injEq] at H
                obtain ⟨rfl, rfl, rfl, rfl⟩ := H
                go_wp2_with (first | ((with_reducible refine gate_callee (f := 22) rfl ?_); refine goesL_ (some 39) rfl rfl Tryz.func22 (by kernel_rfl) rfl #[.string (t245 ++ t246)] rfl za ?_; (with_reducible refine (impl_readLimbs.calls kj4 (t245 ++ t246) t249 _ ?side1 A12.out).mono ?_); (case side1 => exact HT.out.below zb); rintro e w35 ⟨v250, rfl, ho0, hb⟩; refine ⟨_, rfl, ?_⟩; have n0_ := Aside0.mk (Kd.V_lower (Kd.V_mono (ok' := fun k_ => k_ ≠ gb242) ho0 (fun k_ hk_ => (Kd.freshB (g := gb242) (o := .cells #[.bool false, .slice none 0 0, .int .i64 0] 26 (0, 0)) (zk BK242.out) k_ hk_))) (below_size zb)); have n1_ := Aside0.mk (blk_below (g := gb242) (o := .cells #[.bool false, .slice none 0 0, .int .i64 0] 26 (0, 0)) (zk BK242.out) hb); have n2_ := Aside0.mk (below_step zb hb); clear BK242; clear HB; have HO251 := n0_; have BK242 := n1_; have HB := n2_; clear n0_ n1_ n2_; (try clear hb); (try clear hb2); (try clear hk); (try clear hi); (try clear ho0); obtain ⟨Ao36, co36, eo36⟩ := Kd.V_slice HO251.out; subst eo36) | ((with_reducible refine gate_callee (f := 21) rfl ?_); refine goesL_ (some 40) rfl rfl Tryz.func21 (by kernel_rfl) rfl #[.bool t244, .slice Ao36 t249.length co36] rfl za ?_; (with_reducible refine (impl_big.calls kj4 t244 _ _ t249 t252 t253 true _ ?side1 ?side2 A13.out).mono ?_); (case side1 => repeat (first | exact (Kd.V_reads' HO251.out).2.2 | (with_reducible refine Kd.C_alloc ?_ _) | (with_reducible refine Kd.C_drewN ?_ _) | (with_reducible refine Kd.C_drew ?_))); (case side2 => exact (Kd.V_reads' HO251.out).2.1); rintro e w37 ⟨v254, rfl, ho0, hb⟩; refine ⟨_, rfl, ?_⟩; have n0_ := Aside0.mk (Kd.V_elder' (zV HO251.out) (Kd.RW_base ho0) hb); have n1_ := Aside0.mk (Kd.RW_lower ho0 (below_size zb)); have n2_ := Aside0.mk (blk_below (g := gb242) (o := .cells #[.bool false, .slice none 0 0, .int .i64 0] 26 (0, 0)) (zk BK242.out) hb); have n3_ := Aside0.mk (below_step zb hb); clear HO251; clear BK242; clear HB; have HO251 := n0_; have HO255 := n1_; have BK242 := n2_; have HB := n3_; clear n0_ n1_ n2_ n3_; (try clear hb); (try clear hb2); (try clear hk); (try clear hi); (try clear ho0)) | ((with_reducible refine gate_dst (N := 10) rfl ?_); (try (refine gate_guard (by rfl) ?_; dsimp only)); refine box_event ?hg (N := 10) ?hd (cs := #[.bool false, .slice none 0 0]) (t := 24) ?hr ?_; (case hd => rfl); (case hg => rfl); (case hr => first | (go_simp; done) | (go_simp; rfl)); intro gb257 hg w38 hbox hb; have n0_ := Aside0.mk (Kd.V_below (Kd.V_elderB (zV HO251.out) gb257 (Nat.le_of_eq hg.symm)) hb); have n1_ := Aside0.mk (Kd.RW_below (zRW HO255.out) hb); have n2_ := Aside0.mk (blk_below (g := gb242) (o := .cells #[.bool false, .slice none 0 0, .int .i64 0] 26 (0, 0)) (zk BK242.out) hb); have n3_ := Aside0.mk (below_step zb hb); have n4_ := Aside0.mk (hbox); have n5_ := Aside0.mk ((by rw [hg]; exact (below_size zb) : w.heap.size ≤ gb257)); have n6_ := Aside0.mk ((by rw [hg]; exact (below_size zb) : w.heap.size ≤ gb257)); have n7_ := Aside0.mk ((by rw [hg]; exact Nat.ne_of_lt (blk_lt (g := gb242) (o := .cells #[.bool false, .slice none 0 0, .int .i64 0] 26 (0, 0)) (zk BK242.out)) : gb242 ≠ gb257)); have n8_ := Aside0.mk ((by rw [hg]; exact Nat.ne_of_gt (blk_lt (g := gb242) (o := .cells #[.bool false, .slice none 0 0, .int .i64 0] 26 (0, 0)) (zk BK242.out)) : gb257 ≠ gb242)); clear HO251; clear HO255; clear BK242; clear HB; have HO251 := n0_; have HO255 := n1_; have BK242 := n2_; have HB := n3_; have BK257 := n4_; have GW257 := n5_; have GE257 := n6_; have NB242_257 := n7_; have NB257_242 := n8_; clear n0_ n1_ n2_ n3_ n4_ n5_ n6_ n7_ n8_; clear hb hbox hg; have hnb39 := NB257_242.out; have hnc39 := NB242_257.out; have hcz40_0 : w38.cell? ⟨gb257, 0, none⟩ = some (.bool false) := (blk_cell BK257.out 0).trans rfl; have hcz40_1 : w38.cell? ⟨gb257, 1, none⟩ = some (.slice none 0 0) := (blk_cell BK257.out 1).trans rfl; have hfz40_0 := blk_frozen BK257.out 0; have hfz40_1 := blk_frozen BK257.out 1; obtain ⟨Ao41, co41, eo41⟩ := Kd.RW_slice HO255.out; subst eo41) | ((with_reducible refine gate_dst (N := 12) rfl ?_); (try (refine gate_guard (by rfl) ?_; dsimp only)); refine box_event ?hg (N := 12) ?hd (cs := #[.bool false, .slice none 0 0, .int .i64 0]) (t := 26) ?hr ?_; (case hd => rfl); (case hg => rfl); (case hr => first | (go_simp; done) | (go_simp; rfl)); intro gb258 hg w42 hbox hb; have n0_ := Aside0.mk (Kd.V_below (Kd.V_elderB (by (with_reducible repeat (first | apply Kd.V_alloc | apply Kd.V_drewN | apply Kd.V_drew)); exact (Kd.V_mono (Kd.V_far (p := ⟨gb257, 1, none⟩) (Kd.V_far (p := ⟨gb257, 0, none⟩) (Kd.V_mono HO251.out (fun k_ hk => (⟨hk, hk.2⟩ : _ ∧ k_ ≠ gb257))) (fun _ hk => hk.2) (.bool t252)) (fun _ hk => hk.2) (.slice Ao41 t253.length co41)) (fun _ h_ => h_.1))) gb258 (Nat.le_of_eq hg.symm)) hb); have n1_ := Aside0.mk (Kd.RW_below (by (with_reducible repeat (first | apply Kd.RW_alloc | apply Kd.RW_drewN | apply Kd.RW_drew)); exact (Kd.RW_mono (Kd.RW_far (p := ⟨gb257, 1, none⟩) (Kd.RW_far (p := ⟨gb257, 0, none⟩) (Kd.RW_types HO255.out BK257.out (by decide)) (fun _ hk => hk.2) (.bool t252)) (fun _ hk => hk.2) (.slice Ao41 t253.length co41)) (fun _ h_ => h_.1))) hb); have n2_ := Aside0.mk (blk_below (g := gb242) (o := .cells #[.bool false, .slice none 0 0, .int .i64 0] 26 (0, 0)) (zk BK242.out) hb); have n3_ := Aside0.mk (blk_below (g := gb257) (o := .cells #[.bool t252, .slice Ao41 t253.length co41] 24 (0, 0)) (by (with_reducible repeat (first | refine blk_drewN ?_ _ | refine blk_drew ?_ | refine blk_alloc ?_ _)); refine blk_put (cs := #[.bool t252, .slice none 0 0]) ?_ 1 _ rfl; (with_reducible repeat (first | refine blk_drewN ?_ _ | refine blk_drew ?_ | refine blk_alloc ?_ _)); refine blk_put (cs := #[.bool false, .slice none 0 0]) ?_ 0 _ rfl; (with_reducible repeat (first | refine blk_drewN ?_ _ | refine blk_drew ?_ | refine blk_alloc ?_ _)); exact BK257.out) hb); have n4_ := Aside0.mk (below_step zb hb); have n5_ := Aside0.mk (hbox); have n6_ := Aside0.mk ((by rw [hg]; exact (below_size zb) : w.heap.size ≤ gb258)); have n7_ := Aside0.mk ((by rw [hg]; exact (below_size zb) : w.heap.size ≤ gb258)); have n8_ := Aside0.mk ((by rw [hg]; exact Nat.ne_of_lt (blk_lt (g := gb242) (o := .cells #[.bool false, .slice none 0 0, .int .i64 0] 26 (0, 0)) (zk BK242.out)) : gb242 ≠ gb258)); have n9_ := Aside0.mk ((by rw [hg]; exact Nat.ne_of_gt (blk_lt (g := gb242) (o := .cells #[.bool false, .slice none 0 0, .int .i64 0] 26 (0, 0)) (zk BK242.out)) : gb258 ≠ gb242)); have n10_ := Aside0.mk ((by rw [hg]; exact Nat.ne_of_lt (blk_lt (g := gb257) (o := .cells #[.bool t252, .slice Ao41 t253.length co41] 24 (0, 0)) (by (with_reducible repeat (first | refine blk_drewN ?_ _ | refine blk_drew ?_ | refine blk_alloc ?_ _)); refine blk_put (cs := #[.bool t252, .slice none 0 0]) ?_ 1 _ rfl; (with_reducible repeat (first | refine blk_drewN ?_ _ | refine blk_drew ?_ | refine blk_alloc ?_ _)); refine blk_put (cs := #[.bool false, .slice none 0 0]) ?_ 0 _ rfl; (with_reducible repeat (first | refine blk_drewN ?_ _ | refine blk_drew ?_ | refine blk_alloc ?_ _)); exact BK257.out)) : gb257 ≠ gb258)); have n11_ := Aside0.mk ((by rw [hg]; exact Nat.ne_of_gt (blk_lt (g := gb257) (o := .cells #[.bool t252, .slice Ao41 t253.length co41] 24 (0, 0)) (by (with_reducible repeat (first | refine blk_drewN ?_ _ | refine blk_drew ?_ | refine blk_alloc ?_ _)); refine blk_put (cs := #[.bool t252, .slice none 0 0]) ?_ 1 _ rfl; (with_reducible repeat (first | refine blk_drewN ?_ _ | refine blk_drew ?_ | refine blk_alloc ?_ _)); refine blk_put (cs := #[.bool false, .slice none 0 0]) ?_ 0 _ rfl; (with_reducible repeat (first | refine blk_drewN ?_ _ | refine blk_drew ?_ | refine blk_alloc ?_ _)); exact BK257.out)) : gb258 ≠ gb257)); clear HO251; clear HO255; clear BK242; clear BK257; clear HB; have HO251 := n0_; have HO255 := n1_; have BK242 := n2_; have BK257 := n3_; have HB := n4_; have BK258 := n5_; have GW258 := n6_; have GE258 := n7_; have NB242_258 := n8_; have NB258_242 := n9_; have NB257_258 := n10_; have NB258_257 := n11_; clear n0_ n1_ n2_ n3_ n4_ n5_ n6_ n7_ n8_ n9_ n10_ n11_; clear hb hbox hg; have hnb43 := NB258_242.out; have hnc43 := NB242_258.out; have hnb44 := NB258_257.out; have hnc44 := NB257_258.out; have hcz45_0 : w42.cell? ⟨gb258, 0, none⟩ = some (.bool false) := (blk_cell BK258.out 0).trans rfl; have hcz45_1 : w42.cell? ⟨gb258, 1, none⟩ = some (.slice none 0 0) := (blk_cell BK258.out 1).trans rfl; have hcz45_2 : w42.cell? ⟨gb258, 2, none⟩ = some (.int .i64 0) := (blk_cell BK258.out 2).trans rfl; have hfz45_0 := blk_frozen BK258.out 0; have hfz45_1 := blk_frozen BK258.out 1; have hfz45_2 := blk_frozen BK258.out 2) | (go_at_call 16; (with_reducible refine (impl_DecOk.calls t252 _ _ t253 (t246.size : Int) true _ ?side1 ?side2 ?side3 A15.out).mono ?_); (case side1 => exact HT.out.toI.below zb); (case side2 => refine (Kd.RW_reads' (e := 3) (base := w.heap.size) (ok := fun k_ => True) (n := t253.length) (c := co41) ?_).2.2; exact (by (with_reducible repeat (first | apply Kd.RW_alloc | apply Kd.RW_drewN | apply Kd.RW_drew)); exact (Kd.RW_mono (Kd.RW_far (p := ⟨gb258, 2, none⟩) (Kd.RW_far (p := ⟨gb258, 1, none⟩) (Kd.RW_far (p := ⟨gb258, 0, none⟩) (Kd.RW_types HO255.out BK258.out (by decide)) (fun _ hk => hk.2) (.bool t252)) (fun _ hk => hk.2) (.slice Ao41 t253.length co41)) (fun _ hk => hk.2) (.int .i64 (t246.size : Int))) (fun _ h_ => h_.1)))); (case side3 => exact (Kd.RW_reads' HO255.out).2.1); rintro e w46 ⟨rfl, hb⟩; have n0_ := Aside0.mk (Kd.V_below (by (with_reducible repeat (first | apply Kd.V_alloc | apply Kd.V_drewN | apply Kd.V_drew)); exact (Kd.V_mono (Kd.V_far (p := ⟨gb258, 2, none⟩) (Kd.V_far (p := ⟨gb258, 1, none⟩) (Kd.V_far (p := ⟨gb258, 0, none⟩) (Kd.V_mono HO251.out (fun k_ hk => (⟨hk, hk.2⟩ : _ ∧ k_ ≠ gb258))) (fun _ hk => hk.2) (.bool t252)) (fun _ hk => hk.2) (.slice Ao41 t253.length co41)) (fun _ hk => hk.2) (.int .i64 (t246.size : Int))) (fun _ h_ => h_.1))) hb); have n1_ := Aside0.mk (Kd.RW_below (by (with_reducible repeat (first | apply Kd.RW_alloc | apply Kd.RW_drewN | apply Kd.RW_drew)); exact (Kd.RW_mono (Kd.RW_far (p := ⟨gb258, 2, none⟩) (Kd.RW_far (p := ⟨gb258, 1, none⟩) (Kd.RW_far (p := ⟨gb258, 0, none⟩) (Kd.RW_types HO255.out BK258.out (by decide)) (fun _ hk => hk.2) (.bool t252)) (fun _ hk => hk.2) (.slice Ao41 t253.length co41)) (fun _ hk => hk.2) (.int .i64 (t246.size : Int))) (fun _ h_ => h_.1))) hb); have n2_ := Aside0.mk (blk_below (g := gb242) (o := .cells #[.bool false, .slice none 0 0, .int .i64 0] 26 (0, 0)) (zk BK242.out) hb); have n3_ := Aside0.mk (blk_below (g := gb257) (o := .cells #[.bool t252, .slice Ao41 t253.length co41] 24 (0, 0)) (zk BK257.out) hb); have n4_ := Aside0.mk (blk_below (g := gb258) (o := .cells #[.bool t252, .slice Ao41 t253.length co41, .int .i64 (t246.size : Int)] 26 (0, 0)) (by (with_reducible repeat (first | refine blk_drewN ?_ _ | refine blk_drew ?_ | refine blk_alloc ?_ _)); refine blk_put (cs := #[.bool t252, .slice Ao41 t253.length co41, .int .i64 0]) ?_ 2 _ rfl; (with_reducible repeat (first | refine blk_drewN ?_ _ | refine blk_drew ?_ | refine blk_alloc ?_ _)); refine blk_put (cs := #[.bool t252, .slice none 0 0, .int .i64 0]) ?_ 1 _ rfl; (with_reducible repeat (first | refine blk_drewN ?_ _ | refine blk_drew ?_ | refine blk_alloc ?_ _)); refine blk_put (cs := #[.bool false, .slice none 0 0, .int .i64 0]) ?_ 0 _ rfl; (with_reducible repeat (first | refine blk_drewN ?_ _ | refine blk_drew ?_ | refine blk_alloc ?_ _)); exact BK258.out) hb); have n5_ := Aside0.mk (below_step zb hb); clear HO251; clear HO255; clear BK242; clear BK257; clear BK258; clear HB; have HO251 := n0_; have HO255 := n1_; have BK242 := n2_; have BK257 := n3_; have BK258 := n4_; have HB := n5_; clear n0_ n1_ n2_ n3_ n4_ n5_; (try clear hb); (try clear hb2); (try clear hk); (try clear hi); have hcz47_0 : w46.cell? ⟨gb258, 0, none⟩ = some (.bool t252) := (blk_cell BK258.out 0).trans rfl; have hcz47_1 : w46.cell? ⟨gb258, 1, none⟩ = some (.slice Ao41 t253.length co41) := (blk_cell BK258.out 1).trans rfl; have hcz47_2 : w46.cell? ⟨gb258, 2, none⟩ = some (.int .i64 (t246.size : Int)) := (blk_cell BK258.out 2).trans rfl; have hfz47_0 := blk_frozen BK258.out 0; have hfz47_1 := blk_frozen BK258.out 1; have hfz47_2 := blk_frozen BK258.out 2) | (go_at_call 12; (with_reducible refine (impl_DecPut.calls t252 _ _ t253 (t246.size : Int) t260 _ ?side1 ?side2 ?side3 A17.out).mono ?_); (case side1 => exact HT.out.toI.below zb); (case side2 => repeat (first | exact (Kd.RW_reads' HO255.out).2.2 | (with_reducible refine Kd.C_alloc ?_ _) | (with_reducible refine Kd.C_drewN ?_ _) | (with_reducible refine Kd.C_drew ?_))); (case side3 => exact (Kd.RW_reads' HO255.out).2.1); rintro e w48 ⟨rfl, hb⟩; have n0_ := Aside0.mk (Kd.V_below (zV HO251.out) hb); have n1_ := Aside0.mk (Kd.RW_below (zRW HO255.out) hb); have n2_ := Aside0.mk (blk_below (g := gb242) (o := .cells #[.bool false, .slice none 0 0, .int .i64 0] 26 (0, 0)) (zk BK242.out) hb); have n3_ := Aside0.mk (blk_below (g := gb257) (o := .cells #[.bool t252, .slice Ao41 t253.length co41] 24 (0, 0)) (zk BK257.out) hb); have n4_ := Aside0.mk (blk_below (g := gb258) (o := .cells #[.bool t252, .slice Ao41 t253.length co41, .int .i64 (t246.size : Int)] 26 (0, 0)) (zk BK258.out) hb); have n5_ := Aside0.mk (below_step zb hb); clear HO251; clear HO255; clear BK242; clear BK257; clear BK258; clear HB; have HO251 := n0_; have HO255 := n1_; have BK242 := n2_; have BK257 := n3_; have BK258 := n4_; have HB := n5_; clear n0_ n1_ n2_ n3_ n4_ n5_; (try clear hb); (try clear hb2); (try clear hk); (try clear hi); have hcz49_0 : w48.cell? ⟨gb242, 0, none⟩ = some (.bool false) := (blk_cell BK242.out 0).trans rfl; have hcz49_1 : w48.cell? ⟨gb242, 1, none⟩ = some (.slice none 0 0) := (blk_cell BK242.out 1).trans rfl; have hcz49_2 : w48.cell? ⟨gb242, 2, none⟩ = some (.int .i64 0) := (blk_cell BK242.out 2).trans rfl; have hfz49_0 := blk_frozen BK242.out 0; have hfz49_1 := blk_frozen BK242.out 1; have hfz49_2 := blk_frozen BK242.out 2))
                refine bodyPost_ret (results_ct rfl _ _ gb242 26 #[.bool false, .slice none 0 0, .int .i64 0] (0, 0) _ rfl (by (with_reducible repeat (first | refine blk_drewN ?_ _ | refine blk_drew ?_ | refine blk_alloc ?_ _)); refine blk_put (cs := #[.bool false, .slice none 0 0, .int .i64 0]) ?_ 2 _ rfl; (with_reducible repeat (first | refine blk_drewN ?_ _ | refine blk_drew ?_ | refine blk_alloc ?_ _)); refine blk_put (cs := #[.bool false, .slice none 0 0, .int .i64 0]) ?_ 1 _ rfl; (with_reducible repeat (first | refine blk_drewN ?_ _ | refine blk_drew ?_ | refine blk_alloc ?_ _)); refine blk_put (cs := #[.bool false, .slice none 0 0, .int .i64 0]) ?_ 0 _ rfl; (with_reducible repeat (first | refine blk_drewN ?_ _ | refine blk_drew ?_ | refine blk_alloc ?_ _)); exact BK242.out) Tryz.underlying26 rfl (by kernel_rfl)) rfl ?_
                exact ⟨_, by first | rfl | (simp [errW_none, errW_some] <;> rfl) | (simp [*, errW_none, errW_some] <;> rfl), by first | exact Kd.RW_nil _ _ _ _ _ | exact Kd.N_nil _ _ _ _ _ | exact Kd.V_nil _ _ _ _ _ | exact Kd.Q_nil _ _ _ _ _ | exact Kd.S_nil _ _ _ _ _, zb⟩
            · replace c16 := Bool.eq_false_iff.mpr c16
              subst c16
              have H1 : (some (false, ([] : List Int), 0, false)) = some (r1, r2, r3, r4) := by rw [if_neg (show ¬ (false = true) by decide)] at H; exact H
              clear H
              have H := H1
              clear H1
              simp only [Option.some.injEq, Prod.mk.injEq] at H
              obtain ⟨rfl, rfl, rfl, rfl⟩ := H
              go_wp2_with (first | ((with_reducible refine gate_callee (f := 22) rfl ?_); refine goesL_ (some 39) rfl rfl Tryz.func22 (by kernel_rfl) rfl #[.string (t245 ++ t246)] rfl za ?_; (with_reducible refine (impl_readLimbs.calls kj4 (t245 ++ t246) t249 _ ?side1 A12.out).mono ?_); (case side1 => exact HT.out.below zb); rintro e w50 ⟨v250, rfl, ho0, hb⟩; refine ⟨_, rfl, ?_⟩; have n0_ := Aside0.mk (Kd.V_lower (Kd.V_mono (ok' := fun k_ => k_ ≠ gb242) ho0 (fun k_ hk_ => (Kd.freshB (g := gb242) (o := .cells #[.bool false, .slice none 0 0, .int .i64 0] 26 (0, 0)) (zk BK242.out) k_ hk_))) (below_size zb)); have n1_ := Aside0.mk (blk_below (g := gb242) (o := .cells #[.bool false, .slice none 0 0, .int .i64 0] 26 (0, 0)) (zk BK242.out) hb); have n2_ := Aside0.mk (below_step zb hb); clear BK242; clear HB; have HO251 := n0_; have BK242 := n1_; have HB := n2_; clear n0_ n1_ n2_; (try clear hb); (try clear hb2); (try clear hk); (try clear hi); (try clear ho0); obtain ⟨Ao51, co51, eo51⟩ := Kd.V_slice HO251.out; subst eo51) | ((with_reducible refine gate_callee (f := 21) rfl ?_); refine goesL_ (some 40) rfl rfl Tryz.func21 (by kernel_rfl) rfl #[.bool t244, .slice Ao51 t249.length co51] rfl za ?_; (with_reducible refine (impl_big.calls kj4 t244 _ _ t249 t252 t253 true _ ?side1 ?side2 A13.out).mono ?_); (case side1 => repeat (first | exact (Kd.V_reads' HO251.out).2.2 | (with_reducible refine Kd.C_alloc ?_ _) | (with_reducible refine Kd.C_drewN ?_ _) | (with_reducible refine Kd.C_drew ?_))); (case side2 => exact (Kd.V_reads' HO251.out).2.1); rintro e w52 ⟨v254, rfl, ho0, hb⟩; refine ⟨_, rfl, ?_⟩; have n0_ := Aside0.mk (Kd.V_elder' (zV HO251.out) (Kd.RW_base ho0) hb); have n1_ := Aside0.mk (Kd.RW_lower ho0 (below_size zb)); have n2_ := Aside0.mk (blk_below (g := gb242) (o := .cells #[.bool false, .slice none 0 0, .int .i64 0] 26 (0, 0)) (zk BK242.out) hb); have n3_ := Aside0.mk (below_step zb hb); clear HO251; clear BK242; clear HB; have HO251 := n0_; have HO255 := n1_; have BK242 := n2_; have HB := n3_; clear n0_ n1_ n2_ n3_; (try clear hb); (try clear hb2); (try clear hk); (try clear hi); (try clear ho0)) | ((with_reducible refine gate_dst (N := 10) rfl ?_); (try (refine gate_guard (by rfl) ?_; dsimp only)); refine box_event ?hg (N := 10) ?hd (cs := #[.bool false, .slice none 0 0]) (t := 24) ?hr ?_; (case hd => rfl); (case hg => rfl); (case hr => first | (go_simp; done) | (go_simp; rfl)); intro gb257 hg w53 hbox hb; have n0_ := Aside0.mk (Kd.V_below (Kd.V_elderB (zV HO251.out) gb257 (Nat.le_of_eq hg.symm)) hb); have n1_ := Aside0.mk (Kd.RW_below (zRW HO255.out) hb); have n2_ := Aside0.mk (blk_below (g := gb242) (o := .cells #[.bool false, .slice none 0 0, .int .i64 0] 26 (0, 0)) (zk BK242.out) hb); have n3_ := Aside0.mk (below_step zb hb); have n4_ := Aside0.mk (hbox); have n5_ := Aside0.mk ((by rw [hg]; exact (below_size zb) : w.heap.size ≤ gb257)); have n6_ := Aside0.mk ((by rw [hg]; exact (below_size zb) : w.heap.size ≤ gb257)); have n7_ := Aside0.mk ((by rw [hg]; exact Nat.ne_of_lt (blk_lt (g := gb242) (o := .cells #[.bool false, .slice none 0 0, .int .i64 0] 26 (0, 0)) (zk BK242.out)) : gb242 ≠ gb257)); have n8_ := Aside0.mk ((by rw [hg]; exact Nat.ne_of_gt (blk_lt (g := gb242) (o := .cells #[.bool false, .slice none 0 0, .int .i64 0] 26 (0, 0)) (zk BK242.out)) : gb257 ≠ gb242)); clear HO251; clear HO255; clear BK242; clear HB; have HO251 := n0_; have HO255 := n1_; have BK242 := n2_; have HB := n3_; have BK257 := n4_; have GW257 := n5_; have GE257 := n6_; have NB242_257 := n7_; have NB257_242 := n8_; clear n0_ n1_ n2_ n3_ n4_ n5_ n6_ n7_ n8_; clear hb hbox hg; have hnb54 := NB257_242.out; have hnc54 := NB242_257.out; have hcz55_0 : w53.cell? ⟨gb257, 0, none⟩ = some (.bool false) := (blk_cell BK257.out 0).trans rfl; have hcz55_1 : w53.cell? ⟨gb257, 1, none⟩ = some (.slice none 0 0) := (blk_cell BK257.out 1).trans rfl; have hfz55_0 := blk_frozen BK257.out 0; have hfz55_1 := blk_frozen BK257.out 1; obtain ⟨Ao56, co56, eo56⟩ := Kd.RW_slice HO255.out; subst eo56) | ((with_reducible refine gate_dst (N := 12) rfl ?_); (try (refine gate_guard (by rfl) ?_; dsimp only)); refine box_event ?hg (N := 12) ?hd (cs := #[.bool false, .slice none 0 0, .int .i64 0]) (t := 26) ?hr ?_; (case hd => rfl); (case hg => rfl); (case hr => first | (go_simp; done) | (go_simp; rfl)); intro gb258 hg w57 hbox hb; have n0_ := Aside0.mk (Kd.V_below (Kd.V_elderB (by (with_reducible repeat (first | apply Kd.V_alloc | apply Kd.V_drewN | apply Kd.V_drew)); exact (Kd.V_mono (Kd.V_far (p := ⟨gb257, 1, none⟩) (Kd.V_far (p := ⟨gb257, 0, none⟩) (Kd.V_mono HO251.out (fun k_ hk => (⟨hk, hk.2⟩ : _ ∧ k_ ≠ gb257))) (fun _ hk => hk.2) (.bool t252)) (fun _ hk => hk.2) (.slice Ao56 t253.length co56)) (fun _ h_ => h_.1))) gb258 (Nat.le_of_eq hg.symm)) hb); have n1_ := Aside0.mk (Kd.RW_below (by (with_reducible repeat (first | apply Kd.RW_alloc | apply Kd.RW_drewN | apply Kd.RW_drew)); exact (Kd.RW_mono (Kd.RW_far (p := ⟨gb257, 1, none⟩) (Kd.RW_far (p := ⟨gb257, 0, none⟩) (Kd.RW_types HO255.out BK257.out (by decide)) (fun _ hk => hk.2) (.bool t252)) (fun _ hk => hk.2) (.slice Ao56 t253.length co56)) (fun _ h_ => h_.1))) hb); have n2_ := Aside0.mk (blk_below (g := gb242) (o := .cells #[.bool false, .slice none 0 0, .int .i64 0] 26 (0, 0)) (zk BK242.out) hb); have n3_ := Aside0.mk (blk_below (g := gb257) (o := .cells #[.bool t252, .slice Ao56 t253.length co56] 24 (0, 0)) (by (with_reducible repeat (first | refine blk_drewN ?_ _ | refine blk_drew ?_ | refine blk_alloc ?_ _)); refine blk_put (cs := #[.bool t252, .slice none 0 0]) ?_ 1 _ rfl; (with_reducible repeat (first | refine blk_drewN ?_ _ | refine blk_drew ?_ | refine blk_alloc ?_ _)); refine blk_put (cs := #[.bool false, .slice none 0 0]) ?_ 0 _ rfl; (with_reducible repeat (first | refine blk_drewN ?_ _ | refine blk_drew ?_ | refine blk_alloc ?_ _)); exact BK257.out) hb); have n4_ := Aside0.mk (below_step zb hb); have n5_ := Aside0.mk (hbox); have n6_ := Aside0.mk ((by rw [hg]; exact (below_size zb) : w.heap.size ≤ gb258)); have n7_ := Aside0.mk ((by rw [hg]; exact (below_size zb) : w.heap.size ≤ gb258)); have n8_ := Aside0.mk ((by rw [hg]; exact Nat.ne_of_lt (blk_lt (g := gb242) (o := .cells #[.bool false, .slice none 0 0, .int .i64 0] 26 (0, 0)) (zk BK242.out)) : gb242 ≠ gb258)); have n9_ := Aside0.mk ((by rw [hg]; exact Nat.ne_of_gt (blk_lt (g := gb242) (o := .cells #[.bool false, .slice none 0 0, .int .i64 0] 26 (0, 0)) (zk BK242.out)) : gb258 ≠ gb242)); have n10_ := Aside0.mk ((by rw [hg]; exact Nat.ne_of_lt (blk_lt (g := gb257) (o := .cells #[.bool t252, .slice Ao56 t253.length co56] 24 (0, 0)) (by (with_reducible repeat (first | refine blk_drewN ?_ _ | refine blk_drew ?_ | refine blk_alloc ?_ _)); refine blk_put (cs := #[.bool t252, .slice none 0 0]) ?_ 1 _ rfl; (with_reducible repeat (first | refine blk_drewN ?_ _ | refine blk_drew ?_ | refine blk_alloc ?_ _)); refine blk_put (cs := #[.bool false, .slice none 0 0]) ?_ 0 _ rfl; (with_reducible repeat (first | refine blk_drewN ?_ _ | refine blk_drew ?_ | refine blk_alloc ?_ _)); exact BK257.out)) : gb257 ≠ gb258)); have n11_ := Aside0.mk ((by rw [hg]; exact Nat.ne_of_gt (blk_lt (g := gb257) (o := .cells #[.bool t252, .slice Ao56 t253.length co56] 24 (0, 0)) (by (with_reducible repeat (first | refine blk_drewN ?_ _ | refine blk_drew ?_ | refine blk_alloc ?_ _)); refine blk_put (cs := #[.bool t252, .slice none 0 0]) ?_ 1 _ rfl; (with_reducible repeat (first | refine blk_drewN ?_ _ | refine blk_drew ?_ | refine blk_alloc ?_ _)); refine blk_put (cs := #[.bool false, .slice none 0 0]) ?_ 0 _ rfl; (with_reducible repeat (first | refine blk_drewN ?_ _ | refine blk_drew ?_ | refine blk_alloc ?_ _)); exact BK257.out)) : gb258 ≠ gb257)); clear HO251; clear HO255; clear BK242; clear BK257; clear HB; have HO251 := n0_; have HO255 := n1_; have BK242 := n2_; have BK257 := n3_; have HB := n4_; have BK258 := n5_; have GW258 := n6_; have GE258 := n7_; have NB242_258 := n8_; have NB258_242 := n9_; have NB257_258 := n10_; have NB258_257 := n11_; clear n0_ n1_ n2_ n3_ n4_ n5_ n6_ n7_ n8_ n9_ n10_ n11_; clear hb hbox hg; have hnb58 := NB258_242.out; have hnc58 := NB242_258.out; have hnb59 := NB258_257.out; have hnc59 := NB257_258.out; have hcz60_0 : w57.cell? ⟨gb258, 0, none⟩ = some (.bool false) := (blk_cell BK258.out 0).trans rfl; have hcz60_1 : w57.cell? ⟨gb258, 1, none⟩ = some (.slice none 0 0) := (blk_cell BK258.out 1).trans rfl; have hcz60_2 : w57.cell? ⟨gb258, 2, none⟩ = some (.int .i64 0) := (blk_cell BK258.out 2).trans rfl; have hfz60_0 := blk_frozen BK258.out 0; have hfz60_1 := blk_frozen BK258.out 1; have hfz60_2 := blk_frozen BK258.out 2) | (go_at_call 16; (with_reducible refine (impl_DecOk.calls t252 _ _ t253 (t246.size : Int) false _ ?side1 ?side2 ?side3 A15.out).mono ?_); (case side1 => exact HT.out.toI.below zb); (case side2 => refine (Kd.RW_reads' (e := 3) (base := w.heap.size) (ok := fun k_ => True) (n := t253.length) (c := co56) ?_).2.2; exact (by (with_reducible repeat (first | apply Kd.RW_alloc | apply Kd.RW_drewN | apply Kd.RW_drew)); exact (Kd.RW_mono (Kd.RW_far (p := ⟨gb258, 2, none⟩) (Kd.RW_far (p := ⟨gb258, 1, none⟩) (Kd.RW_far (p := ⟨gb258, 0, none⟩) (Kd.RW_types HO255.out BK258.out (by decide)) (fun _ hk => hk.2) (.bool t252)) (fun _ hk => hk.2) (.slice Ao56 t253.length co56)) (fun _ hk => hk.2) (.int .i64 (t246.size : Int))) (fun _ h_ => h_.1)))); (case side3 => exact (Kd.RW_reads' HO255.out).2.1); rintro e w61 ⟨rfl, hb⟩; have n0_ := Aside0.mk (Kd.V_below (by (with_reducible repeat (first | apply Kd.V_alloc | apply Kd.V_drewN | apply Kd.V_drew)); exact (Kd.V_mono (Kd.V_far (p := ⟨gb258, 2, none⟩) (Kd.V_far (p := ⟨gb258, 1, none⟩) (Kd.V_far (p := ⟨gb258, 0, none⟩) (Kd.V_mono HO251.out (fun k_ hk => (⟨hk, hk.2⟩ : _ ∧ k_ ≠ gb258))) (fun _ hk => hk.2) (.bool t252)) (fun _ hk => hk.2) (.slice Ao56 t253.length co56)) (fun _ hk => hk.2) (.int .i64 (t246.size : Int))) (fun _ h_ => h_.1))) hb); have n1_ := Aside0.mk (Kd.RW_below (by (with_reducible repeat (first | apply Kd.RW_alloc | apply Kd.RW_drewN | apply Kd.RW_drew)); exact (Kd.RW_mono (Kd.RW_far (p := ⟨gb258, 2, none⟩) (Kd.RW_far (p := ⟨gb258, 1, none⟩) (Kd.RW_far (p := ⟨gb258, 0, none⟩) (Kd.RW_types HO255.out BK258.out (by decide)) (fun _ hk => hk.2) (.bool t252)) (fun _ hk => hk.2) (.slice Ao56 t253.length co56)) (fun _ hk => hk.2) (.int .i64 (t246.size : Int))) (fun _ h_ => h_.1))) hb); have n2_ := Aside0.mk (blk_below (g := gb242) (o := .cells #[.bool false, .slice none 0 0, .int .i64 0] 26 (0, 0)) (zk BK242.out) hb); have n3_ := Aside0.mk (blk_below (g := gb257) (o := .cells #[.bool t252, .slice Ao56 t253.length co56] 24 (0, 0)) (zk BK257.out) hb); have n4_ := Aside0.mk (blk_below (g := gb258) (o := .cells #[.bool t252, .slice Ao56 t253.length co56, .int .i64 (t246.size : Int)] 26 (0, 0)) (by (with_reducible repeat (first | refine blk_drewN ?_ _ | refine blk_drew ?_ | refine blk_alloc ?_ _)); refine blk_put (cs := #[.bool t252, .slice Ao56 t253.length co56, .int .i64 0]) ?_ 2 _ rfl; (with_reducible repeat (first | refine blk_drewN ?_ _ | refine blk_drew ?_ | refine blk_alloc ?_ _)); refine blk_put (cs := #[.bool t252, .slice none 0 0, .int .i64 0]) ?_ 1 _ rfl; (with_reducible repeat (first | refine blk_drewN ?_ _ | refine blk_drew ?_ | refine blk_alloc ?_ _)); refine blk_put (cs := #[.bool false, .slice none 0 0, .int .i64 0]) ?_ 0 _ rfl; (with_reducible repeat (first | refine blk_drewN ?_ _ | refine blk_drew ?_ | refine blk_alloc ?_ _)); exact BK258.out) hb); have n5_ := Aside0.mk (below_step zb hb); clear HO251; clear HO255; clear BK242; clear BK257; clear BK258; clear HB; have HO251 := n0_; have HO255 := n1_; have BK242 := n2_; have BK257 := n3_; have BK258 := n4_; have HB := n5_; clear n0_ n1_ n2_ n3_ n4_ n5_; (try clear hb); (try clear hb2); (try clear hk); (try clear hi); have hcz62_0 : w61.cell? ⟨gb242, 0, none⟩ = some (.bool false) := (blk_cell BK242.out 0).trans rfl; have hcz62_1 : w61.cell? ⟨gb242, 1, none⟩ = some (.slice none 0 0) := (blk_cell BK242.out 1).trans rfl; have hcz62_2 : w61.cell? ⟨gb242, 2, none⟩ = some (.int .i64 0) := (blk_cell BK242.out 2).trans rfl; have hfz62_0 := blk_frozen BK242.out 0; have hfz62_1 := blk_frozen BK242.out 1; have hfz62_2 := blk_frozen BK242.out 2))
              refine bodyPost_ret (results_ct rfl _ _ gb242 26 #[.bool false, .slice none 0 0, .int .i64 0] (0, 0) _ rfl (by (with_reducible repeat (first | refine blk_drewN ?_ _ | refine blk_drew ?_ | refine blk_alloc ?_ _)); refine blk_put (cs := #[.bool false, .slice none 0 0, .int .i64 0]) ?_ 2 _ rfl; (with_reducible repeat (first | refine blk_drewN ?_ _ | refine blk_drew ?_ | refine blk_alloc ?_ _)); refine blk_put (cs := #[.bool false, .slice none 0 0, .int .i64 0]) ?_ 1 _ rfl; (with_reducible repeat (first | refine blk_drewN ?_ _ | refine blk_drew ?_ | refine blk_alloc ?_ _)); refine blk_put (cs := #[.bool false, .slice none 0 0, .int .i64 0]) ?_ 0 _ rfl; (with_reducible repeat (first | refine blk_drewN ?_ _ | refine blk_drew ?_ | refine blk_alloc ?_ _)); exact BK242.out) Tryz.underlying26 rfl (by kernel_rfl)) rfl ?_
              exact ⟨_, by first | rfl | (simp [errW_none, errW_some] <;> rfl) | (simp [*, errW_none, errW_some] <;> rfl), by first | exact Kd.RW_nil _ _ _ _ _ | exact Kd.N_nil _ _ _ _ _ | exact Kd.V_nil _ _ _ _ _ | exact Kd.Q_nil _ _ _ _ _ | exact Kd.S_nil _ _ _ _ _, zb⟩
          · replace c14 := Bool.eq_false_iff.mpr c14
            subst c14
            have H1 : (some (false, ([] : List Int), 0, false)) = some (r1, r2, r3, r4) := by rw [if_neg (show ¬ (false = true) by decide)] at H; exact H
            clear H
            have H := H1
            clear H1
            simp only [Option.some.injEq, Prod.mk.injEq] at H
            obtain ⟨rfl, rfl, rfl, rfl⟩ := H
            go_wp2_with (first | ((with_reducible refine gate_callee (f := 22) rfl ?_); refine goesL_ (some 39) rfl rfl Tryz.func22 (by kernel_rfl) rfl #[.string (t245 ++ t246)] rfl za ?_; (with_reducible refine (impl_readLimbs.calls kj4 (t245 ++ t246) t249 _ ?side1 A12.out).mono ?_); (case side1 => exact HT.out.below zb); rintro e w63 ⟨v250, rfl, ho0, hb⟩; refine ⟨_, rfl, ?_⟩; have n0_ := Aside0.mk (Kd.V_lower (Kd.V_mono (ok' := fun k_ => k_ ≠ gb242) ho0 (fun k_ hk_ => (Kd.freshB (g := gb242) (o := .cells #[.bool false, .slice none 0 0, .int .i64 0] 26 (0, 0)) (zk BK242.out) k_ hk_))) (below_size zb)); have n1_ := Aside0.mk (blk_below (g := gb242) (o := .cells #[.bool false, .slice none 0 0, .int .i64 0] 26 (0, 0)) (zk BK242.out) hb); have n2_ := Aside0.mk (below_step zb hb); clear BK242; clear HB; have HO251 := n0_; have BK242 := n1_; have HB := n2_; clear n0_ n1_ n2_; (try clear hb); (try clear hb2); (try clear hk); (try clear hi); (try clear ho0); obtain ⟨Ao64, co64, eo64⟩ := Kd.V_slice HO251.out; subst eo64) | ((with_reducible refine gate_callee (f := 21) rfl ?_); refine goesL_ (some 40) rfl rfl Tryz.func21 (by kernel_rfl) rfl #[.bool t244, .slice Ao64 t249.length co64] rfl za ?_; (with_reducible refine (impl_big.calls kj4 t244 _ _ t249 t252 t253 false _ ?side1 ?side2 A13.out).mono ?_); (case side1 => repeat (first | exact (Kd.V_reads' HO251.out).2.2 | (with_reducible refine Kd.C_alloc ?_ _) | (with_reducible refine Kd.C_drewN ?_ _) | (with_reducible refine Kd.C_drew ?_))); (case side2 => exact (Kd.V_reads' HO251.out).2.1); rintro e w65 ⟨v254, rfl, ho0, hb⟩; refine ⟨_, rfl, ?_⟩; have n0_ := Aside0.mk (Kd.V_elder' (zV HO251.out) (Kd.RW_base ho0) hb); have n1_ := Aside0.mk (Kd.RW_lower ho0 (below_size zb)); have n2_ := Aside0.mk (blk_below (g := gb242) (o := .cells #[.bool false, .slice none 0 0, .int .i64 0] 26 (0, 0)) (zk BK242.out) hb); have n3_ := Aside0.mk (below_step zb hb); clear HO251; clear BK242; clear HB; have HO251 := n0_; have HO255 := n1_; have BK242 := n2_; have HB := n3_; clear n0_ n1_ n2_ n3_; (try clear hb); (try clear hb2); (try clear hk); (try clear hi); (try clear ho0)) | ((with_reducible refine gate_dst (N := 10) rfl ?_); (try (refine gate_guard (by rfl) ?_; dsimp only)); refine box_event ?hg (N := 10) ?hd (cs := #[.bool false, .slice none 0 0]) (t := 24) ?hr ?_; (case hd => rfl); (case hg => rfl); (case hr => first | (go_simp; done) | (go_simp; rfl)); intro gb257 hg w66 hbox hb; have n0_ := Aside0.mk (Kd.V_below (Kd.V_elderB (zV HO251.out) gb257 (Nat.le_of_eq hg.symm)) hb); have n1_ := Aside0.mk (Kd.RW_below (zRW HO255.out) hb); have n2_ := Aside0.mk (blk_below (g := gb242) (o := .cells #[.bool false, .slice none 0 0, .int .i64 0] 26 (0, 0)) (zk BK242.out) hb); have n3_ := Aside0.mk (below_step zb hb); have n4_ := Aside0.mk (hbox); have n5_ := Aside0.mk ((by rw [hg]; exact (below_size zb) : w.heap.size ≤ gb257)); have n6_ := Aside0.mk ((by rw [hg]; exact (below_size zb) : w.heap.size ≤ gb257)); have n7_ := Aside0.mk ((by rw [hg]; exact Nat.ne_of_lt (blk_lt (g := gb242) (o := .cells #[.bool false, .slice none 0 0, .int .i64 0] 26 (0, 0)) (zk BK242.out)) : gb242 ≠ gb257)); have n8_ := Aside0.mk ((by rw [hg]; exact Nat.ne_of_gt (blk_lt (g := gb242) (o := .cells #[.bool false, .slice none 0 0, .int .i64 0] 26 (0, 0)) (zk BK242.out)) : gb257 ≠ gb242)); clear HO251; clear HO255; clear BK242; clear HB; have HO251 := n0_; have HO255 := n1_; have BK242 := n2_; have HB := n3_; have BK257 := n4_; have GW257 := n5_; have GE257 := n6_; have NB242_257 := n7_; have NB257_242 := n8_; clear n0_ n1_ n2_ n3_ n4_ n5_ n6_ n7_ n8_; clear hb hbox hg; have hnb67 := NB257_242.out; have hnc67 := NB242_257.out; have hcz68_0 : w66.cell? ⟨gb257, 0, none⟩ = some (.bool false) := (blk_cell BK257.out 0).trans rfl; have hcz68_1 : w66.cell? ⟨gb257, 1, none⟩ = some (.slice none 0 0) := (blk_cell BK257.out 1).trans rfl; have hfz68_0 := blk_frozen BK257.out 0; have hfz68_1 := blk_frozen BK257.out 1; obtain ⟨Ao69, co69, eo69⟩ := Kd.RW_slice HO255.out; subst eo69) | ((with_reducible refine gate_dst (N := 12) rfl ?_); (try (refine gate_guard (by rfl) ?_; dsimp only)); refine box_event ?hg (N := 12) ?hd (cs := #[.bool false, .slice none 0 0, .int .i64 0]) (t := 26) ?hr ?_; (case hd => rfl); (case hg => rfl); (case hr => first | (go_simp; done) | (go_simp; rfl)); intro gb258 hg w70 hbox hb; have n0_ := Aside0.mk (Kd.V_below (Kd.V_elderB (by (with_reducible repeat (first | apply Kd.V_alloc | apply Kd.V_drewN | apply Kd.V_drew)); exact (Kd.V_mono (Kd.V_far (p := ⟨gb257, 1, none⟩) (Kd.V_far (p := ⟨gb257, 0, none⟩) (Kd.V_mono HO251.out (fun k_ hk => (⟨hk, hk.2⟩ : _ ∧ k_ ≠ gb257))) (fun _ hk => hk.2) (.bool t252)) (fun _ hk => hk.2) (.slice Ao69 t253.length co69)) (fun _ h_ => h_.1))) gb258 (Nat.le_of_eq hg.symm)) hb); have n1_ := Aside0.mk (Kd.RW_below (by (with_reducible repeat (first | apply Kd.RW_alloc | apply Kd.RW_drewN | apply Kd.RW_drew)); exact (Kd.RW_mono (Kd.RW_far (p := ⟨gb257, 1, none⟩) (Kd.RW_far (p := ⟨gb257, 0, none⟩) (Kd.RW_types HO255.out BK257.out (by decide)) (fun _ hk => hk.2) (.bool t252)) (fun _ hk => hk.2) (.slice Ao69 t253.length co69)) (fun _ h_ => h_.1))) hb); have n2_ := Aside0.mk (blk_below (g := gb242) (o := .cells #[.bool false, .slice none 0 0, .int .i64 0] 26 (0, 0)) (zk BK242.out) hb); have n3_ := Aside0.mk (blk_below (g := gb257) (o := .cells #[.bool t252, .slice Ao69 t253.length co69] 24 (0, 0)) (by (with_reducible repeat (first | refine blk_drewN ?_ _ | refine blk_drew ?_ | refine blk_alloc ?_ _)); refine blk_put (cs := #[.bool t252, .slice none 0 0]) ?_ 1 _ rfl; (with_reducible repeat (first | refine blk_drewN ?_ _ | refine blk_drew ?_ | refine blk_alloc ?_ _)); refine blk_put (cs := #[.bool false, .slice none 0 0]) ?_ 0 _ rfl; (with_reducible repeat (first | refine blk_drewN ?_ _ | refine blk_drew ?_ | refine blk_alloc ?_ _)); exact BK257.out) hb); have n4_ := Aside0.mk (below_step zb hb); have n5_ := Aside0.mk (hbox); have n6_ := Aside0.mk ((by rw [hg]; exact (below_size zb) : w.heap.size ≤ gb258)); have n7_ := Aside0.mk ((by rw [hg]; exact (below_size zb) : w.heap.size ≤ gb258)); have n8_ := Aside0.mk ((by rw [hg]; exact Nat.ne_of_lt (blk_lt (g := gb242) (o := .cells #[.bool false, .slice none 0 0, .int .i64 0] 26 (0, 0)) (zk BK242.out)) : gb242 ≠ gb258)); have n9_ := Aside0.mk ((by rw [hg]; exact Nat.ne_of_gt (blk_lt (g := gb242) (o := .cells #[.bool false, .slice none 0 0, .int .i64 0] 26 (0, 0)) (zk BK242.out)) : gb258 ≠ gb242)); have n10_ := Aside0.mk ((by rw [hg]; exact Nat.ne_of_lt (blk_lt (g := gb257) (o := .cells #[.bool t252, .slice Ao69 t253.length co69] 24 (0, 0)) (by (with_reducible repeat (first | refine blk_drewN ?_ _ | refine blk_drew ?_ | refine blk_alloc ?_ _)); refine blk_put (cs := #[.bool t252, .slice none 0 0]) ?_ 1 _ rfl; (with_reducible repeat (first | refine blk_drewN ?_ _ | refine blk_drew ?_ | refine blk_alloc ?_ _)); refine blk_put (cs := #[.bool false, .slice none 0 0]) ?_ 0 _ rfl; (with_reducible repeat (first | refine blk_drewN ?_ _ | refine blk_drew ?_ | refine blk_alloc ?_ _)); exact BK257.out)) : gb257 ≠ gb258)); have n11_ := Aside0.mk ((by rw [hg]; exact Nat.ne_of_gt (blk_lt (g := gb257) (o := .cells #[.bool t252, .slice Ao69 t253.length co69] 24 (0, 0)) (by (with_reducible repeat (first | refine blk_drewN ?_ _ | refine blk_drew ?_ | refine blk_alloc ?_ _)); refine blk_put (cs := #[.bool t252, .slice none 0 0]) ?_ 1 _ rfl; (with_reducible repeat (first | refine blk_drewN ?_ _ | refine blk_drew ?_ | refine blk_alloc ?_ _)); refine blk_put (cs := #[.bool false, .slice none 0 0]) ?_ 0 _ rfl; (with_reducible repeat (first | refine blk_drewN ?_ _ | refine blk_drew ?_ | refine blk_alloc ?_ _)); exact BK257.out)) : gb258 ≠ gb257)); clear HO251; clear HO255; clear BK242; clear BK257; clear HB; have HO251 := n0_; have HO255 := n1_; have BK242 := n2_; have BK257 := n3_; have HB := n4_; have BK258 := n5_; have GW258 := n6_; have GE258 := n7_; have NB242_258 := n8_; have NB258_242 := n9_; have NB257_258 := n10_; have NB258_257 := n11_; clear n0_ n1_ n2_ n3_ n4_ n5_ n6_ n7_ n8_ n9_ n10_ n11_; clear hb hbox hg; have hnb71 := NB258_242.out; have hnc71 := NB242_258.out; have hnb72 := NB258_257.out; have hnc72 := NB257_258.out; have hcz73_0 : w70.cell? ⟨gb258, 0, none⟩ = some (.bool false) := (blk_cell BK258.out 0).trans rfl; have hcz73_1 : w70.cell? ⟨gb258, 1, none⟩ = some (.slice none 0 0) := (blk_cell BK258.out 1).trans rfl; have hcz73_2 : w70.cell? ⟨gb258, 2, none⟩ = some (.int .i64 0) := (blk_cell BK258.out 2).trans rfl; have hfz73_0 := blk_frozen BK258.out 0; have hfz73_1 := blk_frozen BK258.out 1; have hfz73_2 := blk_frozen BK258.out 2; have hcz74_0 : w70.cell? ⟨gb242, 0, none⟩ = some (.bool false) := (blk_cell BK242.out 0).trans rfl; have hcz74_1 : w70.cell? ⟨gb242, 1, none⟩ = some (.slice none 0 0) := (blk_cell BK242.out 1).trans rfl; have hcz74_2 : w70.cell? ⟨gb242, 2, none⟩ = some (.int .i64 0) := (blk_cell BK242.out 2).trans rfl; have hfz74_0 := blk_frozen BK242.out 0; have hfz74_1 := blk_frozen BK242.out 1; have hfz74_2 := blk_frozen BK242.out 2))
            refine bodyPost_ret (results_ct rfl _ _ gb242 26 #[.bool false, .slice none 0 0, .int .i64 0] (0, 0) _ rfl (by (with_reducible repeat (first | refine blk_drewN ?_ _ | refine blk_drew ?_ | refine blk_alloc ?_ _)); refine blk_put (cs := #[.bool false, .slice none 0 0, .int .i64 0]) ?_ 2 _ rfl; (with_reducible repeat (first | refine blk_drewN ?_ _ | refine blk_drew ?_ | refine blk_alloc ?_ _)); refine blk_put (cs := #[.bool false, .slice none 0 0, .int .i64 0]) ?_ 1 _ rfl; (with_reducible repeat (first | refine blk_drewN ?_ _ | refine blk_drew ?_ | refine blk_alloc ?_ _)); refine blk_put (cs := #[.bool false, .slice none 0 0, .int .i64 0]) ?_ 0 _ rfl; (with_reducible repeat (first | refine blk_drewN ?_ _ | refine blk_drew ?_ | refine blk_alloc ?_ _)); refine blk_far ?_ NB242_258.out _; (with_reducible repeat (first | refine blk_drewN ?_ _ | refine blk_drew ?_ | refine blk_alloc ?_ _)); refine blk_far ?_ NB242_258.out _; (with_reducible repeat (first | refine blk_drewN ?_ _ | refine blk_drew ?_ | refine blk_alloc ?_ _)); refine blk_far ?_ NB242_258.out _; (with_reducible repeat (first | refine blk_drewN ?_ _ | refine blk_drew ?_ | refine blk_alloc ?_ _)); exact BK242.out) Tryz.underlying26 rfl (by kernel_rfl)) rfl ?_
            exact ⟨_, by first | rfl | (simp [errW_none, errW_some] <;> rfl) | (simp [*, errW_none, errW_some] <;> rfl), by first | exact Kd.RW_nil _ _ _ _ _ | exact Kd.N_nil _ _ _ _ _ | exact Kd.V_nil _ _ _ _ _ | exact Kd.Q_nil _ _ _ _ _ | exact Kd.S_nil _ _ _ _ _, zb⟩
  · rw [if_neg c4] at H
    exact absurd H (by simp)
end Go.Proofs.YtdbgpoileffbeaaGreatDoor.Pw
end
section
namespace Go.Proofs.YtdbgpoileffbeaaGreatDoor.Pw
open Go.Proofs.YtdbgpoileffbeaaGreatDoor.Pr Go.Proofs.YtdbgpoileffbeaaGreatDoor.RWs Go.RowKit Go.Proofs.YtdbgpoileffbeaaGreatDoorW.PrintWords Go.Proofs.YtdbgpoileffbeaaGreatDoorW.PrintLast Go.Proofs.YtdbgpoileffbeaaGreatDoor.Ext Go.Proofs.YtdbgpoileffbeaaGreatDoorW.PrintMore
attribute [local go_sem] max2_int min2_int max_two min_two max_three min_three max_four min_four
set_option linter.unusedVariables false
set_option linter.unusedSimpArgs false
def laws_FnExactDecGet.f (k : Nat) (a0 : ByteArray) : Option (Bool) := if (a0.size : Int) > 1048576 then (some true) else ((spec_DecGet.f k a0).bind fun bt281 => ((impl_DecGet.f k a0).bind fun bt288 => ((laws_eqDec.f k bt288.1 bt288.2.1 bt288.2.2.1 bt281.1 bt281.2.1 bt281.2.2.1).bind fun t295 => (if t295 = true then (if (bt288.2.2.2 != bt281.2.2.2) = true then (none) else ((laws_markDec.f k bt288.1 bt288.2.1 bt288.2.2.1 1).bind fun bt296 => ((laws_heldDec.f k bt288.1 bt296.2 bt288.2.2.1 1).bind fun t298 => (if t298 < 0 then (none) else (if t298 = bt296.1 then ((impl_DecGet.f k a0).bind fun bt299 => ((laws_eqDec.f k bt299.1 bt299.2.1 bt299.2.2.1 bt281.1 bt281.2.1 bt281.2.2.1).bind fun t306 => (if t306 = true then (if (bt299.2.2.2 != bt281.2.2.2) = true then (none) else ((laws_heldDec.f k bt288.1 bt296.2 bt288.2.2.1 1).bind fun t307 => (if t307 < 0 then (none) else (if t307 = bt296.1 then (some true) else (none))))) else (none)))) else (none)))))) else (none)))))
set_option maxHeartbeats 8000000 in
set_option maxRecDepth 100000 in
theorem laws_FnExactDecGet.calls (k : Nat) (a0 : ByteArray) (r : Bool) (w : World) (hT : EnvA w) (h : laws_FnExactDecGet.f k a0 = some r) :
    Calls Tryz.prog 3 #[.string a0] w fun e w' => e = .returned (.bool r) ∧ Below w.heap.size w w' := by
  have hu26 := Tryz.underlying26
  have HB := Aside0.mk (Below.refl w.heap.size w)
  have HT := Aside0.mk hT
  clear hT
  have H : (if (a0.size : Int) > 1048576 then (some true) else ((spec_DecGet.f k a0).bind fun bt281 => ((impl_DecGet.f k a0).bind fun bt288 => ((laws_eqDec.f k bt288.1 bt288.2.1 bt288.2.2.1 bt281.1 bt281.2.1 bt281.2.2.1).bind fun t295 => (if t295 = true then (if (bt288.2.2.2 != bt281.2.2.2) = true then (none) else ((laws_markDec.f k bt288.1 bt288.2.1 bt288.2.2.1 1).bind fun bt296 => ((laws_heldDec.f k bt288.1 bt296.2 bt288.2.2.1 1).bind fun t298 => (if t298 < 0 then (none) else (if t298 = bt296.1 then ((impl_DecGet.f k a0).bind fun bt299 => ((laws_eqDec.f k bt299.1 bt299.2.1 bt299.2.2.1 bt281.1 bt281.2.1 bt281.2.2.1).bind fun t306 => (if t306 = true then (if (bt299.2.2.2 != bt281.2.2.2) = true then (none) else ((laws_heldDec.f k bt288.1 bt296.2 bt288.2.2.1 1).bind fun t307 => (if t307 < 0 then (none) else (if t307 = bt296.1 then (some true) else (none))))) else (none)))) else (none)))))) else (none)))))) = some r := h
  clear h
  by_cases c2 : (a0.size : Int) > 1048576
  · rw [if_pos c2] at H
    have c2b0 : decide (1048576 < (a0.size : Int)) = true := decide_eq_true c2
    have c2b1 : decide (1048576 < a0.size) = true := decide_eq_true (by omega)
    clear c2
    obtain rfl := Option.some.inj H
    go_enter Tryz.func3, Tryz.ntmps3
    go_wp2
    go_ret
    exact ⟨by first | rfl | (simp [errW_none, errW_some] <;> rfl) | (simp [*, errW_none, errW_some] <;> rfl), zb⟩
  · rw [if_neg c2] at H
    have c2b0 : decide (1048576 < (a0.size : Int)) = false := decide_eq_false c2
    have c2b1 : decide (1048576 < a0.size) = false := decide_eq_false (by omega)
    clear c2
    replace H := Option.bind_eq_some_iff.mp H
    obtain ⟨⟨t281, t282, t285, t286⟩, A30, H⟩ := H
    replace H : ((impl_DecGet.f k a0).bind fun bt288 => ((laws_eqDec.f k bt288.1 bt288.2.1 bt288.2.2.1 t281 t282 t285).bind fun t295 => (if t295 = true then (if (bt288.2.2.2 != t286) = true then (none) else ((laws_markDec.f k bt288.1 bt288.2.1 bt288.2.2.1 1).bind fun bt296 => ((laws_heldDec.f k bt288.1 bt296.2 bt288.2.2.1 1).bind fun t298 => (if t298 < 0 then (none) else (if t298 = bt296.1 then ((impl_DecGet.f k a0).bind fun bt299 => ((laws_eqDec.f k bt299.1 bt299.2.1 bt299.2.2.1 t281 t282 t285).bind fun t306 => (if t306 = true then (if (bt299.2.2.2 != t286) = true then (none) else ((laws_heldDec.f k bt288.1 bt296.2 bt288.2.2.1 1).bind fun t307 => (if t307 < 0 then (none) else (if t307 = bt296.1 then (some true) else (none))))) else (none)))) else (none)))))) else (none)))) = some r := H
    have A3 := Aside0.mk A30
    clear A30
    replace H := Option.bind_eq_some_iff.mp H
    obtain ⟨⟨t288, t289, t292, t293⟩, A40, H⟩ := H
    replace H : ((laws_eqDec.f k t288 t289 t292 t281 t282 t285).bind fun t295 => (if t295 = true then (if (t293 != t286) = true then (none) else ((laws_markDec.f k t288 t289 t292 1).bind fun bt296 => ((laws_heldDec.f k t288 bt296.2 t292 1).bind fun t298 => (if t298 < 0 then (none) else (if t298 = bt296.1 then ((impl_DecGet.f k a0).bind fun bt299 => ((laws_eqDec.f k bt299.1 bt299.2.1 bt299.2.2.1 t281 t282 t285).bind fun t306 => (if t306 = true then (if (bt299.2.2.2 != t286) = true then (none) else ((laws_heldDec.f k t288 bt296.2 t292 1).bind fun t307 => (if t307 < 0 then (none) else (if t307 = bt296.1 then (some true) else (none))))) else (none)))) else (none)))))) else (none))) = some r := H
    have A4 := Aside0.mk A40
    clear A40
    replace H := Option.bind_eq_some_iff.mp H
    obtain ⟨t295, A50, H⟩ := H
    replace H : (if t295 = true then (if (t293 != t286) = true then (none) else ((laws_markDec.f k t288 t289 t292 1).bind fun bt296 => ((laws_heldDec.f k t288 bt296.2 t292 1).bind fun t298 => (if t298 < 0 then (none) else (if t298 = bt296.1 then ((impl_DecGet.f k a0).bind fun bt299 => ((laws_eqDec.f k bt299.1 bt299.2.1 bt299.2.2.1 t281 t282 t285).bind fun t306 => (if t306 = true then (if (bt299.2.2.2 != t286) = true then (none) else ((laws_heldDec.f k t288 bt296.2 t292 1).bind fun t307 => (if t307 < 0 then (none) else (if t307 = bt296.1 then (some true) else (none))))) else (none)))) else (none)))))) else (none)) = some r := H
    have A5 := Aside0.mk A50
    clear A50
    by_cases c6 : t295 = true
    · subst c6
      have H1 : (if (t293 != t286) = true then (none) else ((laws_markDec.f k t288 t289 t292 1).bind fun bt296 => ((laws_heldDec.f k t288 bt296.2 t292 1).bind fun t298 => (if t298 < 0 then (none) else (if t298 = bt296.1 then ((impl_DecGet.f k a0).bind fun bt299 => ((laws_eqDec.f k bt299.1 bt299.2.1 bt299.2.2.1 t281 t282 t285).bind fun t306 => (if t306 = true then (if (bt299.2.2.2 != t286) = true then (none) else ((laws_heldDec.f k t288 bt296.2 t292 1).bind fun t307 => (if t307 < 0 then (none) else (if t307 = bt296.1 then (some true) else (none))))) else (none)))) else (none)))))) = some r := by rw [if_pos rfl] at H; exact H
      clear H
      have H := H1
      clear H1
      by_cases c7 : (t293 != t286) = true
      · rw [if_pos c7] at H
        exact absurd H (by simp)
      · rw [if_neg c7] at H
        have c7b0 : (t293 != t286) = false := by simpa using c7
        (try (have c7b1 : decide (t293 = t286) = true := by simpa using c7))
        (try (have c7b2 : (t293 == t286) = true := by simpa using c7))
        clear c7
        replace H := Option.bind_eq_some_iff.mp H
        obtain ⟨⟨t296, t297⟩, A80, H⟩ := H
        replace H : ((laws_heldDec.f k t288 t297 t292 1).bind fun t298 => (if t298 < 0 then (none) else (if t298 = t296 then ((impl_DecGet.f k a0).bind fun bt299 => ((laws_eqDec.f k bt299.1 bt299.2.1 bt299.2.2.1 t281 t282 t285).bind fun t306 => (if t306 = true then (if (bt299.2.2.2 != t286) = true then (none) else ((laws_heldDec.f k t288 t297 t292 1).bind fun t307 => (if t307 < 0 then (none) else (if t307 = t296 then (some true) else (none))))) else (none)))) else (none)))) = some r := H
        have A8 := Aside0.mk A80
        clear A80
        replace H := Option.bind_eq_some_iff.mp H
        obtain ⟨t298, A90, H⟩ := H
        replace H : (if t298 < 0 then (none) else (if t298 = t296 then ((impl_DecGet.f k a0).bind fun bt299 => ((laws_eqDec.f k bt299.1 bt299.2.1 bt299.2.2.1 t281 t282 t285).bind fun t306 => (if t306 = true then (if (bt299.2.2.2 != t286) = true then (none) else ((laws_heldDec.f k t288 t297 t292 1).bind fun t307 => (if t307 < 0 then (none) else (if t307 = t296 then (some true) else (none))))) else (none)))) else (none))) = some r := H
        have A9 := Aside0.mk A90
        clear A90
        by_cases c10 : t298 < 0
        · rw [if_pos c10] at H
          exact absurd H (by simp)
        · rw [if_neg c10] at H
          have c10b0 : decide (t298 < 0) = false := decide_eq_false c10
          clear c10
          by_cases c11 : t298 = t296
          · rw [if_pos c11] at H
            have c11b0 : (t298 == t296) = true := beq_iff_eq.mpr c11
            have c11b1 : (t298 != t296) = false := bne_eq_false_iff_eq.mpr c11
            clear c11
            replace H := Option.bind_eq_some_iff.mp H
            obtain ⟨⟨t299, t300, t303, t304⟩, A120, H⟩ := H
            replace H : ((laws_eqDec.f k t299 t300 t303 t281 t282 t285).bind fun t306 => (if t306 = true then (if (t304 != t286) = true then (none) else ((laws_heldDec.f k t288 t297 t292 1).bind fun t307 => (if t307 < 0 then (none) else (if t307 = t296 then (some true) else (none))))) else (none))) = some r := H
            have A12 := Aside0.mk A120
            clear A120
            replace H := Option.bind_eq_some_iff.mp H
            obtain ⟨t306, A130, H⟩ := H
            replace H : (if t306 = true then (if (t304 != t286) = true then (none) else ((laws_heldDec.f k t288 t297 t292 1).bind fun t307 => (if t307 < 0 then (none) else (if t307 = t296 then (some true) else (none))))) else (none)) = some r := H
            have A13 := Aside0.mk A130
            clear A130
            by_cases c14 : t306 = true
            · subst c14
              have H1 : (if (t304 != t286) = true then (none) else ((laws_heldDec.f k t288 t297 t292 1).bind fun t307 => (if t307 < 0 then (none) else (if t307 = t296 then (some true) else (none))))) = some r := by rw [if_pos rfl] at H; exact H
              clear H
              have H := H1
              clear H1
              by_cases c15 : (t304 != t286) = true
              · rw [if_pos c15] at H
                exact absurd H (by simp)
              · rw [if_neg c15] at H
                have c15b0 : (t304 != t286) = false := by simpa using c15
                (try (have c15b1 : decide (t304 = t286) = true := by simpa using c15))
                (try (have c15b2 : (t304 == t286) = true := by simpa using c15))
                clear c15
                replace H := Option.bind_eq_some_iff.mp H
                obtain ⟨t307, A160, H⟩ := H
                replace H : (if t307 < 0 then (none) else (if t307 = t296 then (some true) else (none))) = some r := H
                have A16 := Aside0.mk A160
                clear A160
                by_cases c17 : t307 < 0
                · rw [if_pos c17] at H
                  exact absurd H (by simp)
                · rw [if_neg c17] at H
                  have c17b0 : decide (t307 < 0) = false := decide_eq_false c17
                  clear c17
                  by_cases c18 : t307 = t296
                  · rw [if_pos c18] at H
                    have c18b0 : (t307 == t296) = true := beq_iff_eq.mpr c18
                    have c18b1 : (t307 != t296) = false := bne_eq_false_iff_eq.mpr c18
                    clear c18
                    obtain rfl := Option.some.inj H
                    go_enter Tryz.func3, Tryz.ntmps3
                    go_wp2_with (first | ((with_reducible refine gate_callee (f := 6) rfl ?_); refine goesL_ (some 16) rfl rfl Tryz.func6 (by kernel_rfl) rfl #[.string a0] rfl za ?_; (with_reducible refine (spec_DecGet.calls k a0 t281 t282 t285 t286 _ A3.out).mono ?_); rintro e w19 ⟨v283, rfl, ho0, hb⟩; refine ⟨_, rfl, ?_⟩; have n0_ := Aside0.mk (Kd.RW_lower ho0 (below_size zb)); have n1_ := Aside0.mk (below_step zb hb); clear HB; have HO284 := n0_; have HB := n1_; clear n0_ n1_; (try clear hb); (try clear hb2); (try clear hk); (try clear hi); (try clear ho0)) | ((with_reducible refine gate_dst (N := 3) rfl ?_); refine box_event ?hg (N := 3) ?hd (cs := #[.bool false, .slice none 0 0, .int .i64 0]) (t := 26) ?hr ?_; (case hd => rfl); (case hg => rfl); (case hr => first | (go_simp; done) | (go_simp; rfl)); intro gb287 hg w20 hbox hb; have n0_ := Aside0.mk (Kd.RW_below (zRW HO284.out) hb); have n1_ := Aside0.mk (below_step zb hb); have n2_ := Aside0.mk (hbox); have n3_ := Aside0.mk ((by rw [hg]; exact (below_size zb) : w.heap.size ≤ gb287)); have n4_ := Aside0.mk ((by rw [hg]; exact (below_size zb) : w.heap.size ≤ gb287)); clear HO284; clear HB; have HO284 := n0_; have HB := n1_; have BK287 := n2_; have GW287 := n3_; have GE287 := n4_; clear n0_ n1_ n2_ n3_ n4_; clear hb hbox hg; have hcz21_0 : w20.cell? ⟨gb287, 0, none⟩ = some (.bool false) := (blk_cell BK287.out 0).trans rfl; have hcz21_1 : w20.cell? ⟨gb287, 1, none⟩ = some (.slice none 0 0) := (blk_cell BK287.out 1).trans rfl; have hcz21_2 : w20.cell? ⟨gb287, 2, none⟩ = some (.int .i64 0) := (blk_cell BK287.out 2).trans rfl; have hfz21_0 := blk_frozen BK287.out 0; have hfz21_1 := blk_frozen BK287.out 1; have hfz21_2 := blk_frozen BK287.out 2; obtain ⟨Ao22, co22, eo22⟩ := Kd.RW_slice HO284.out; subst eo22) | ((with_reducible refine gate_callee (f := 7) rfl ?_); refine goesL_ (some 21) rfl rfl Tryz.func7 (by kernel_rfl) rfl #[.string a0] rfl za ?_; (with_reducible refine (impl_DecGet.calls k a0 t288 t289 t292 t293 _ ?side1 A4.out).mono ?_); (case side1 => exact HT.out.below zb); rintro e w23 ⟨v290, rfl, ho0, hb⟩; refine ⟨_, rfl, ?_⟩; have n0_ := Aside0.mk (Kd.RW_elder' (by (with_reducible repeat (first | apply Kd.RW_alloc | apply Kd.RW_drewN | apply Kd.RW_drew)); exact (Kd.RW_mono (Kd.RW_far (p := ⟨gb287, 2, none⟩) (Kd.RW_far (p := ⟨gb287, 1, none⟩) (Kd.RW_far (p := ⟨gb287, 0, none⟩) (Kd.RW_types HO284.out BK287.out (by decide)) (fun _ hk => hk.2) (.bool t281)) (fun _ hk => hk.2) (.slice Ao22 t282.length co22)) (fun _ hk => hk.2) (.int .i64 t285)) (fun _ h_ => h_.1))) (Kd.RW_base ho0) hb); have n1_ := Aside0.mk (Kd.RW_lower (Kd.RW_new' ho0 (Kd.RW_lt (by (with_reducible repeat (first | apply Kd.RW_alloc | apply Kd.RW_drewN | apply Kd.RW_drew)); exact (Kd.RW_mono (Kd.RW_far (p := ⟨gb287, 2, none⟩) (Kd.RW_far (p := ⟨gb287, 1, none⟩) (Kd.RW_far (p := ⟨gb287, 0, none⟩) (Kd.RW_types HO284.out BK287.out (by decide)) (fun _ hk => hk.2) (.bool t281)) (fun _ hk => hk.2) (.slice Ao22 t282.length co22)) (fun _ hk => hk.2) (.int .i64 t285)) (fun _ h_ => h_.1))))) (below_size zb)); have n2_ := Aside0.mk (blk_below (g := gb287) (o := .cells #[.bool t281, .slice Ao22 t282.length co22, .int .i64 t285] 26 (0, 0)) (by (with_reducible repeat (first | refine blk_drewN ?_ _ | refine blk_drew ?_ | refine blk_alloc ?_ _)); refine blk_put (cs := #[.bool t281, .slice Ao22 t282.length co22, .int .i64 0]) ?_ 2 _ rfl; (with_reducible repeat (first | refine blk_drewN ?_ _ | refine blk_drew ?_ | refine blk_alloc ?_ _)); refine blk_put (cs := #[.bool t281, .slice none 0 0, .int .i64 0]) ?_ 1 _ rfl; (with_reducible repeat (first | refine blk_drewN ?_ _ | refine blk_drew ?_ | refine blk_alloc ?_ _)); refine blk_put (cs := #[.bool false, .slice none 0 0, .int .i64 0]) ?_ 0 _ rfl; (with_reducible repeat (first | refine blk_drewN ?_ _ | refine blk_drew ?_ | refine blk_alloc ?_ _)); exact BK287.out) hb); have n3_ := Aside0.mk (below_step zb hb); clear HO284; clear BK287; clear HB; have HO284 := n0_; have HO291 := n1_; have BK287 := n2_; have HB := n3_; clear n0_ n1_ n2_ n3_; (try clear hb); (try clear hb2); (try clear hk); (try clear hi); (try clear ho0)) | ((with_reducible refine gate_dst (N := 5) rfl ?_); refine box_event ?hg (N := 5) ?hd (cs := #[.bool false, .slice none 0 0, .int .i64 0]) (t := 26) ?hr ?_; (case hd => rfl); (case hg => rfl); (case hr => first | (go_simp; done) | (go_simp; rfl)); intro gb294 hg w24 hbox hb; have n0_ := Aside0.mk (Kd.RW_below (zRW HO284.out) hb); have n1_ := Aside0.mk (Kd.RW_below (zRW HO291.out) hb); have n2_ := Aside0.mk (blk_below (g := gb287) (o := .cells #[.bool t281, .slice Ao22 t282.length co22, .int .i64 t285] 26 (0, 0)) (zk BK287.out) hb); have n3_ := Aside0.mk (below_step zb hb); have n4_ := Aside0.mk (hbox); have n5_ := Aside0.mk ((by rw [hg]; exact (below_size zb) : w.heap.size ≤ gb294)); have n6_ := Aside0.mk ((by rw [hg]; exact (below_size zb) : w.heap.size ≤ gb294)); have n7_ := Aside0.mk ((by rw [hg]; exact Nat.ne_of_lt (blk_lt (g := gb287) (o := .cells #[.bool t281, .slice Ao22 t282.length co22, .int .i64 t285] 26 (0, 0)) (zk BK287.out)) : gb287 ≠ gb294)); have n8_ := Aside0.mk ((by rw [hg]; exact Nat.ne_of_gt (blk_lt (g := gb287) (o := .cells #[.bool t281, .slice Ao22 t282.length co22, .int .i64 t285] 26 (0, 0)) (zk BK287.out)) : gb294 ≠ gb287)); clear HO284; clear HO291; clear BK287; clear HB; have HO284 := n0_; have HO291 := n1_; have BK287 := n2_; have HB := n3_; have BK294 := n4_; have GW294 := n5_; have GE294 := n6_; have NB287_294 := n7_; have NB294_287 := n8_; clear n0_ n1_ n2_ n3_ n4_ n5_ n6_ n7_ n8_; clear hb hbox hg; have hnb25 := NB294_287.out; have hnc25 := NB287_294.out; have hcz26_0 : w24.cell? ⟨gb294, 0, none⟩ = some (.bool false) := (blk_cell BK294.out 0).trans rfl; have hcz26_1 : w24.cell? ⟨gb294, 1, none⟩ = some (.slice none 0 0) := (blk_cell BK294.out 1).trans rfl; have hcz26_2 : w24.cell? ⟨gb294, 2, none⟩ = some (.int .i64 0) := (blk_cell BK294.out 2).trans rfl; have hfz26_0 := blk_frozen BK294.out 0; have hfz26_1 := blk_frozen BK294.out 1; have hfz26_2 := blk_frozen BK294.out 2; obtain ⟨Ao27, co27, eo27⟩ := Kd.RW_slice HO291.out; subst eo27; have hcz28_0 : w24.cell? ⟨gb287, 0, none⟩ = some (.bool t281) := (blk_cell BK287.out 0).trans rfl; have hcz28_1 : w24.cell? ⟨gb287, 1, none⟩ = some (.slice Ao22 t282.length co22) := (blk_cell BK287.out 1).trans rfl; have hcz28_2 : w24.cell? ⟨gb287, 2, none⟩ = some (.int .i64 t285) := (blk_cell BK287.out 2).trans rfl; have hfz28_0 := blk_frozen BK287.out 0; have hfz28_1 := blk_frozen BK287.out 1; have hfz28_2 := blk_frozen BK287.out 2) | ((with_reducible refine gate_callee (f := 8) rfl ?_); refine goesL_ (some 26) rfl rfl Tryz.func8 (by kernel_rfl) rfl #[.agg #[.bool t288, .slice Ao27 t289.length co27, .int .i64 t292], .agg #[.bool t281, .slice Ao22 t282.length co22, .int .i64 t285]] rfl za ?_; (with_reducible refine (laws_eqDec.calls k t288 _ _ t289 t292 t281 _ _ t282 t285 true _ ?side1 ?side2 ?side3 ?side4 A5.out).mono ?_); (case side1 => refine (Kd.RW_reads' (e := 3) (base := w.heap.size) (ok := fun k_ => (True ∧ some k_ ≠ (.slice Ao22 t282.length co22 : Value).ownBlock)) (n := t289.length) (c := co27) ?_).2.2; exact (by (with_reducible repeat (first | apply Kd.RW_alloc | apply Kd.RW_drewN | apply Kd.RW_drew)); exact (Kd.RW_mono (Kd.RW_far (p := ⟨gb294, 2, none⟩) (Kd.RW_far (p := ⟨gb294, 1, none⟩) (Kd.RW_far (p := ⟨gb294, 0, none⟩) (Kd.RW_types HO291.out BK294.out (by decide)) (fun _ hk => hk.2) (.bool t288)) (fun _ hk => hk.2) (.slice Ao27 t289.length co27)) (fun _ hk => hk.2) (.int .i64 t292)) (fun _ h_ => h_.1)))); (case side2 => exact (Kd.RW_reads' HO291.out).2.1); (case side3 => refine (Kd.RW_reads' (e := 3) (base := w.heap.size) (ok := fun k_ => (True ∧ some k_ ≠ (.slice Ao27 t289.length co27 : Value).ownBlock)) (n := t282.length) (c := co22) ?_).2.2; exact (by (with_reducible repeat (first | apply Kd.RW_alloc | apply Kd.RW_drewN | apply Kd.RW_drew)); exact (Kd.RW_mono (Kd.RW_far (p := ⟨gb294, 2, none⟩) (Kd.RW_far (p := ⟨gb294, 1, none⟩) (Kd.RW_far (p := ⟨gb294, 0, none⟩) (Kd.RW_types HO284.out BK294.out (by decide)) (fun _ hk => hk.2) (.bool t288)) (fun _ hk => hk.2) (.slice Ao27 t289.length co27)) (fun _ hk => hk.2) (.int .i64 t292)) (fun _ h_ => h_.1)))); (case side4 => exact (Kd.RW_reads' HO284.out).2.1); rintro e w29 ⟨rfl, hb⟩; refine ⟨_, rfl, ?_⟩; have n0_ := Aside0.mk (Kd.RW_below (by (with_reducible repeat (first | apply Kd.RW_alloc | apply Kd.RW_drewN | apply Kd.RW_drew)); exact (Kd.RW_mono (Kd.RW_far (p := ⟨gb294, 2, none⟩) (Kd.RW_far (p := ⟨gb294, 1, none⟩) (Kd.RW_far (p := ⟨gb294, 0, none⟩) (Kd.RW_types HO284.out BK294.out (by decide)) (fun _ hk => hk.2) (.bool t288)) (fun _ hk => hk.2) (.slice Ao27 t289.length co27)) (fun _ hk => hk.2) (.int .i64 t292)) (fun _ h_ => h_.1))) hb); have n1_ := Aside0.mk (Kd.RW_below (by (with_reducible repeat (first | apply Kd.RW_alloc | apply Kd.RW_drewN | apply Kd.RW_drew)); exact (Kd.RW_mono (Kd.RW_far (p := ⟨gb294, 2, none⟩) (Kd.RW_far (p := ⟨gb294, 1, none⟩) (Kd.RW_far (p := ⟨gb294, 0, none⟩) (Kd.RW_types HO291.out BK294.out (by decide)) (fun _ hk => hk.2) (.bool t288)) (fun _ hk => hk.2) (.slice Ao27 t289.length co27)) (fun _ hk => hk.2) (.int .i64 t292)) (fun _ h_ => h_.1))) hb); have n2_ := Aside0.mk (blk_below (g := gb287) (o := .cells #[.bool t281, .slice Ao22 t282.length co22, .int .i64 t285] 26 (0, 0)) (zk BK287.out) hb); have n3_ := Aside0.mk (blk_below (g := gb294) (o := .cells #[.bool t288, .slice Ao27 t289.length co27, .int .i64 t292] 26 (0, 0)) (by (with_reducible repeat (first | refine blk_drewN ?_ _ | refine blk_drew ?_ | refine blk_alloc ?_ _)); refine blk_put (cs := #[.bool t288, .slice Ao27 t289.length co27, .int .i64 0]) ?_ 2 _ rfl; (with_reducible repeat (first | refine blk_drewN ?_ _ | refine blk_drew ?_ | refine blk_alloc ?_ _)); refine blk_put (cs := #[.bool t288, .slice none 0 0, .int .i64 0]) ?_ 1 _ rfl; (with_reducible repeat (first | refine blk_drewN ?_ _ | refine blk_drew ?_ | refine blk_alloc ?_ _)); refine blk_put (cs := #[.bool false, .slice none 0 0, .int .i64 0]) ?_ 0 _ rfl; (with_reducible repeat (first | refine blk_drewN ?_ _ | refine blk_drew ?_ | refine blk_alloc ?_ _)); exact BK294.out) hb); have n4_ := Aside0.mk (below_step zb hb); clear HO284; clear HO291; clear BK287; clear BK294; clear HB; have HO284 := n0_; have HO291 := n1_; have BK287 := n2_; have BK294 := n3_; have HB := n4_; clear n0_ n1_ n2_ n3_ n4_; (try clear hb); (try clear hb2); (try clear hk); (try clear hi); have hcz30_0 : w29.cell? ⟨gb294, 0, none⟩ = some (.bool t288) := (blk_cell BK294.out 0).trans rfl; have hcz30_1 : w29.cell? ⟨gb294, 1, none⟩ = some (.slice Ao27 t289.length co27) := (blk_cell BK294.out 1).trans rfl; have hcz30_2 : w29.cell? ⟨gb294, 2, none⟩ = some (.int .i64 t292) := (blk_cell BK294.out 2).trans rfl; have hfz30_0 := blk_frozen BK294.out 0; have hfz30_1 := blk_frozen BK294.out 1; have hfz30_2 := blk_frozen BK294.out 2) | ((with_reducible refine gate_callee (f := 9) rfl ?_); refine goesL_ (some 35) rfl rfl Tryz.func9 (by kernel_rfl) rfl #[.agg #[.bool t288, .slice Ao27 t289.length co27, .int .i64 t292], .int .i64 1] rfl za ?_; (with_reducible refine (laws_markDec.calls k t288 (fun k_ => some k_ = (.slice Ao27 t289.length co27 : Value).ownBlock) (.slice Ao27 t289.length co27) t289 t292 1 t296 t297 w _ ?side1 ?side2 A8.out).mono ?_); (case side1 => repeat (first | (with_reducible first | exact HB.out | apply below_alloc | apply pw_below_drewN | apply below_drew1 | refine below_set ?_ GE287.out | refine below_set ?_ GE294.out) | exact HB.out)); (case side2 => exact Kd.RW_tight rfl HO291.out); rintro e w31 ⟨rfl, hy0, hb, hkp⟩; refine ⟨_, rfl, ?_⟩; have n0_ := Aside0.mk (Kd.RW_mono (ok' := fun k_ => some k_ ≠ (.slice Ao27 t289.length co27 : Value).ownBlock) (Kd.RW_keptB (HO284.out) hkp (fun k_ hk_ hs_ => (hk_.2) hs_)) (fun k_ hk_ => hk_.1.2)); have n1_ := Aside0.mk (blk_kept (zk BK287.out) hkp (fun hs_ => (fun e_ => (Kd.RW_ne HO291.out BK287.out (by decide)) e_) hs_)); have n2_ := Aside0.mk (Kd.RW_reok rfl hy0 (fun k_ e_ => HO291.out.1 k_ e_)); have n3_ := Aside0.mk (blk_kept (zk BK294.out) hkp (fun hs_ => (fun e_ => (Kd.RW_ne HO291.out BK294.out (by decide)) e_) hs_)); have n4_ := Aside0.mk (hb); clear HO284; clear BK287; clear HO291; clear BK294; clear HB; have HO284 := n0_; have BK287 := n1_; have HO291 := n2_; have BK294 := n3_; have HB := n4_; clear n0_ n1_ n2_ n3_ n4_; (try clear hb); (try clear hkp); (try clear hy0); have hcz32_0 : w31.cell? ⟨gb294, 0, none⟩ = some (.bool t288) := (blk_cell BK294.out 0).trans rfl; have hcz32_1 : w31.cell? ⟨gb294, 1, none⟩ = some (.slice Ao27 t289.length co27) := (blk_cell BK294.out 1).trans rfl; have hcz32_2 : w31.cell? ⟨gb294, 2, none⟩ = some (.int .i64 t292) := (blk_cell BK294.out 2).trans rfl; have hfz32_0 := blk_frozen BK294.out 0; have hfz32_1 := blk_frozen BK294.out 1; have hfz32_2 := blk_frozen BK294.out 2) | ((with_reducible refine gate_callee (f := 10) rfl ?_); refine goesL_ (some 38) rfl rfl Tryz.func10 (by kernel_rfl) rfl #[.agg #[.bool t288, .slice Ao27 t297.length co27, .int .i64 t292], .int .i64 1] rfl (by (try simp only [List.map_toArray, List.map_cons, List.map_nil]); first | done | (rw [show t297.length = t289.length from (Kd.RW_reads' HO291.out).1.symm] <;> rfl) | rfl | (simp only [List.length_drop, List.length_take]; rfl)) ?_; (with_reducible refine (laws_heldDec.calls k t288 _ _ t297 t292 1 t298 _ ?side1 ?side2 A9.out).mono ?_); (case side1 => repeat (first | exact (Kd.RW_reads' HO291.out).2.2 | (with_reducible refine Kd.C_alloc ?_ _) | (with_reducible refine Kd.C_drewN ?_ _) | (with_reducible refine Kd.C_drew ?_))); (case side2 => rw [show t297.length = t289.length from (Kd.RW_reads' HO291.out).1.symm]; exact (Kd.RW_reads' HO291.out).2.1); rintro e w33 ⟨rfl, hb⟩; refine ⟨_, rfl, ?_⟩; have n0_ := Aside0.mk (Kd.RW_below (zRW HO284.out) hb); have n1_ := Aside0.mk (Kd.RW_below (zRW HO291.out) hb); have n2_ := Aside0.mk (blk_below (g := gb287) (o := .cells #[.bool t281, .slice Ao22 t282.length co22, .int .i64 t285] 26 (0, 0)) (zk BK287.out) hb); have n3_ := Aside0.mk (blk_below (g := gb294) (o := .cells #[.bool t288, .slice Ao27 t289.length co27, .int .i64 t292] 26 (0, 0)) (zk BK294.out) hb); have n4_ := Aside0.mk (below_step zb hb); clear HO284; clear HO291; clear BK287; clear BK294; clear HB; have HO284 := n0_; have HO291 := n1_; have BK287 := n2_; have BK294 := n3_; have HB := n4_; clear n0_ n1_ n2_ n3_ n4_; (try clear hb); (try clear hb2); (try clear hk); (try clear hi)) | ((with_reducible refine gate_callee (f := 7) rfl ?_); refine goesL_ (some 46) rfl rfl Tryz.func7 (by kernel_rfl) rfl #[.string a0] rfl za ?_; (with_reducible refine (impl_DecGet.calls k a0 t299 t300 t303 t304 _ ?side1 A12.out).mono ?_); (case side1 => exact HT.out.below zb); rintro e w34 ⟨v301, rfl, ho0, hb⟩; refine ⟨_, rfl, ?_⟩; have n0_ := Aside0.mk (Kd.RW_elder' (zRW HO284.out) (Kd.RW_base ho0) hb); have n1_ := Aside0.mk (Kd.RW_elder' (zRW HO291.out) (Kd.RW_base ho0) hb); have n2_ := Aside0.mk (Kd.RW_lower (Kd.RW_new' (Kd.RW_new' ho0 (Kd.RW_lt (zRW HO284.out))) (Kd.RW_lt (zRW HO291.out))) (below_size zb)); have n3_ := Aside0.mk (blk_below (g := gb287) (o := .cells #[.bool t281, .slice Ao22 t282.length co22, .int .i64 t285] 26 (0, 0)) (zk BK287.out) hb); have n4_ := Aside0.mk (blk_below (g := gb294) (o := .cells #[.bool t288, .slice Ao27 t289.length co27, .int .i64 t292] 26 (0, 0)) (zk BK294.out) hb); have n5_ := Aside0.mk (below_step zb hb); clear HO284; clear HO291; clear BK287; clear BK294; clear HB; have HO284 := n0_; have HO291 := n1_; have HO302 := n2_; have BK287 := n3_; have BK294 := n4_; have HB := n5_; clear n0_ n1_ n2_ n3_ n4_ n5_; (try clear hb); (try clear hb2); (try clear hk); (try clear hi); (try clear ho0)) | ((with_reducible refine gate_dst (N := 9) rfl ?_); refine box_event ?hg (N := 9) ?hd (cs := #[.bool false, .slice none 0 0, .int .i64 0]) (t := 26) ?hr ?_; (case hd => rfl); (case hg => rfl); (case hr => first | (go_simp; done) | (go_simp; rfl)); intro gb305 hg w35 hbox hb; have n0_ := Aside0.mk (Kd.RW_below (zRW HO284.out) hb); have n1_ := Aside0.mk (Kd.RW_below (zRW HO291.out) hb); have n2_ := Aside0.mk (Kd.RW_below (zRW HO302.out) hb); have n3_ := Aside0.mk (blk_below (g := gb287) (o := .cells #[.bool t281, .slice Ao22 t282.length co22, .int .i64 t285] 26 (0, 0)) (zk BK287.out) hb); have n4_ := Aside0.mk (blk_below (g := gb294) (o := .cells #[.bool t288, .slice Ao27 t289.length co27, .int .i64 t292] 26 (0, 0)) (zk BK294.out) hb); have n5_ := Aside0.mk (below_step zb hb); have n6_ := Aside0.mk (hbox); have n7_ := Aside0.mk ((by rw [hg]; exact (below_size zb) : w.heap.size ≤ gb305)); have n8_ := Aside0.mk ((by rw [hg]; exact (below_size zb) : w.heap.size ≤ gb305)); have n9_ := Aside0.mk ((by rw [hg]; exact Nat.ne_of_lt (blk_lt (g := gb287) (o := .cells #[.bool t281, .slice Ao22 t282.length co22, .int .i64 t285] 26 (0, 0)) (zk BK287.out)) : gb287 ≠ gb305)); have n10_ := Aside0.mk ((by rw [hg]; exact Nat.ne_of_gt (blk_lt (g := gb287) (o := .cells #[.bool t281, .slice Ao22 t282.length co22, .int .i64 t285] 26 (0, 0)) (zk BK287.out)) : gb305 ≠ gb287)); have n11_ := Aside0.mk ((by rw [hg]; exact Nat.ne_of_lt (blk_lt (g := gb294) (o := .cells #[.bool t288, .slice Ao27 t289.length co27, .int .i64 t292] 26 (0, 0)) (zk BK294.out)) : gb294 ≠ gb305)); have n12_ := Aside0.mk ((by rw [hg]; exact Nat.ne_of_gt (blk_lt (g := gb294) (o := .cells #[.bool t288, .slice Ao27 t289.length co27, .int .i64 t292] 26 (0, 0)) (zk BK294.out)) : gb305 ≠ gb294)); clear HO284; clear HO291; clear HO302; clear BK287; clear BK294; clear HB; have HO284 := n0_; have HO291 := n1_; have HO302 := n2_; have BK287 := n3_; have BK294 := n4_; have HB := n5_; have BK305 := n6_; have GW305 := n7_; have GE305 := n8_; have NB287_305 := n9_; have NB305_287 := n10_; have NB294_305 := n11_; have NB305_294 := n12_; clear n0_ n1_ n2_ n3_ n4_ n5_ n6_ n7_ n8_ n9_ n10_ n11_ n12_; clear hb hbox hg; have hnb36 := NB305_287.out; have hnc36 := NB287_305.out; have hnb37 := NB305_294.out; have hnc37 := NB294_305.out; have hcz38_0 : w35.cell? ⟨gb305, 0, none⟩ = some (.bool false) := (blk_cell BK305.out 0).trans rfl; have hcz38_1 : w35.cell? ⟨gb305, 1, none⟩ = some (.slice none 0 0) := (blk_cell BK305.out 1).trans rfl; have hcz38_2 : w35.cell? ⟨gb305, 2, none⟩ = some (.int .i64 0) := (blk_cell BK305.out 2).trans rfl; have hfz38_0 := blk_frozen BK305.out 0; have hfz38_1 := blk_frozen BK305.out 1; have hfz38_2 := blk_frozen BK305.out 2; obtain ⟨Ao39, co39, eo39⟩ := Kd.RW_slice HO302.out; subst eo39; have hcz40_0 : w35.cell? ⟨gb287, 0, none⟩ = some (.bool t281) := (blk_cell BK287.out 0).trans rfl; have hcz40_1 : w35.cell? ⟨gb287, 1, none⟩ = some (.slice Ao22 t282.length co22) := (blk_cell BK287.out 1).trans rfl; have hcz40_2 : w35.cell? ⟨gb287, 2, none⟩ = some (.int .i64 t285) := (blk_cell BK287.out 2).trans rfl; have hfz40_0 := blk_frozen BK287.out 0; have hfz40_1 := blk_frozen BK287.out 1; have hfz40_2 := blk_frozen BK287.out 2) | ((with_reducible refine gate_callee (f := 8) rfl ?_); refine goesL_ (some 51) rfl rfl Tryz.func8 (by kernel_rfl) rfl #[.agg #[.bool t299, .slice Ao39 t300.length co39, .int .i64 t303], .agg #[.bool t281, .slice Ao22 t282.length co22, .int .i64 t285]] rfl za ?_; (with_reducible refine (laws_eqDec.calls k t299 _ _ t300 t303 t281 _ _ t282 t285 true _ ?side1 ?side2 ?side3 ?side4 A13.out).mono ?_); (case side1 => refine (Kd.RW_reads' (e := 3) (base := w.heap.size) (ok := fun k_ => ((True ∧ some k_ ≠ (.slice Ao22 t282.length co22 : Value).ownBlock) ∧ some k_ ≠ (.slice Ao27 t289.length co27 : Value).ownBlock)) (n := t300.length) (c := co39) ?_).2.2; exact (by (with_reducible repeat (first | apply Kd.RW_alloc | apply Kd.RW_drewN | apply Kd.RW_drew)); exact (Kd.RW_mono (Kd.RW_far (p := ⟨gb305, 2, none⟩) (Kd.RW_far (p := ⟨gb305, 1, none⟩) (Kd.RW_far (p := ⟨gb305, 0, none⟩) (Kd.RW_types HO302.out BK305.out (by decide)) (fun _ hk => hk.2) (.bool t299)) (fun _ hk => hk.2) (.slice Ao39 t300.length co39)) (fun _ hk => hk.2) (.int .i64 t303)) (fun _ h_ => h_.1)))); (case side2 => exact (Kd.RW_reads' HO302.out).2.1); (case side3 => refine (Kd.RW_reads' (e := 3) (base := w.heap.size) (ok := fun k_ => (some k_ ≠ (.slice Ao27 t289.length co27 : Value).ownBlock ∧ some k_ ≠ (.slice Ao39 t300.length co39 : Value).ownBlock)) (n := t282.length) (c := co22) ?_).2.2; exact (by (with_reducible repeat (first | apply Kd.RW_alloc | apply Kd.RW_drewN | apply Kd.RW_drew)); exact (Kd.RW_mono (Kd.RW_far (p := ⟨gb305, 2, none⟩) (Kd.RW_far (p := ⟨gb305, 1, none⟩) (Kd.RW_far (p := ⟨gb305, 0, none⟩) (Kd.RW_types HO284.out BK305.out (by decide)) (fun _ hk => hk.2) (.bool t299)) (fun _ hk => hk.2) (.slice Ao39 t300.length co39)) (fun _ hk => hk.2) (.int .i64 t303)) (fun _ h_ => h_.1)))); (case side4 => exact (Kd.RW_reads' HO284.out).2.1); rintro e w41 ⟨rfl, hb⟩; refine ⟨_, rfl, ?_⟩; have n0_ := Aside0.mk (Kd.RW_below (by (with_reducible repeat (first | apply Kd.RW_alloc | apply Kd.RW_drewN | apply Kd.RW_drew)); exact (Kd.RW_mono (Kd.RW_far (p := ⟨gb305, 2, none⟩) (Kd.RW_far (p := ⟨gb305, 1, none⟩) (Kd.RW_far (p := ⟨gb305, 0, none⟩) (Kd.RW_types HO284.out BK305.out (by decide)) (fun _ hk => hk.2) (.bool t299)) (fun _ hk => hk.2) (.slice Ao39 t300.length co39)) (fun _ hk => hk.2) (.int .i64 t303)) (fun _ h_ => h_.1))) hb); have n1_ := Aside0.mk (Kd.RW_below (by (with_reducible repeat (first | apply Kd.RW_alloc | apply Kd.RW_drewN | apply Kd.RW_drew)); exact (Kd.RW_mono (Kd.RW_far (p := ⟨gb305, 2, none⟩) (Kd.RW_far (p := ⟨gb305, 1, none⟩) (Kd.RW_far (p := ⟨gb305, 0, none⟩) (Kd.RW_types HO291.out BK305.out (by decide)) (fun _ hk => hk.2) (.bool t299)) (fun _ hk => hk.2) (.slice Ao39 t300.length co39)) (fun _ hk => hk.2) (.int .i64 t303)) (fun _ h_ => h_.1))) hb); have n2_ := Aside0.mk (Kd.RW_below (by (with_reducible repeat (first | apply Kd.RW_alloc | apply Kd.RW_drewN | apply Kd.RW_drew)); exact (Kd.RW_mono (Kd.RW_far (p := ⟨gb305, 2, none⟩) (Kd.RW_far (p := ⟨gb305, 1, none⟩) (Kd.RW_far (p := ⟨gb305, 0, none⟩) (Kd.RW_types HO302.out BK305.out (by decide)) (fun _ hk => hk.2) (.bool t299)) (fun _ hk => hk.2) (.slice Ao39 t300.length co39)) (fun _ hk => hk.2) (.int .i64 t303)) (fun _ h_ => h_.1))) hb); have n3_ := Aside0.mk (blk_below (g := gb287) (o := .cells #[.bool t281, .slice Ao22 t282.length co22, .int .i64 t285] 26 (0, 0)) (zk BK287.out) hb); have n4_ := Aside0.mk (blk_below (g := gb294) (o := .cells #[.bool t288, .slice Ao27 t289.length co27, .int .i64 t292] 26 (0, 0)) (zk BK294.out) hb); have n5_ := Aside0.mk (blk_below (g := gb305) (o := .cells #[.bool t299, .slice Ao39 t300.length co39, .int .i64 t303] 26 (0, 0)) (by (with_reducible repeat (first | refine blk_drewN ?_ _ | refine blk_drew ?_ | refine blk_alloc ?_ _)); refine blk_put (cs := #[.bool t299, .slice Ao39 t300.length co39, .int .i64 0]) ?_ 2 _ rfl; (with_reducible repeat (first | refine blk_drewN ?_ _ | refine blk_drew ?_ | refine blk_alloc ?_ _)); refine blk_put (cs := #[.bool t299, .slice none 0 0, .int .i64 0]) ?_ 1 _ rfl; (with_reducible repeat (first | refine blk_drewN ?_ _ | refine blk_drew ?_ | refine blk_alloc ?_ _)); refine blk_put (cs := #[.bool false, .slice none 0 0, .int .i64 0]) ?_ 0 _ rfl; (with_reducible repeat (first | refine blk_drewN ?_ _ | refine blk_drew ?_ | refine blk_alloc ?_ _)); exact BK305.out) hb); have n6_ := Aside0.mk (below_step zb hb); clear HO284; clear HO291; clear HO302; clear BK287; clear BK294; clear BK305; clear HB; have HO284 := n0_; have HO291 := n1_; have HO302 := n2_; have BK287 := n3_; have BK294 := n4_; have BK305 := n5_; have HB := n6_; clear n0_ n1_ n2_ n3_ n4_ n5_ n6_; (try clear hb); (try clear hb2); (try clear hk); (try clear hi); have hcz42_0 : w41.cell? ⟨gb294, 0, none⟩ = some (.bool t288) := (blk_cell BK294.out 0).trans rfl; have hcz42_1 : w41.cell? ⟨gb294, 1, none⟩ = some (.slice Ao27 t289.length co27) := (blk_cell BK294.out 1).trans rfl; have hcz42_2 : w41.cell? ⟨gb294, 2, none⟩ = some (.int .i64 t292) := (blk_cell BK294.out 2).trans rfl; have hfz42_0 := blk_frozen BK294.out 0; have hfz42_1 := blk_frozen BK294.out 1; have hfz42_2 := blk_frozen BK294.out 2) | ((with_reducible refine gate_callee (f := 10) rfl ?_); refine goesL_ (some 60) rfl rfl Tryz.func10 (by kernel_rfl) rfl #[.agg #[.bool t288, .slice Ao27 t297.length co27, .int .i64 t292], .int .i64 1] rfl (by (try simp only [List.map_toArray, List.map_cons, List.map_nil]); first | done | (rw [show t297.length = t289.length from (Kd.RW_reads' HO291.out).1.symm] <;> rfl) | rfl | (simp only [List.length_drop, List.length_take]; rfl)) ?_; (with_reducible refine (laws_heldDec.calls k t288 _ _ t297 t292 1 t307 _ ?side1 ?side2 A16.out).mono ?_); (case side1 => repeat (first | exact (Kd.RW_reads' HO291.out).2.2 | (with_reducible refine Kd.C_alloc ?_ _) | (with_reducible refine Kd.C_drewN ?_ _) | (with_reducible refine Kd.C_drew ?_))); (case side2 => rw [show t297.length = t289.length from (Kd.RW_reads' HO291.out).1.symm]; exact (Kd.RW_reads' HO291.out).2.1); rintro e w43 ⟨rfl, hb⟩; refine ⟨_, rfl, ?_⟩; have n0_ := Aside0.mk (Kd.RW_below (zRW HO284.out) hb); have n1_ := Aside0.mk (Kd.RW_below (zRW HO291.out) hb); have n2_ := Aside0.mk (Kd.RW_below (zRW HO302.out) hb); have n3_ := Aside0.mk (blk_below (g := gb287) (o := .cells #[.bool t281, .slice Ao22 t282.length co22, .int .i64 t285] 26 (0, 0)) (zk BK287.out) hb); have n4_ := Aside0.mk (blk_below (g := gb294) (o := .cells #[.bool t288, .slice Ao27 t289.length co27, .int .i64 t292] 26 (0, 0)) (zk BK294.out) hb); have n5_ := Aside0.mk (blk_below (g := gb305) (o := .cells #[.bool t299, .slice Ao39 t300.length co39, .int .i64 t303] 26 (0, 0)) (zk BK305.out) hb); have n6_ := Aside0.mk (below_step zb hb); clear HO284; clear HO291; clear HO302; clear BK287; clear BK294; clear BK305; clear HB; have HO284 := n0_; have HO291 := n1_; have HO302 := n2_; have BK287 := n3_; have BK294 := n4_; have BK305 := n5_; have HB := n6_; clear n0_ n1_ n2_ n3_ n4_ n5_ n6_; (try clear hb); (try clear hb2); (try clear hk); (try clear hi)))
                    go_ret
                    exact ⟨by first | rfl | (simp [errW_none, errW_some] <;> rfl) | (simp [*, errW_none, errW_some] <;> rfl), zb⟩
                  · rw [if_neg c18] at H
                    exact absurd H (by simp)
            · replace c14 := Bool.eq_false_iff.mpr c14
              subst c14
              have H1 : (none) = some r := by rw [if_neg (show ¬ (false = true) by decide)] at H; exact H
              clear H
              have H := H1
              clear H1
              exact absurd H (by simp)
          · rw [if_neg c11] at H
            exact absurd H (by simp)
    · replace c6 := Bool.eq_false_iff.mpr c6
      subst c6
      have H1 : (none) = some r := by rw [if_neg (show ¬ (false = true) by decide)] at H; exact H
      clear H
      have H := H1
      clear H1
      exact absurd H (by simp)
def laws_FnExactDecGet.Pure : Prop := ∀ (a0 : ByteArray), a0.size ≤ 140737488351232 → ∃ k, laws_FnExactDecGet.f k a0 = some true
theorem laws_FnExactDecGet.walk (P : laws_FnExactDecGet.Pure) (a0 : ByteArray) (w : World) (hT : EnvA w) (w0 : a0.size ≤ 140737488351232) :
    Calls Tryz.prog 3 #[.string a0] w fun e w' => e = .returned (.bool true) ∧ Below w.heap.size w w' := by
  obtain ⟨k, h⟩ := P a0 w0
  refine (laws_FnExactDecGet.calls k a0 true w hT h).mono ?_
  rintro e w' ⟨rfl, hd⟩
  exact ⟨rfl, hd⟩
end Go.Proofs.YtdbgpoileffbeaaGreatDoor.Pw
end
section
namespace Go.Proofs.YtdbgpoileffbeaaGreatDoor.Mk
open Go.RowKit Go.Proofs.YtdbgpoileffbeaaGreatDoor.Pr Go.Proofs.YtdbgpoileffbeaaGreatDoor.Pw Go.Proofs.YtdbgpoileffbeaaGreatDoor.Ext Go.Proofs.YtdbgpoileffbeaaGreatDoor.Jt Go.Proofs.YtdbgpoileffbeaaGreatDoor.Val Go.Proofs.YtdbgpoileffbeaaGreatDoorW.PrintWords Go.Proofs.YtdbgpoileffbeaaGreatDoorW.PrintLast Go.Proofs.YtdbgpoileffbeaaGreatDoorW.PrintMore
set_option linter.unusedVariables false
set_option linter.unusedSimpArgs false
theorem mark_l0 : ∀ (m i : Nat) (x : List Int) (a : Int), i + m = x.length → x.length ≤ 1000 → 0 ≤ a → a + m ≤ 1000000 →
    ∃ r, (∀ k, m + 1 ≤ k → laws_markIntS.l0 k x a (i : Int) = some (a + m, r)) ∧ r.length = x.length ∧ (∀ j, j < i → r.getD j 0 = x.getD j 0) ∧ (∀ j, i ≤ j → j < x.length → r.getD j 0 = a + ((j - i : Nat) : Int)) := by
  intro m
  induction m with
  | zero =>
    intro i x a hi hl h0 h1
    refine ⟨x, fun k hk => ?_, rfl, fun j _ => rfl, fun j h2 h3 => by omega⟩
    obtain ⟨k, rfl⟩ : ∃ j, k = j + 1 := ⟨k - 1, by omega⟩
    rw [laws_markIntS.l0, if_neg (by omega)]
    simp
  | succ m ih =>
    intro i x a hi hl h0 h1
    have hlt : i < x.length := by omega
    · obtain ⟨r, hr, h2, h3, h4⟩ := ih (i + 1) (x.set i a) (a + 1) (by rw [List.length_set]; omega) (by rw [List.length_set]; omega) (by omega) (by omega)
      refine ⟨r, fun k hk => ?_, by rw [h2, List.length_set], fun j hj => by rw [h3 j (by omega), Go.Proofs.YtdbgpoileffbeaaGreatDoor.Val.getD_set_ne _ hlt (by omega)], fun j hj hj2 => ?_⟩
      · obtain ⟨k, rfl⟩ : ∃ j, k = j + 1 := ⟨k - 1, by omega⟩
        rw [laws_markIntS.l0, if_pos (by omega), if_pos (by omega), Int.toNat_natCast, w64 (by omega) (by omega), w64 (by omega) (by omega), show ((i : Int) + 1) = ((i + 1 : Nat) : Int) from by omega, hr k (by omega)]
        rw [show a + 1 + (m : Int) = a + ((m + 1 : Nat) : Int) from by omega]
      · by_cases hji : j = i
        · rw [hji, h3 i (by omega), Go.Proofs.YtdbgpoileffbeaaGreatDoor.Val.getD_set_eq _ hlt]; omega
        · rw [h4 j (by omega) (by rw [List.length_set]; exact hj2)]; omega
theorem held_l0 : ∀ (m k i : Nat) (x : List Int) (a : Int), i + m = x.length → x.length ≤ 1000 → 0 ≤ a → a + m ≤ 1000000 → (∀ j, i ≤ j → j < x.length → x.getD j 0 = a + ((j - i : Nat) : Int)) → m + 1 ≤ k →
    laws_heldIntS.l0 k x a (i : Int) = some (a + m) := by
  intro m
  induction m with
  | zero =>
    intro k i x a hi hl h0 h1 hx hk
    obtain ⟨k, rfl⟩ : ∃ j, k = j + 1 := ⟨k - 1, by omega⟩
    rw [laws_heldIntS.l0, if_neg (by omega)]
    simp
  | succ m ih =>
    intro k i x a hi hl h0 h1 hx hk
    obtain ⟨k, rfl⟩ : ∃ j, k = j + 1 := ⟨k - 1, by omega⟩
    have e := hx i (Nat.le_refl _) (by omega)
    rw [laws_heldIntS.l0, if_pos (by omega), if_pos (by omega), rdN, if_pos (by rw [e]; simp), w64 (by omega) (by omega), w64 (by omega) (by omega), show ((i : Int) + 1) = ((i + 1 : Nat) : Int) from by omega,
      ih k (i + 1) x (a + 1) (by omega) hl (by omega) (by omega) (fun j h2 h3 => by rw [hx j (by omega) h3]; omega) (by omega)]
    rw [show a + 1 + (m : Int) = a + ((m + 1 : Nat) : Int) from by omega]
theorem mark_ge (n : Bool) (l : List Int) (hl : l.length ≤ 1000) (a : Int) (h0 : 0 ≤ a) (h1 : a ≤ 900000) : ∃ r, (∀ k, 1010 ≤ k → laws_markBig.f k n l a = some (a + l.length, r)) ∧ r.length = l.length ∧ (∀ n' k, 1010 ≤ k → laws_heldBig.f k n' r a = some (a + l.length)) := by
  obtain ⟨r, hr, h2, _, h4⟩ := mark_l0 l.length 0 l a (by omega) hl h0 (by omega)
  refine ⟨r, fun k hk => ?_, h2, fun n' k hk => ?_⟩
  · unfold laws_markBig.f laws_markIntS.f
    rw [show (0 : Int) = ((0 : Nat) : Int) from rfl, hr k (by omega)]; rfl
  · unfold laws_heldBig.f laws_heldIntS.f
    rw [show (0 : Int) = ((0 : Nat) : Int) from rfl, held_l0 r.length k 0 r a (by omega) (by omega) h0 (by omega) (fun j h5 h6 => h4 j h5 (by omega)) (by omega), Option.bind_some, h2, if_neg (by omega)]
end Go.Proofs.YtdbgpoileffbeaaGreatDoor.Mk
end
section
namespace Go.Proofs.YtdbgpoileffbeaaGreatDoor.Val
open Go.RowKit Go.Proofs.YtdbgpoileffbeaaGreatDoor.Pr Go.Proofs.YtdbgpoileffbeaaGreatDoor.Ext Go.Proofs.YtdbgpoileffbeaaGreatDoor.Jt Go.Proofs.YtdbgpoileffbeaaGreatDoorW.PrintWords Go.Proofs.YtdbgpoileffbeaaGreatDoorW.PrintLast Go.Proofs.YtdbgpoileffbeaaGreatDoorW.PrintMore
set_option linter.unusedVariables false
set_option linter.unusedSimpArgs false
theorem eqIntS_l0 {a : List Int} (hL : a.length < 100000000) : ∀ (m k i : Nat), i + m = a.length → m + 1 ≤ k → laws_eqIntS.l0 k a a (i : Int) = some true := by
  intro m
  induction m with
  | zero =>
    intro k i hi hk
    obtain ⟨k, rfl⟩ : ∃ j, k = j + 1 := ⟨k - 1, by omega⟩
    rw [laws_eqIntS.l0, if_neg (by omega)]
  | succ m ih =>
    intro k i hi hk
    obtain ⟨k, rfl⟩ : ∃ j, k = j + 1 := ⟨k - 1, by omega⟩
    rw [laws_eqIntS.l0, if_pos (by omega), if_pos (by omega), if_pos (by omega), if_pos rfl, w64 (by omega) (by omega), show ((i : Int) + 1) = ((i + 1 : Nat) : Int) from by omega]
    exact ih k (i + 1) (by omega) (by omega)
theorem eqBig_ge (n : Bool) {l : List Int} (hl : l.length < 100000000) (k : Nat) (hk : l.length + 1 ≤ k) : laws_eqBig.f k n l n l = some true := by
  unfold laws_eqBig.f laws_eqIntS.f
  rw [if_neg (by simp), if_pos rfl]
  rw [show (0 : Int) = ((0 : Nat) : Int) from rfl, eqIntS_l0 hl l.length k 0 (by omega) hk]
  rfl
end Go.Proofs.YtdbgpoileffbeaaGreatDoor.Val
end
section
namespace Go.Proofs.YtdbgpoileffbeaaGreatDoor.Str
open Go.Lib Go.RowKit Go.Proofs.YtdbgpoileffbeaaGreatDoor.Dec Go.Proofs.YtdbgpoileffbeaaGreatDoor.Pr Go.Proofs.YtdbgpoileffbeaaGreatDoor.Ext Go.Proofs.YtdbgpoileffbeaaGreatDoorW.PrintWords Go.Proofs.YtdbgpoileffbeaaGreatDoorW.PrintLast Go.Proofs.YtdbgpoileffbeaaGreatDoorW.PrintMore
set_option linter.unusedVariables false
set_option linter.unusedSimpArgs false
def str (l : List UInt8) : ByteArray := ⟨l.toArray⟩
theorem str_eta (s : ByteArray) : s = str s.data.toList := by unfold str; simp
theorem str_size (l : List UInt8) : (str l).size = l.length := by unfold str; simp [ByteArray.size]
theorem str_data (l : List UInt8) : (str l).data.toList = l := by unfold str; simp
theorem str_toList (l : List UInt8) : (str l).toList = l := by rw [ByteArray.toList_eq, str_data]
theorem str_append (a b : List UInt8) : str a ++ str b = str (a ++ b) := by
  apply ByteArray.ext
  simp [str]
theorem str_extract (l : List UInt8) (a b : Nat) : (str l).extract a b = str ((l.drop a).take (b - a)) := by
  rw [extract_eq, str_data]; rfl
theorem str_bt (l : List UInt8) {i : Int} (h0 : 0 ≤ i) (h1 : i < l.length) : bt (str l) i = ((l[i.toNat]'(by omega)).toNat : Int) := by
  unfold bt
  rw [dif_pos (by rw [str_size]; omega)]
  rfl
theorem str_btD (l : List UInt8) {i : Int} (h0 : 0 ≤ i) (h1 : i < l.length) : bt (str l) i = ((l.getD i.toNat 0).toNat : Int) := by
  rw [str_bt l h0 h1, List.getD_eq_getElem?_getD, List.getElem?_eq_getElem (by omega)]; rfl
theorem bS {α β : Type} (a : α) (f : α → Option β) : (some a).bind f = f a := by have h := Option.bind_some a f; rw [h]
theorem w64 {x : Int} (h : -9223372036854775808 ≤ x) (h' : x ≤ 9223372036854775807) : wrap64 x = x := by unfold wrap64; omega
theorem strOf_one {d : Int} (h0 : 0 ≤ d) (h1 : d < 10) : strOfNums [(wrap64 (48 + d)) % 256] = str [UInt8.ofNat (48 + d.toNat)] := by
  rw [w64 (by omega) (by omega), show (48 + d) % 256 = 48 + d from by omega]
  have e : (48 + d).toNat = 48 + d.toNat := by omega
  unfold strOfNums str
  simp [e]
theorem itoa_nonneg {n : Int} (h : 0 ≤ n) : itoa n = decDigits n.toNat := by unfold itoa; rw [if_neg (by omega)]
theorem itoa_neg {n : Int} (h : n < 0) : itoa n = 45 :: decDigits n.natAbs := by unfold itoa; rw [if_pos h]
theorem decDigits_le (n : Nat) : (decDigits n).length ≤ n + 1 := by
  induction n using Nat.strongRecOn with
  | ind n ih =>
    rw [decDigits]
    split
    · simp
    · have := ih (n / 10) (by omega)
      rw [List.length_append, List.length_singleton]; omega
theorem l1Dec_nonneg (m : Nat) : ∀ (k : Nat) (n : Int), 0 ≤ n → n ≤ 9223372036854775807 → n < 10 ^ m → m < k → spec_l1Dec.f k n = some (str (decDigits n.toNat)) := by
  induction m with
  | zero =>
    intro k n h0 _ hm hk
    obtain ⟨k, rfl⟩ : ∃ j, k = j + 1 := ⟨k - 1, by omega⟩
    have hn : n = 0 := by simp at hm; omega
    subst hn
    rw [spec_l1Dec.f, if_neg (by omega), if_neg (by omega), if_pos (by omega), strOf_one (by omega) (by omega), decDigits, dif_pos (by decide)]
  | succ m ih =>
    intro k n h0 h1 hm hk
    obtain ⟨k, rfl⟩ : ∃ j, k = j + 1 := ⟨k - 1, by omega⟩
    rw [spec_l1Dec.f, if_neg (by omega), if_neg (by omega)]
    by_cases h : n < 10
    · rw [if_pos h, strOf_one h0 h, decDigits, dif_pos (by omega)]
    · have hp : (10 : Int) ^ (m + 1) = 10 ^ m * 10 := Int.pow_succ ..
      rw [if_neg h, Int.tdiv_eq_ediv_of_nonneg h0, w64 (by omega) (by omega), ih k (n / 10) (by omega) (by omega) (by rw [hp] at hm; omega) (by omega), Int.tmod_eq_emod_of_nonneg h0]
      simp only [bS]
      have hd := decDigits_le (n / 10).toNat
      have hd2 : (decDigits (n / 10).toNat).length ≤ 19 := decDigits_len_le (by decide) (by omega)
      rw [strOf_one (by omega) (by omega), str_size, str_size, if_pos (by simp; omega), str_append]
      congr 2
      rw [show n.toNat = n.toNat from rfl, decDigits.eq_def n.toNat, dif_neg (by omega)]
      rw [show (n / 10).toNat = n.toNat / 10 from by omega, show (n % 10).toNat = n.toNat % 10 from by omega]
theorem p19 : (10 : Int) ^ 19 = 10000000000000000000 := by decide
theorem l1Dec_eq {n : Int} (h0 : -9223372036854775808 ≤ n) (h1 : n ≤ 9223372036854775807) (k : Nat) (hk : 25 ≤ k) : spec_l1Dec.f k n = some (str (itoa n)) := by
  by_cases h : 0 ≤ n
  · rw [l1Dec_nonneg 19 k n h h1 (by rw [p19]; omega) (by omega), itoa_nonneg h]
  · obtain ⟨k, rfl⟩ : ∃ j, k = j + 1 := ⟨k - 1, by omega⟩
    rw [spec_l1Dec.f]
    by_cases hm : n < -9223372036854775807
    · have : n = -9223372036854775808 := by omega
      subst this
      rw [if_pos hm]
      have e : itoa (-9223372036854775808) = [45, 57, 50, 50, 51, 51, 55, 50, 48, 51, 54, 56, 53, 52, 55, 55, 53, 56, 48, 56] := by decide +kernel
      rw [e]; rfl
    · have hd2 : (decDigits (-n).toNat).length ≤ 19 := decDigits_len_le (by decide) (by omega)
      rw [if_neg hm, if_pos (by omega), w64 (by omega) (by omega), l1Dec_nonneg 19 k (-n) (by omega) (by omega) (by rw [p19]; omega) (by omega)]
      simp only [bS]
      rw [str_size, if_pos (by omega), itoa_neg (by omega), show n.natAbs = (-n).toNat from by omega]
      exact congrArg some (str_append [45] _)
theorem itoa_len {n : Int} (h0 : -9223372036854775808 ≤ n) (h1 : n ≤ 9223372036854775807) : (itoa n).length ≤ 20 := by
  by_cases h : 0 ≤ n
  · rw [itoa_nonneg h]
    have : (decDigits n.toNat).length ≤ 19 := decDigits_len_le (by decide) (by omega)
    omega
  · rw [itoa_neg (by omega)]
    have : (decDigits n.natAbs).length ≤ 19 := decDigits_len_le (by decide) (by omega)
    rw [List.length_cons]; omega
end Go.Proofs.YtdbgpoileffbeaaGreatDoor.Str
end
section
namespace Go.Proofs.YtdbgpoileffbeaaGreatDoor.Pr
open Go.RowKit Go.Proofs.YtdbgpoileffbeaaGreatDoorW.PrintWords Go.Proofs.YtdbgpoileffbeaaGreatDoorW.PrintLast Go.Proofs.YtdbgpoileffbeaaGreatDoor.Ext Go.Proofs.YtdbgpoileffbeaaGreatDoorW.PrintMore
attribute [local go_sem] max2_int min2_int max_two min_two max_three min_three max_four min_four
set_option linter.unusedVariables false
set_option linter.unusedSimpArgs false
def spec_l14AnyBig.l0 : Nat → List Int → Int → Bool → List Int → Option (Bool × List Int × Int)
  | 0, _, _, _, _ => none
  | k + 1, x1000, x1001, x413000, x413001 => if (x413001.length : Int) < 17 then (if x413001.length < 17592186044416 then (spec_l14AnyBig.l0 k x1000 x1001 x413000 (x413001 ++ [1])) else (none)) else (some (x413000, x413001, x1001))
def spec_l14AnyBig.f (k : Nat) (s0_0 : List Int) (s0_1 : Int) : Option (Bool × List Int × Int) := (spec_l14Big.f k s0_0 s0_1 64).bind fun bt407 => ((spec_l1Rd_pick.f k s0_0 bt407.2.2 30).bind fun bt413 => (if bt413.1 = 0 then (if bt407.2.1.length < 17592186044416 then (some (bt407.1, (bt407.2.1 ++ [0]), bt413.2)) else (none)) else (if bt413.1 = 1 then ((spec_l1Rd_one.f k s0_0 bt413.2 (([10000, (-1)] : List Int))).bind fun bt421 => (if bt407.2.1.length < 17592186044416 then (some (bt407.1, (bt407.2.1 ++ [bt421.1]), bt421.2)) else (none))) else (if bt413.1 = 2 then (some (true, ([] : List Int), bt413.2)) else (if bt413.1 = 3 then (spec_l14AnyBig.l0 k s0_0 bt413.2 bt407.1 bt407.2.1) else (some (bt407.1, bt407.2.1, bt413.2)))))))
def spec_l14AnyDec.f (k : Nat) (s0_0 : List Int) (s0_1 : Int) : Option (Bool × List Int × Int × Int) := (spec_l14Dec.f k s0_0 s0_1).bind fun bt430 => ((spec_l1Rd_pick.f k s0_0 bt430.2.2.2 30).bind fun bt437 => (if bt437.1 = 0 then ((spec_l1Rd_one.f k s0_0 bt437.2 (([(-1), 13, 4611686018427387904] : List Int))).bind fun bt442 => (some (bt430.1, bt430.2.1, bt442.1, bt442.2))) else (if bt437.1 = 1 then ((spec_l14Big.f k s0_0 bt437.2 31).bind fun bt444 => (some (bt444.1, bt444.2.1, bt430.2.2.1, bt444.2.2))) else (if bt437.1 = 2 then ((spec_l14AnyBig.f k s0_0 bt437.2).bind fun bt449 => (some (bt449.1, bt449.2.1, bt430.2.2.1, bt449.2.2))) else (some (bt430.1, bt430.2.1, bt430.2.2.1, bt437.2))))))
def spec_l1Open.f (l0 : List Int) : Option (List Int × Int) := if (l0.length : Int) > 2000 then (if 2000 ≤ (l0.length : Int) then (some (l0.take 2000, 0)) else (none)) else (some (l0, 0))
def spec_DrawDecPut.f (k : Nat) (l0 : List Int) : Option (Bool × List Int × Int) := (spec_l1Open.f l0).bind fun bt458 => ((spec_l14AnyDec.f k bt458.1 bt458.2).bind fun bt461 => (some (bt461.1, bt461.2.1, bt461.2.2.1)))
def spec_l2Put.l0 : Nat → ByteArray → Bool → List Int → Int → Option (ByteArray)
  | 0, _, _, _, _ => none
  | k + 1, x3, x468000, x468001, x468002 => if (x3.size : Int) ≤ x468002 then (if 1 + x3.size ≤ 9223372036854775807 then (spec_l2Put.l0 k ((⟨#[48]⟩ : ByteArray) ++ x3) x468000 x468001 x468002) else (none)) else (if x468002 > 0 then (if 0 ≤ (wrap64 ((x3.size : Int) - x468002)) then (if (wrap64 ((x3.size : Int) - x468002)) ≤ (x3.size : Int) then (if (x3.extract 0 ((wrap64 ((x3.size : Int) - x468002)) : Int).toNat).size + 1 ≤ 9223372036854775807 then (if ((x3.extract 0 ((wrap64 ((x3.size : Int) - x468002)) : Int).toNat) ++ (⟨#[46]⟩ : ByteArray)).size + (x3.extract ((wrap64 ((x3.size : Int) - x468002)) : Int).toNat x3.size).size ≤ 9223372036854775807 then (if x468000 = true then (if 1 + (((x3.extract 0 ((wrap64 ((x3.size : Int) - x468002)) : Int).toNat) ++ (⟨#[46]⟩ : ByteArray)) ++ (x3.extract ((wrap64 ((x3.size : Int) - x468002)) : Int).toNat x3.size)).size ≤ 9223372036854775807 then (some ((⟨#[45]⟩ : ByteArray) ++ (((x3.extract 0 ((wrap64 ((x3.size : Int) - x468002)) : Int).toNat) ++ (⟨#[46]⟩ : ByteArray)) ++ (x3.extract ((wrap64 ((x3.size : Int) - x468002)) : Int).toNat x3.size)))) else (none)) else (some (((x3.extract 0 ((wrap64 ((x3.size : Int) - x468002)) : Int).toNat) ++ (⟨#[46]⟩ : ByteArray)) ++ (x3.extract ((wrap64 ((x3.size : Int) - x468002)) : Int).toNat x3.size)))) else (none)) else (none)) else (none)) else (none)) else (if x468000 = true then (if 1 + x3.size ≤ 9223372036854775807 then (some ((⟨#[45]⟩ : ByteArray) ++ x3)) else (none)) else (some x3)))
def spec_l2Put.f (k : Nat) (a0_0 : Bool) (l0_1 : List Int) (a0_2 : Int) : Option (ByteArray) := (spec_l1Figures.f k l0_1).bind fun t468 => (spec_l2Put.l0 k t468 a0_0 l0_1 a0_2)
def spec_DecPut.f (k : Nat) (a0_0 : Bool) (l0_1 : List Int) (a0_2 : Int) : Option (ByteArray) := (spec_l2Ok.f k a0_0 l0_1 a0_2).bind fun t470 => (if t470 = true then ((spec_l2Put.f k a0_0 l0_1 a0_2).bind fun t471 => (some t471)) else (some (⟨#[]⟩ : ByteArray)))
def spec_l1Rd_of.f (k : Nat) (s0_0 : List Int) (s0_1 : Int) (l1 : List ByteArray) : Option (ByteArray × Int) := (spec_l1Rd_pick.f k s0_0 s0_1 (l1.length : Int)).bind fun bt497 => (if 0 ≤ bt497.1 then (if bt497.1 < (l1.length : Int) then (some (rdOf ByteArray.empty l1 bt497.1, bt497.2)) else (none)) else (none))
end Go.Proofs.YtdbgpoileffbeaaGreatDoor.Pr
end
section
namespace Go.Proofs.YtdbgpoileffbeaaGreatDoor.Str
open Go.Lib Go.RowKit Go.Proofs.YtdbgpoileffbeaaGreatDoor.Dec Go.Proofs.YtdbgpoileffbeaaGreatDoor.Jt Go.Proofs.YtdbgpoileffbeaaGreatDoor.Val Go.Proofs.YtdbgpoileffbeaaGreatDoor.Pr Go.Proofs.YtdbgpoileffbeaaGreatDoor.Ext Go.Proofs.YtdbgpoileffbeaaGreatDoorW.PrintWords Go.Proofs.YtdbgpoileffbeaaGreatDoorW.PrintLast Go.Proofs.YtdbgpoileffbeaaGreatDoorW.PrintMore
set_option linter.unusedVariables false
set_option linter.unusedSimpArgs false
theorem repeat_zeros (c : Nat) : repeatL [48] c = zerosL c := by
  induction c with
  | zero => rfl
  | succ c ih => unfold zerosL at *; rw [repeatL, ih, List.replicate_succ]; rfl
theorem specWide_l0 (d : Nat) : ∀ (k : Nat) (w : Int) (l : List UInt8), w ≤ 100 → l.length ≤ 100 → w - l.length ≤ d → d < k → spec_l1Wide.l0 k w (str l) = some (str (zerosL (w.toNat - l.length) ++ l)) := by
  induction d with
  | zero =>
    intro k w l hw hl hd hk
    obtain ⟨k, rfl⟩ : ∃ j, k = j + 1 := ⟨k - 1, by omega⟩
    rw [spec_l1Wide.l0, str_size, if_neg (by omega), show w.toNat - l.length = 0 by omega]
    rfl
  | succ d ih =>
    intro k w l hw hl hd hk
    obtain ⟨k, rfl⟩ : ∃ j, k = j + 1 := ⟨k - 1, by omega⟩
    rw [spec_l1Wide.l0, str_size]
    by_cases h : (l.length : Int) < w
    · rw [if_pos h, if_pos (by omega), show (⟨#[48]⟩ : ByteArray) = str [48] from rfl, str_append]
      by_cases h2 : l.length + 1 ≤ 100
      · rw [ih k w ([48] ++ l) hw (by simp; omega) (by simp; omega) (by omega)]
        congr 2
        rw [List.length_append, List.length_singleton, ← List.append_assoc]
        congr 1
        rw [show w.toNat - l.length = (w.toNat - (1 + l.length)) + 1 by omega]
        unfold zerosL
        rw [List.replicate_succ']
      · exfalso; omega
    · rw [if_neg h, show w.toNat - l.length = 0 by omega]
      rfl
theorem specWide {n w : Int} (h0 : 0 ≤ n) (h1 : n ≤ 9223372036854775807) (w0 : 0 ≤ w) (w1 : w ≤ 90) (k : Nat) (hk : 120 ≤ k) : spec_l1Wide.f k n w = some (str (padL n.toNat w.toNat)) := by
  unfold spec_l1Wide.f
  have hl := itoa_len (n := n) (by omega) h1
  rw [l1Dec_eq (by omega) h1 k (by omega)]
  simp only [bS]
  rw [itoa_nonneg h0] at hl ⊢
  rw [specWide_l0 100 k w _ (by omega) (by omega) (by omega) (by omega)]
  rfl
theorem textB_len {l : List Int} (hd : Dig l) (k : Nat) : (textB (l.drop k)).length ≤ 4 * l.length + 1 := by
  unfold textB
  split
  · simp
  · have h := textL_len (l.drop k) (fun x hx => hd x (List.mem_of_mem_drop hx))
    rw [List.length_drop] at h
    omega
theorem dig_getD {l : List Int} (hd : Dig l) (i : Nat) : 0 ≤ l.getD i 0 ∧ l.getD i 0 ≤ 9999 := by
  by_cases h : i < l.length
  · rw [getD_lt h]; exact hd _ (List.getElem_mem h)
  · rw [getD_ge (by omega)]; omega
theorem figs_l0 {l : List Int} (hd : Dig l) (hl : l.length ≤ 16) : ∀ (m k : Nat), m < l.length → m + 130 ≤ k → spec_l1Figures.l0 k l (str (textB (l.drop m))) ((m : Int) - 1) = some (str (textB l)) := by
  intro m
  induction m with
  | zero =>
    intro k hm hk
    obtain ⟨k, rfl⟩ : ∃ j, k = j + 1 := ⟨k - 1, by omega⟩
    rw [spec_l1Figures.l0, if_neg (by omega), List.drop_zero]
  | succ m ih =>
    intro k hm hk
    obtain ⟨k, rfl⟩ : ∃ j, k = j + 1 := ⟨k - 1, by omega⟩
    have e : ((m + 1 : Nat) : Int) - 1 = (m : Int) := by omega
    have hb := dig_getD hd m
    have hp := pad4_len hb.1 hb.2
    have ht := textB_len hd (m + 1)
    rw [e, spec_l1Figures.l0, if_pos (by omega), if_pos (by omega), if_pos (by omega), rdN, specWide hb.1 (by omega) (by omega) (by omega) k (by omega), show (4 : Int).toNat = 4 from rfl]
    simp only [bS]
    rw [show padL (l.getD m 0).toNat 4 = pad4 (l.getD m 0) from rfl, str_size, str_size, if_pos (by omega), str_append, Str.w64 (by omega) (by omega)]
    have hs := textB_step l (k := m) (by omega)
    rw [if_pos (by omega)] at hs
    rw [← hs]
    exact ih k (by omega) (by omega)
theorem figs {l : List Int} (hd : Dig l) (hl : l.length ≤ 16) (k : Nat) (hk : 200 ≤ k) : spec_l1Figures.f k l = some (str (textL l)) := by
  unfold spec_l1Figures.f
  by_cases h0 : l = []
  · subst h0; rfl
  · have hpos : 0 < l.length := List.length_pos_iff.2 h0
    have hb := dig_getD hd (l.length - 1)
    rw [if_neg (by omega), Str.w64 (by omega) (by omega), if_pos (by omega), if_pos (by omega), show ((l.length : Int) - 1) = ((l.length - 1 : Nat) : Int) by omega, rdN, l1Dec_eq (by omega) (by omega) k (by omega)]
    simp only [bS]
    have hs := textB_step l (k := l.length - 1) (by omega)
    rw [if_neg (by omega), show l.length - 1 + 1 = l.length by omega, List.drop_length, show textB [] = [] from rfl, List.nil_append] at hs
    rw [itoa_nonneg hb.1, ← hs, Str.w64 (by omega) (by omega), show ((l.length : Int) - 2) = ((l.length - 1 : Nat) : Int) - 1 by omega, figs_l0 hd hl (l.length - 1) k (by omega) (by omega)]
    unfold textB
    rw [if_neg h0]
theorem textS {l : List Int} (hd : Dig l) (hl : l.length ≤ 16) : impl_limbs_text.f l = some (str (textL l)) := by
  unfold impl_limbs_text.f
  rw [if_pos ⟨hd, by omega⟩]; rfl
def bigT (n : Bool) (l : List Int) : List UInt8 := if n = true then 45 :: textL l else textL l
theorem textL_16 {l : List Int} (hd : Dig l) (hl : l.length ≤ 16) : (textL l).length ≤ 65 := by have := textL_len l hd; omega
def digN (l : List Int) : Int := if (l.length : Int) = 0 then 0 else ((textL l).length : Int)
def decB (n : Bool) (l : List Int) (s : Int) : Bool := okB n l && (decide (digN l ≤ 30) && decide (0 ≤ s ∧ s ≤ 12))
theorem inB (a b c : Int) : impl_in.f a b c = some (decide (b ≤ a ∧ a ≤ c)) := by
  unfold impl_in.f
  by_cases h : a ≥ b
  · rw [if_pos h]; congr 1; exact decide_eq_decide.2 ⟨fun x => ⟨h, x⟩, fun x => x.2⟩
  · rw [if_neg h, decide_eq_false (fun x => h x.1)]
theorem l1InB (a b c : Int) : spec_l1In.f a b c = some (decide (b ≤ a ∧ a ≤ c)) := by
  unfold spec_l1In.f
  by_cases h : a ≥ b
  · rw [if_pos h]; congr 1; exact decide_eq_decide.2 ⟨fun x => ⟨h, x⟩, fun x => x.2⟩
  · rw [if_neg h, decide_eq_false (fun x => h x.1)]
theorem implDecOk (n : Bool) (l : List Int) (s : Int) : impl_DecOk.f n l s = some (decB n l s) := by
  unfold impl_DecOk.f decB
  rw [bigOk_f]; simp only [bS]
  by_cases h : okB n l = true
  · obtain ⟨hl, hd, hz, hn⟩ := (okB_iff n l).1 h
    have e : impl_limbs_digits.f l = some (digN l) := by
      unfold impl_limbs_digits.f digN
      split
      · rfl
      · rw [textS hd hl]; simp only [bS]; rw [str_size]
    rw [if_pos h, h, e, Bool.true_and]; simp only [bS]
    by_cases h2 : digN l ≤ 30
    · rw [if_pos h2, inB, decide_eq_true h2, Bool.true_and]; simp only [bS]
    · rw [if_neg h2, decide_eq_false h2, Bool.false_and]
  · rw [if_neg h, Bool.eq_false_iff.2 h, Bool.false_and]
theorem specL2Ok (n : Bool) (l : List Int) (s : Int) (k : Nat) (hk : 200 ≤ k) : spec_l2Ok.f k n l s = some (decB n l s) := by
  unfold spec_l2Ok.f decB
  rw [l1Ok_ge n l k (by omega)]; simp only [bS]
  by_cases h : okB n l = true
  · obtain ⟨hl, hd, hz, hn⟩ := (okB_iff n l).1 h
    have e : spec_l1Long.f k l = some (digN l) := by
      unfold spec_l1Long.f digN
      split
      · rfl
      · rw [figs hd hl k hk]; simp only [bS]; rw [str_size]
    rw [if_pos h, h, e, Bool.true_and]; simp only [bS]
    by_cases h2 : digN l ≤ 30
    · rw [if_pos h2, l1InB, decide_eq_true h2, Bool.true_and]; simp only [bS]
    · rw [if_neg h2, decide_eq_false h2, Bool.false_and]
  · rw [if_neg h, Bool.eq_false_iff.2 h, Bool.false_and]
def pointed (n : Bool) (s : Int) (x : ByteArray) : Option ByteArray := (if 0 ≤ (wrap64 ((x.size : Int) - s)) then (if (wrap64 ((x.size : Int) - s)) ≤ (x.size : Int) then (if (x.extract 0 ((wrap64 ((x.size : Int) - s)) : Int).toNat).size + 1 ≤ 9223372036854775807 then (if ((x.extract 0 ((wrap64 ((x.size : Int) - s)) : Int).toNat) ++ (⟨#[46]⟩ : ByteArray)).size + (x.extract ((wrap64 ((x.size : Int) - s)) : Int).toNat x.size).size ≤ 9223372036854775807 then (if n = true then (if 1 + (((x.extract 0 ((wrap64 ((x.size : Int) - s)) : Int).toNat) ++ (⟨#[46]⟩ : ByteArray)) ++ (x.extract ((wrap64 ((x.size : Int) - s)) : Int).toNat x.size)).size ≤ 9223372036854775807 then (some ((⟨#[45]⟩ : ByteArray) ++ (((x.extract 0 ((wrap64 ((x.size : Int) - s)) : Int).toNat) ++ (⟨#[46]⟩ : ByteArray)) ++ (x.extract ((wrap64 ((x.size : Int) - s)) : Int).toNat x.size)))) else (none)) else (some (((x.extract 0 ((wrap64 ((x.size : Int) - s)) : Int).toNat) ++ (⟨#[46]⟩ : ByteArray)) ++ (x.extract ((wrap64 ((x.size : Int) - s)) : Int).toNat x.size)))) else (none)) else (none)) else (none)) else (none))
def pointT (n : Bool) (s : Int) (z : List UInt8) : List UInt8 := (if n = true then [45] else []) ++ ((z.take (z.length - s.toNat) ++ [46]) ++ z.drop (z.length - s.toNat))
theorem pointed_eq (n : Bool) {s : Int} {z : List UInt8} (h0 : 0 < s) (h1 : s ≤ z.length) (hz : z.length ≤ 1000) : pointed n s (str z) = some (str (pointT n s z)) := by
  unfold pointed pointT
  have e : ((z.length : Int) - s).toNat = z.length - s.toNat := by omega
  rw [str_size, Str.w64 (by omega) (by omega), if_pos (by omega), if_pos (by omega), e, str_extract, str_extract, show (⟨#[46]⟩ : ByteArray) = str [46] from rfl, str_append, str_append, str_size, str_size, str_size, show (z.drop 0).take (z.length - s.toNat - 0) = z.take (z.length - s.toNat) by simp, show (z.drop (z.length - s.toNat)).take (z.length - (z.length - s.toNat)) = z.drop (z.length - s.toNat) by rw [List.take_of_length_le]; rw [List.length_drop]; omega]
  have la : (z.take (z.length - s.toNat)).length ≤ 1000 := by rw [List.length_take]; omega
  have lb : (z.drop (z.length - s.toNat)).length ≤ 1000 := by rw [List.length_drop]; omega
  rw [if_pos (by omega), if_pos (by rw [List.length_append, List.length_singleton]; omega)]
  cases n
  · rfl
  · rw [if_pos rfl, if_pos rfl, str_size, if_pos (by simp only [List.length_append, List.length_singleton]; omega), show (⟨#[45]⟩ : ByteArray) = str [45] from rfl, str_append]
def decT (n : Bool) (l : List Int) (s : Int) : List UInt8 := if 0 < s then pointT n s (zerosL (s.toNat + 1 - (textL l).length) ++ textL l) else bigT n l
theorem implDecPut (n : Bool) (l : List Int) (s : Int) : impl_DecPut.f n l s = some (str (if decB n l s = true then decT n l s else [])) := by
  unfold impl_DecPut.f
  rw [implDecOk]; simp only [bS]
  by_cases h : decB n l s = true
  · have h' := h
    unfold decB at h'
    simp only [Bool.and_eq_true, decide_eq_true_eq] at h'
    obtain ⟨ho, _, s0, s1⟩ := h'
    obtain ⟨hl, hd, hz, hn⟩ := (okB_iff n l).1 ho
    have h65 := textL_16 hd hl
    rw [if_pos h, if_pos h, textS hd hl]; simp only [bS]
    unfold decT
    by_cases hs : 0 < s
    · rw [if_pos hs, if_pos hs, str_size, Str.w64 (x := s + 1) (by omega) (by omega), Str.w64 (by omega) (by omega)]
      have e : mx 0 (s + 1 - ((textL l).length : Int)) = ((s.toNat + 1 - (textL l).length : Nat) : Int) := by unfold mx; split <;> omega
      rw [e]
      have er : lib_Repeat.f (⟨#[48]⟩ : ByteArray) ((s.toNat + 1 - (textL l).length : Nat) : Int) = some (str (zerosL (s.toNat + 1 - (textL l).length))) := by
        unfold lib_Repeat.f
        rw [if_pos (by rw [show (⟨#[48]⟩ : ByteArray) = str [48] from rfl, str_size, List.length_singleton]; omega), show (⟨#[48]⟩ : ByteArray) = str [48] from rfl, str_data, Int.toNat_natCast, repeat_zeros]
        rfl
      rw [er]; simp only [bS]
      rw [str_size, if_pos (by rw [zerosL_len]; omega), str_append]
      have hz' : (zerosL (s.toNat + 1 - (textL l).length) ++ textL l).length = s.toNat + 1 - (textL l).length + (textL l).length := by rw [List.length_append, zerosL_len]
      exact pointed_eq n hs (by omega) (by omega)
    · rw [if_neg hs, if_neg hs]
      unfold bigT
      cases n
      · rfl
      · rw [if_pos rfl, if_pos rfl, str_size, if_pos (by omega), show (⟨#[45]⟩ : ByteArray) = str [45] from rfl, str_append]; rfl
  · rw [if_neg h, if_neg h]; rfl
end Go.Proofs.YtdbgpoileffbeaaGreatDoor.Str
end
section
namespace Go.Proofs.YtdbgpoileffbeaaGreatDoor.Str
open Go.Lib Go.RowKit Go.Proofs.YtdbgpoileffbeaaGreatDoor.Dec Go.Proofs.YtdbgpoileffbeaaGreatDoor.Jt Go.Proofs.YtdbgpoileffbeaaGreatDoor.Val Go.Proofs.YtdbgpoileffbeaaGreatDoor.Pr Go.Proofs.YtdbgpoileffbeaaGreatDoor.Ext Go.Proofs.YtdbgpoileffbeaaGreatDoorW.PrintWords Go.Proofs.YtdbgpoileffbeaaGreatDoorW.PrintLast Go.Proofs.YtdbgpoileffbeaaGreatDoorW.PrintMore
set_option linter.unusedVariables false
set_option linter.unusedSimpArgs false
theorem parse_digs : ∀ (l : List UInt8) (a : Nat), Digs l → (a + 1) * 10 ^ l.length ≤ 10 ^ 18 → parseUint10 a l = .ok (dvalA a l)
  | [], a, _, _ => by rw [parseUint10, dvalA_nil]
  | b :: r, a, hd, hb => by
    have h0 := hd.head
    unfold IsD at h0
    rw [List.length_cons, Nat.pow_succ] at hb
    have hp : 1 ≤ 10 ^ r.length := Nat.one_le_pow _ _ (by decide)
    have h1 : (a + 1) * 1 ≤ (a + 1) * 10 ^ r.length := Nat.mul_le_mul_left _ hp
    have h2 : (a + 1) * (10 ^ r.length * 10) = ((a + 1) * 10 ^ r.length) * 10 := (Nat.mul_assoc ..).symm
    rw [h2] at hb
    have e18 : 10 ^ 18 = 1000000000000000000 := by decide
    rw [e18] at hb
    have ha : a + 1 ≤ 100000000000000000 := by omega
    simp only [parseUint10]
    rw [if_pos h0, if_neg (by omega), if_neg (by omega), dvalA_cons]
    refine parse_digs r _ hd.tail ?_
    rw [e18]
    have h3 : (a * 10 + (b.toNat - 48) + 1) * 10 ^ r.length ≤ ((a + 1) * 10) * 10 ^ r.length := Nat.mul_le_mul_right _ (by omega)
    have h4 : ((a + 1) * 10) * 10 ^ r.length = ((a + 1) * 10 ^ r.length) * 10 := by rw [Nat.mul_assoc, Nat.mul_comm 10, ← Nat.mul_assoc]
    omega
theorem atoiAll_digs {l : List UInt8} (hd : Digs l) (h0 : l ≠ []) (hl : l.length ≤ 18) : atoiAll l = .ok (dval l : Int) := by
  cases l with
  | nil => exact absurd rfl h0
  | cons b r =>
    have hb := hd.head
    unfold IsD at hb
    have hp := parse_digs (b :: r) 0 hd (by
      have : 10 ^ (b :: r).length ≤ 10 ^ 18 := Nat.pow_le_pow_right (by decide) hl
      omega)
    have hv : dvalA 0 (b :: r) < 9223372036854775808 := by
      have h1 := dval_lt hd
      have h2 : 10 ^ (b :: r).length ≤ 10 ^ 18 := Nat.pow_le_pow_right (by decide) hl
      have e18 : 10 ^ 18 = 1000000000000000000 := by decide
      unfold dval at h1
      omega
    unfold atoiAll
    simp only
    rw [if_neg (by omega)]
    unfold parseMag
    rw [if_neg (by simp), hp]
    simp only
    rw [if_neg (by omega), if_neg (by omega), if_neg (by omega)]
    rfl
theorem getD_get {l : List UInt8} {i : Nat} (h : i < l.length) : l[i]? = some (l.getD i 0) := by
  rw [List.getD_eq_getElem?_getD, List.getElem?_eq_getElem h]; rfl
theorem digs_take {l : List UInt8} {i : Nat} (h : i < l.length) (hd : Digs (l.take i)) (hb : IsD (l.getD i 0)) : Digs (l.take (i + 1)) := by
  rw [List.take_succ_eq_append_getElem h]
  refine hd.append (fun b hb' => ?_)
  rw [List.mem_singleton.1 hb']
  have := getD_get h
  rw [List.getElem?_eq_getElem h] at this
  rw [Option.some.inj this]; exact hb
theorem isDigits_l0 (l : List UInt8) (hl : l.length ≤ 4000000000) : ∀ (d k i : Nat), i + d = l.length → d < k → Digs (l.take i) → impl_isDigits.l0 k (str l) (l.length : Int) (i : Int) = some (decide (Digs l ∧ l ≠ [])) := by
  intro d
  induction d with
  | zero =>
    intro k i hi hk hD
    obtain ⟨k, rfl⟩ : ∃ j, k = j + 1 := ⟨k - 1, by omega⟩
    have e : i = l.length := by omega
    rw [impl_isDigits.l0, if_neg (by omega), str_toList]
    rw [e, List.take_length] at hD
    congr 1
    by_cases h : l = []
    · subst h; rfl
    · rw [decide_eq_true ⟨hD, h⟩, bne_iff_ne.2 h]
  | succ d ih =>
    intro k i hi hk hD
    obtain ⟨k, rfl⟩ : ∃ j, k = j + 1 := ⟨k - 1, by omega⟩
    have bad : ¬ IsD (l.getD i 0) → decide (Digs l ∧ l ≠ []) = false := fun h => decide_eq_false (fun hn => h (hn.1.get (getD_get (by omega))))
    rw [impl_isDigits.l0, if_pos (by omega), if_pos (by omega), str_size, if_pos (by omega), str_btD l (by omega) (by omega), Int.toNat_natCast]
    by_cases h1 : ((l.getD i 0).toNat : Int) < 48
    · rw [if_pos h1, bad (by unfold IsD; omega)]
    · rw [if_neg h1]
      by_cases h2 : ((l.getD i 0).toNat : Int) > 57
      · rw [if_pos h2, bad (by unfold IsD; omega)]
      · rw [if_neg h2, Str.w64 (by omega) (by omega), show ((i : Int) + 1) = ((i + 1 : Nat) : Int) by omega]
        exact ih k (i + 1) (by omega) (by omega) (digs_take (by omega) hD (by unfold IsD; omega))
theorem isDigits_eq (l : List UInt8) (hl : l.length ≤ 4000000000) (k : Nat) (hk : l.length + 1 ≤ k) : impl_isDigits.f k (str l) = some (decide (Digs l ∧ l ≠ [])) := by
  unfold impl_isDigits.f
  rw [str_size]
  exact isDigits_l0 l hl l.length k 0 (by omega) (by omega) (by rw [List.take_zero]; exact Digs.nil)
theorem isFigures_l0 (l : List UInt8) (hl : l.length ≤ 4000000000) : ∀ (d k i : Nat), i + d = l.length → d < k → Digs (l.take i) → spec_l1IsFigures.l0 k (str l) (i : Int) = some (decide (Digs l ∧ Canon l)) := by
  intro d
  induction d with
  | zero =>
    intro k i hi hk hD
    obtain ⟨k, rfl⟩ : ∃ j, k = j + 1 := ⟨k - 1, by omega⟩
    have e : i = l.length := by omega
    rw [spec_l1IsFigures.l0, str_size, if_neg (by omega)]
    rw [e, List.take_length] at hD
    by_cases h1 : (l.length : Int) = 1
    · rw [if_pos h1, decide_eq_true ⟨hD, .inl (by omega)⟩]
    · rw [if_neg h1]
      by_cases h2 : (l.length : Int) > 1
      · rw [if_pos h2, if_pos (by omega)]
        cases l with
        | nil => simp at h2
        | cons b r =>
          rw [str_btD _ (by omega) (by omega)]
          congr 1
          have hb := UInt8.toNat_lt b
          by_cases h3 : b = 48
          · rw [decide_eq_false (by rintro ⟨_, c | ⟨_, c⟩⟩; · omega
                                    · exact c (by rw [h3]; rfl))]
            subst h3; rfl
          · rw [decide_eq_true ⟨hD, .inr ⟨by omega, fun e => h3 (Option.some.inj e)⟩⟩, bne_iff_ne.2 (fun e => h3 (UInt8.toNat_inj.1 (show b.toNat = (48 : UInt8).toNat by have : (48 : UInt8).toNat = 48 := rfl; have e' : ((b.toNat : Nat) : Int) = 48 := e; omega)))]
      · rw [if_neg h2, decide_eq_false (by rintro ⟨_, c | ⟨c, _⟩⟩ <;> omega)]
  | succ d ih =>
    intro k i hi hk hD
    obtain ⟨k, rfl⟩ : ∃ j, k = j + 1 := ⟨k - 1, by omega⟩
    have bad : ¬ IsD (l.getD i 0) → decide (Digs l ∧ Canon l) = false := fun h => decide_eq_false (fun hn => h (hn.1.get (getD_get (by omega))))
    rw [spec_l1IsFigures.l0, str_size, if_pos (by omega), if_pos (by omega), str_btD l (by omega) (by omega), Int.toNat_natCast]
    by_cases h1 : ((l.getD i 0).toNat : Int) < 48
    · rw [if_pos h1, bad (by unfold IsD; omega)]
    · rw [if_neg h1]
      by_cases h2 : ((l.getD i 0).toNat : Int) > 57
      · rw [if_pos h2, bad (by unfold IsD; omega)]
      · rw [if_neg h2, Str.w64 (by omega) (by omega), show ((i : Int) + 1) = ((i + 1 : Nat) : Int) by omega]
        exact ih k (i + 1) (by omega) (by omega) (digs_take (by omega) hD (by unfold IsD; omega))
theorem isFigures_eq (l : List UInt8) (hl : l.length ≤ 4000000000) (k : Nat) (hk : l.length + 1 ≤ k) : spec_l1IsFigures.f k (str l) = some (decide (Digs l ∧ Canon l)) := by
  unfold spec_l1IsFigures.f
  exact isFigures_l0 l hl l.length k 0 (by omega) (by omega) (by rw [List.take_zero]; exact Digs.nil)
theorem readL_split {s : List UInt8} {m : Nat} (h0 : 0 < m) (hm : m ≤ s.length) : readL (s.take m) = (dval ((s.take m).drop (m - 4)) : Int) :: readL (s.take (m - 4)) := by
  have hne : s.take m ≠ [] := by intro e; have := congrArg List.length e; rw [List.length_take, List.length_nil] at this; omega
  rw [readL_cons hne]
  have hl : (s.take m).length = m := by rw [List.length_take]; omega
  unfold cutL restL
  rw [hl, List.take_take, Nat.min_eq_left (by omega)]
theorem readLimbs_l0 {s : List UInt8} (hs : Digs s) (hl : s.length ≤ 64) : ∀ (d k m : Nat) (acc : List Int), m ≤ s.length → m ≤ d → 2 * d + acc.length + 200 ≤ k → acc.length + d ≤ 150 → impl_readLimbs.l0 k (str s) acc (m : Int) = some (trimL (acc ++ readL (s.take m))) := by
  intro d
  induction d with
  | zero =>
    intro k m acc hm hd hk ha
    obtain rfl : m = 0 := by omega
    obtain ⟨k, rfl⟩ : ∃ j, k = j + 1 := ⟨k - 1, by omega⟩
    rw [impl_readLimbs.l0, if_neg (by omega), List.take_zero, readL_nil, List.append_nil, iTrim_ge acc (by omega) k (by omega)]
    rfl
  | succ d ih =>
    intro k m acc hm hd hk ha
    by_cases h0 : m = 0
    · subst h0
      obtain ⟨k, rfl⟩ : ∃ j, k = j + 1 := ⟨k - 1, by omega⟩
      rw [impl_readLimbs.l0, if_neg (by omega), List.take_zero, readL_nil, List.append_nil, iTrim_ge acc (by omega) k (by omega)]
      rfl
    · obtain ⟨k, rfl⟩ : ∃ j, k = j + 1 := ⟨k - 1, by omega⟩
      have e : mx 0 ((m : Int) - 4) = ((m - 4 : Nat) : Int) := by unfold mx; split <;> omega
      rw [impl_readLimbs.l0, if_pos (by omega), Str.w64 (by omega) (by omega), e, if_pos (by omega), if_pos (by omega), str_size, if_pos (by omega), str_extract, Int.toNat_natCast, Int.toNat_natCast]
      have ec : (s.drop (m - 4)).take (m - (m - 4)) = (s.take m).drop (m - 4) := by rw [List.drop_take]
      have hD : Digs ((s.take m).drop (m - 4)) := (hs.take _).drop _
      have hcl : ((s.take m).drop (m - 4)).length = m - (m - 4) := by rw [List.length_drop, List.length_take]; omega
      have ha2 : lib_Atoi.f (str ((s.take m).drop (m - 4))) = some ((dval ((s.take m).drop (m - 4)) : Int), true) := by
        unfold lib_Atoi.f atoiV
        rw [if_pos (by rw [str_size]; omega), str_data, atoiAll_digs hD (by intro e; rw [e] at hcl; simp at hcl; omega) (by omega)]
      rw [ec, ha2]; simp only [Str.bS]
      rw [if_pos (by omega)]
      by_cases h4 : 4 ≤ m
      · rw [show ((m : Int) - 4) = ((m - 4 : Nat) : Int) by omega, ih k (m - 4) _ (by omega) (by omega) (by simp; omega) (by simp; omega), readL_split (by omega) hm, List.append_assoc]
        rfl
      · obtain ⟨k, rfl⟩ : ∃ j, k = j + 1 := ⟨k - 1, by omega⟩
        rw [impl_readLimbs.l0, if_neg (by omega), iTrim_ge _ (by simp; omega) k (by simp; omega), readL_split (by omega) hm, show m - 4 = 0 by omega, List.take_zero, readL_nil]
        rfl
theorem readLimbs_eq {s : List UInt8} (hs : Digs s) (hl : s.length ≤ 64) (k : Nat) (hk : 400 ≤ k) : impl_readLimbs.f k (str s) = some (rep (dval s : Int)) := by
  unfold impl_readLimbs.f
  rw [str_size, readLimbs_l0 hs hl s.length k s.length [] (Nat.le_refl _) (Nat.le_refl _) (by simp; omega) (by simp; omega), List.nil_append, List.take_length]
  obtain ⟨d1, d2, _⟩ := readL_ok s.length s (Nat.le_refl _) hs
  rw [trimL_rep d1, d2]
theorem fromF_l1 {s : List UInt8} (hD : Digs s) (hl : s.length ≤ 64) (acc : List Int) (ha : acc.length ≤ 200) (x4 : Nat) (h4 : x4 ≤ s.length) (h5 : s.length ≤ x4 + 4) : ∀ (d k i : Nat), i + d = s.length → x4 ≤ i →
    spec_l1FromFigures.l1 (k + d + 1) (str s) acc (x4 : Int) (dval ((s.take i).drop x4) : Int) (i : Int) = spec_l1FromFigures.l0 k (str (s.take x4)) (acc ++ [(dval (s.drop x4) : Int)]) := by
  intro d
  induction d with
  | zero =>
    intro k i hi hx
    have e : i = s.length := by omega
    rw [spec_l1FromFigures.l1, str_size, if_neg (by omega), if_pos (by omega), if_pos (by omega), if_pos (by omega), str_extract, Int.toNat_natCast, List.drop_zero, Nat.sub_zero, e, List.take_length]
  | succ d ih =>
    intro k i hi hx
    have hb : IsD (s.getD i 0) := hD.get (getD_get (by omega))
    have hbb := hb
    unfold IsD at hb
    have hDi : Digs ((s.take i).drop x4) := (hD.take _).drop _
    have hv := dval_lt hDi
    have hlen : ((s.take i).drop x4).length = i - x4 := by rw [List.length_drop, List.length_take]; omega
    rw [hlen] at hv
    have h10 : 10 ^ (i - x4) ≤ 10 ^ 4 := Nat.pow_le_pow_right (by decide) (by omega)
    have e4 : 10 ^ 4 = 10000 := by decide
    rw [show k + (d + 1) + 1 = (k + d + 1) + 1 by omega, spec_l1FromFigures.l1, str_size, if_pos (by omega), if_pos (by omega), str_btD s (by omega) (by omega), Int.toNat_natCast, Str.w64 (x := (dval ((s.take i).drop x4) : Int) * 10) (by omega) (by omega), Str.w64 (x := (i : Int) + 1) (by omega) (by omega), Str.w64 (by omega) (by omega)]
    have e : ((dval ((s.take i).drop x4) : Int) * 10 + (((s.getD i 0).toNat : Int) - 48) % 256) = (dval ((s.take (i + 1)).drop x4) : Int) := by
      have et : (s.take (i + 1)).drop x4 = (s.take i).drop x4 ++ [s.getD i 0] := by
        have hi' : i < s.length := by omega
        rw [List.take_succ_eq_append_getElem hi', List.drop_append_of_le_length (by rw [List.length_take]; omega)]
        congr 2
        have := getD_get hi'
        rw [List.getElem?_eq_getElem hi'] at this
        exact Option.some.inj this
      rw [et, dval_snoc]
      omega
    rw [e, show ((i : Int) + 1) = ((i + 1 : Nat) : Int) from by omega]
    exact ih k (i + 1) (by omega) (by omega)
theorem fromF_l0 : ∀ (n : Nat) (s : List UInt8) (acc : List Int) (k : Nat), s.length ≤ n → Digs s → s.length ≤ 64 → acc.length + s.length ≤ 150 → 8 * s.length + 200 ≤ k → spec_l1FromFigures.l0 k (str s) acc = some (trimL (acc ++ readL s)) := by
  intro n
  induction n with
  | zero =>
    intro s acc k hn hD hl ha hk
    obtain rfl : s = [] := List.eq_nil_of_length_eq_zero (by omega)
    obtain ⟨k, rfl⟩ : ∃ j, k = j + 1 := ⟨k - 1, by omega⟩
    rw [spec_l1FromFigures.l0, str_size, if_neg (by simp), readL_nil, List.append_nil, sTrim_ge acc (by omega) k (by omega)]
    rfl
  | succ n ih =>
    intro s acc k hn hD hl ha hk
    by_cases h0 : s = []
    · subst h0
      obtain ⟨k, rfl⟩ : ∃ j, k = j + 1 := ⟨k - 1, by omega⟩
      rw [spec_l1FromFigures.l0, str_size, if_neg (by simp), readL_nil, List.append_nil, sTrim_ge acc (by omega) k (by omega)]
      rfl
    · have hpos : 0 < s.length := List.length_pos_iff.2 h0
      obtain ⟨k, rfl⟩ : ∃ j, k = j + 2 := ⟨k - 2, by omega⟩
      have hj : spec_l1FromFigures.l0 (k + 2) (str s) acc = spec_l1FromFigures.l1 k (str s) acc ((s.length - 4 : Nat) : Int) 0 ((s.length - 4 : Nat) : Int) := by
        rw [spec_l1FromFigures.l0, str_size, if_pos (by omega), Str.w64 (by omega) (by omega)]
        by_cases h4 : (s.length : Int) - 4 < 0
        · rw [if_pos h4, spec_l1FromFigures.j1, show ((s.length - 4 : Nat) : Int) = 0 by omega]
        · rw [if_neg h4, spec_l1FromFigures.j1, show ((s.length - 4 : Nat) : Int) = (s.length : Int) - 4 by omega]
      have h1 := fromF_l1 hD hl acc (by omega) (s.length - 4) (by omega) (by omega) (s.length - (s.length - 4)) (k - (s.length - (s.length - 4)) - 1) (s.length - 4) (by omega) (Nat.le_refl _)
      rw [List.drop_take, Nat.sub_self, List.take_zero, dval_nil, show k - (s.length - (s.length - 4)) - 1 + (s.length - (s.length - 4)) + 1 = k by omega] at h1
      rw [hj]
      refine Eq.trans h1 ?_
      have hl4 : (s.take (s.length - 4)).length = s.length - 4 := by rw [List.length_take]; omega
      rw [ih (s.take (s.length - 4)) _ _ (by omega) (hD.take _) (by omega) (by simp; omega) (by omega), readL_cons h0, List.append_assoc]
      rfl
theorem fromF_eq {s : List UInt8} (hs : Digs s) (hl : s.length ≤ 64) (k : Nat) (hk : 800 ≤ k) : spec_l1FromFigures.f k (str s) = some (rep (dval s : Int)) := by
  unfold spec_l1FromFigures.f
  rw [fromF_l0 s.length s [] k (Nat.le_refl _) hs hl (by simp; omega) (by omega), List.nil_append]
  obtain ⟨d1, d2, _⟩ := readL_ok s.length s (Nat.le_refl _) hs
  rw [trimL_rep d1, d2]
theorem textL_of {n : Bool} {l : List Int} (h : BOk n l) : textL l = decDigits (val l).toNat := textL_eq l h.2.1 h.2.2.1
theorem val_of_ok {n : Bool} {l : List Int} (h : BOk n l) : 0 ≤ val l ∧ val l < pw 16 := ⟨val_nonneg h.2.1, Int.lt_of_lt_of_le (val_lt h.2.1) (pw_mono h.1)⟩
theorem sign_parts (s : List UInt8) : ∃ (g : Bool) (d : List UInt8), s = (if g = true then 45 :: d else d) ∧ (g = false → d.head? ≠ some 45) ∧ trimPrefix s [45] = d ∧ hasPrefix s [45] = g := by
  cases s with
  | nil => exact ⟨false, [], rfl, fun _ => by simp, rfl, rfl⟩
  | cons b r =>
    by_cases h : b = 45
    · subst h
      exact ⟨true, r, rfl, (fun h => absurd h (by decide)), (by unfold trimPrefix hasPrefix; simp), (by unfold hasPrefix; simp)⟩
    · have hp : hasPrefix (b :: r) [45] = false := by
        unfold hasPrefix
        rw [List.isPrefixOf_cons_cons, beq_eq_false_iff_ne.2 (fun e => h e.symm), Bool.false_and]
      exact ⟨false, b :: r, rfl, fun _ e => h (Option.some.inj e), by unfold trimPrefix; rw [hp]; rfl, hp⟩
theorem bigv_rep (g : Bool) {v : Int} (h : 0 ≤ v) : bigv g (rep v) = if g = true then -v else v := by unfold bigv; rw [rep_val h]
theorem bigR_yes {x : Int} (h1 : -pw 16 < x) (h2 : x < pw 16) : bigR x = (mkN x, mkL x, true) := by unfold bigR; rw [if_pos ⟨h1, h2⟩]
end Go.Proofs.YtdbgpoileffbeaaGreatDoor.Str
end
section
namespace Go.Proofs.YtdbgpoileffbeaaGreatDoor.Str
open Go.Lib Go.RowKit Go.Proofs.YtdbgpoileffbeaaGreatDoor.Dec Go.Proofs.YtdbgpoileffbeaaGreatDoor.Jt Go.Proofs.YtdbgpoileffbeaaGreatDoor.Val Go.Proofs.YtdbgpoileffbeaaGreatDoor.Pr Go.Proofs.YtdbgpoileffbeaaGreatDoor.Ext Go.Proofs.YtdbgpoileffbeaaGreatDoorW.PrintWords Go.Proofs.YtdbgpoileffbeaaGreatDoorW.PrintLast Go.Proofs.YtdbgpoileffbeaaGreatDoorW.PrintMore
set_option linter.unusedVariables false
set_option linter.unusedSimpArgs false
theorem occ_one (l : List UInt8) (c : UInt8) (i : Nat) : occAt l [c] i = true ↔ l[i]? = some c := by
  unfold occAt
  rw [List.isPrefixOf_iff_prefix]
  constructor
  · rintro ⟨t, ht⟩
    have : (l.drop i)[0]? = some c := by rw [← ht]; rfl
    rwa [List.getElem?_drop, Nat.add_zero] at this
  · intro h
    obtain ⟨hi, he⟩ := List.getElem?_eq_some_iff.1 h
    rw [List.drop_eq_getElem_cons hi, he]
    exact ⟨_, rfl⟩
theorem cut_at {a r : List UInt8} {c : UInt8} (h : c ∉ a) : Lib.cut (a ++ c :: r) [c] = (a, r, true) := by
  have hi : index (a ++ c :: r) [c] = (a.length : Nat) := by
    refine index_hit (fun j hj => ?_) (by simp) ?_
    · apply Bool.eq_false_iff.2
      intro ho
      rw [occ_one, List.getElem?_append_left hj] at ho
      exact h (List.mem_of_getElem? ho)
    · rw [occ_one, List.getElem?_append_right (Nat.le_refl _), Nat.sub_self]; rfl
  unfold Lib.cut
  rw [hi, if_pos (by omega)]
  simp
theorem cut_lens (l c : List UInt8) : (Lib.cut l c).1.length ≤ l.length ∧ (Lib.cut l c).2.1.length ≤ l.length := by
  unfold Lib.cut
  split
  · simp only [List.length_take, List.length_drop]; omega
  · simp
theorem cut_none {a : List UInt8} {c : UInt8} (h : c ∉ a) : Lib.cut a [c] = (a, [], false) := by
  have hi : index a [c] = -1 := by
    refine index_none (fun j hj => ?_)
    apply Bool.eq_false_iff.2
    intro ho
    rw [occ_one] at ho
    exact h (List.mem_of_getElem? ho)
  unfold Lib.cut
  rw [hi, if_neg (by decide)]
theorem decB_ok {n : Bool} {l : List Int} {s : Int} (h : decB n l s = true) : BOk n l ∧ 0 ≤ s ∧ s ≤ 12 ∧ (textL l).length ≤ 30 := by
  unfold decB at h
  simp only [Bool.and_eq_true, decide_eq_true_eq] at h
  obtain ⟨ho, hd, s0, s1⟩ := h
  refine ⟨(okB_iff n l).1 ho, s0, s1, ?_⟩
  unfold digN at hd
  by_cases h0 : (l.length : Int) = 0
  · obtain rfl : l = [] := List.eq_nil_of_length_eq_zero (by omega)
    decide
  · rw [if_neg h0] at hd; omega
theorem decT_parts {n : Bool} {l : List Int} {s : Int} (h : decB n l s = true) : ∃ w f : List UInt8, decT n l s = (if n = true then 45 :: (w ++ (if 0 < s then 46 :: f else [])) else (w ++ (if 0 < s then 46 :: f else []))) ∧ Digs w ∧ w ≠ [] ∧ Digs f ∧ (f.length : Int) = s ∧ w.length + f.length ≤ 40 ∧ dval (w ++ f) = (val l).toNat := by
  obtain ⟨ho, s0, s1, ht⟩ := decB_ok h
  have hv : dval (textL l) = (val l).toNat := by rw [textL_of ho, decDigits_dval]
  have hp : 0 < (textL l).length := List.length_pos_iff.2 (textL_ne l)
  unfold decT
  by_cases hs : 0 < s
  · have hzl : (zerosL (s.toNat + 1 - (textL l).length) ++ textL l).length = s.toNat + 1 - (textL l).length + (textL l).length := by rw [List.length_append, zerosL_len]
    have hzD : Digs (zerosL (s.toNat + 1 - (textL l).length) ++ textL l) := (zerosL_digs _).append (textL_digs l)
    have hzv : dval (zerosL (s.toNat + 1 - (textL l).length) ++ textL l) = (val l).toNat := by rw [dval_append, zerosL_dval, hv]; omega
    generalize zerosL (s.toNat + 1 - (textL l).length) ++ textL l = z at *
    refine ⟨z.take (z.length - s.toNat), z.drop (z.length - s.toNat), ?_, hzD.take _, ?_, hzD.drop _, ?_, ?_, ?_⟩
    · rw [if_pos hs]
      unfold pointT
      cases n <;> simp [hs]
    · intro e
      have := congrArg List.length e
      rw [List.length_take, List.length_nil] at this
      omega
    · rw [List.length_drop]; omega
    · rw [List.length_drop, List.length_take]; omega
    · rw [List.take_append_drop]; exact hzv
  · refine ⟨textL l, [], ?_, textL_digs l, textL_ne l, Digs.nil, by simp; omega, by simp; omega, by rw [List.append_nil]; exact hv⟩
    rw [if_neg hs, if_neg hs, List.append_nil]
    unfold bigT
    rfl
theorem digs_no46 {l : List UInt8} (h : Digs l) : (46 : UInt8) ∉ l := fun hm => absurd (h 46 hm) (by decide)
theorem implDecGet_put {n : Bool} {l : List Int} {s : Int} (h : decB n l s = true) (k : Nat) (hk : 2100 ≤ k) : impl_DecGet.f k (str (decT n l s)) = some (n, l, s, true) := by
  obtain ⟨ho, s0, s1, ht⟩ := decB_ok h
  obtain ⟨w, f, e, hw, hw0, hf, hfl, hlen, hv⟩ := decT_parts h
  obtain ⟨v0, v1⟩ := val_of_ok ho
  obtain ⟨k, rfl⟩ : ∃ j, k = j + 1 := ⟨k - 1, by omega⟩
  have hD : Digs (w ++ f) := hw.append hf
  have hne : w ++ f ≠ [] := fun e => hw0 (List.append_eq_nil_iff.1 e).1
  have hhead : (w ++ (if 0 < s then 46 :: f else [])).head? ≠ some 45 := by
    cases w with
    | nil => exact absurd rfl hw0
    | cons b r =>
      intro e
      have : b = 45 := Option.some.inj e
      subst this
      exact absurd hw.head (by decide)
  have hcut : lib_CutPrefix.f (str (decT n l s)) (⟨#[45]⟩ : ByteArray) = some (str (w ++ (if 0 < s then 46 :: f else [])), n) := by
    obtain ⟨g, d, es, hg, tp, hp⟩ := sign_parts (decT n l s)
    have hgd : g = n ∧ d = w ++ (if 0 < s then 46 :: f else []) := by
      rw [e] at es
      clear tp hp e
      generalize (w ++ (if 0 < s then 46 :: f else [])) = tl at es hhead ⊢
      cases g <;> cases n
      · exact ⟨rfl, by simpa using es.symm⟩
      · rw [if_pos rfl, if_neg (by decide)] at es
        exact absurd (by rw [← es]; rfl) (hg rfl)
      · rw [if_neg (by decide), if_pos rfl] at es
        exact absurd (by rw [es]; rfl) hhead
      · rw [if_pos rfl, if_pos rfl] at es
        exact ⟨rfl, (List.cons.inj es).2.symm⟩
    unfold lib_CutPrefix.f
    rw [show (⟨#[45]⟩ : ByteArray) = str [45] from rfl, str_data, str_data, tp, hp, hgd.1, hgd.2]
    rfl
  have hcut2 : ∃ b, lib_Cut.f (str (w ++ (if 0 < s then 46 :: f else []))) (⟨#[46]⟩ : ByteArray) = some (str w, str f, b) := by
    unfold lib_Cut.f
    rw [show (⟨#[46]⟩ : ByteArray) = str [46] from rfl, str_data, str_data]
    by_cases hs : 0 < s
    · rw [if_pos hs, if_pos (by rw [str_size, List.length_append, List.length_cons]; omega), cut_at (digs_no46 hw)]
      exact ⟨_, rfl⟩
    · have hf0 : f = [] := List.eq_nil_of_length_eq_zero (by omega)
      rw [if_neg hs, List.append_nil, if_pos (by rw [str_size]; omega), cut_none (digs_no46 hw), hf0]
      exact ⟨_, rfl⟩
  obtain ⟨b, hc2⟩ := hcut2
  have hx : bigv n (rep (dval (w ++ f) : Int)) = bigv n l := by
    rw [bigv_rep n (by omega), hv, Int.toNat_of_nonneg v0]; rfl
  unfold impl_DecGet.f
  rw [hcut]; simp only [Str.bS]
  rw [hc2]; simp only [Str.bS]
  rw [str_size, str_size, if_pos (by omega), str_append, isDigits_eq _ (by rw [List.length_append]; omega) _ (by rw [List.length_append]; omega), decide_eq_true ⟨hD, hne⟩]; simp only [Str.bS]
  rw [if_pos trivial, impl_DecGet.j0, str_size, if_neg (by rw [List.length_append]; simp; omega), readLimbs_eq hD (by rw [List.length_append]; omega) k (by omega)]; simp only [Str.bS]
  have hr := bigR_ok ho
  rw [big_ge (rep_dig _) (by have := rep_len_le (v := (dval (w ++ f) : Int)) (n := 16) (by omega) (by omega); omega) n k (by omega), hx, hr]; simp only [Str.bS]
  rw [if_pos trivial, str_size, hfl, implDecOk, h]; simp only [Str.bS]
  rw [if_pos trivial, implDecPut, if_pos h]; simp only [Str.bS]
  rw [if_pos trivial]
end Go.Proofs.YtdbgpoileffbeaaGreatDoor.Str
end
section
namespace Go.Proofs.YtdbgpoileffbeaaGreatDoor.Str
open Go.Lib Go.RowKit Go.Proofs.YtdbgpoileffbeaaGreatDoor.Dec Go.Proofs.YtdbgpoileffbeaaGreatDoor.Jt Go.Proofs.YtdbgpoileffbeaaGreatDoor.Val Go.Proofs.YtdbgpoileffbeaaGreatDoor.Pr Go.Proofs.YtdbgpoileffbeaaGreatDoor.Ext Go.Proofs.YtdbgpoileffbeaaGreatDoorW.PrintWords Go.Proofs.YtdbgpoileffbeaaGreatDoorW.PrintLast Go.Proofs.YtdbgpoileffbeaaGreatDoorW.PrintMore
set_option linter.unusedVariables false
set_option linter.unusedSimpArgs false
theorem readLimbs120_l0 {s : List UInt8} (hs : Digs s) (hl : s.length ≤ 120) : ∀ (d k m : Nat) (acc : List Int), m ≤ s.length → m ≤ d → 2 * d + acc.length + 200 ≤ k → acc.length + d ≤ 250 → impl_readLimbs.l0 k (str s) acc (m : Int) = some (trimL (acc ++ readL (s.take m))) := by
  intro d
  induction d with
  | zero =>
    intro k m acc hm hd hk ha
    obtain rfl : m = 0 := by omega
    obtain ⟨k, rfl⟩ : ∃ j, k = j + 1 := ⟨k - 1, by omega⟩
    rw [impl_readLimbs.l0, if_neg (by omega), List.take_zero, readL_nil, List.append_nil, iTrim_ge acc (by omega) k (by omega)]
    rfl
  | succ d ih =>
    intro k m acc hm hd hk ha
    by_cases h0 : m = 0
    · subst h0
      obtain ⟨k, rfl⟩ : ∃ j, k = j + 1 := ⟨k - 1, by omega⟩
      rw [impl_readLimbs.l0, if_neg (by omega), List.take_zero, readL_nil, List.append_nil, iTrim_ge acc (by omega) k (by omega)]
      rfl
    · obtain ⟨k, rfl⟩ : ∃ j, k = j + 1 := ⟨k - 1, by omega⟩
      have e : mx 0 ((m : Int) - 4) = ((m - 4 : Nat) : Int) := by unfold mx; split <;> omega
      rw [impl_readLimbs.l0, if_pos (by omega), Str.w64 (by omega) (by omega), e, if_pos (by omega), if_pos (by omega), str_size, if_pos (by omega), str_extract, Int.toNat_natCast, Int.toNat_natCast]
      have ec : (s.drop (m - 4)).take (m - (m - 4)) = (s.take m).drop (m - 4) := by rw [List.drop_take]
      have hD : Digs ((s.take m).drop (m - 4)) := (hs.take _).drop _
      have hcl : ((s.take m).drop (m - 4)).length = m - (m - 4) := by rw [List.length_drop, List.length_take]; omega
      have ha2 : lib_Atoi.f (str ((s.take m).drop (m - 4))) = some ((dval ((s.take m).drop (m - 4)) : Int), true) := by
        unfold lib_Atoi.f atoiV
        rw [if_pos (by rw [str_size]; omega), str_data, atoiAll_digs hD (by intro e; rw [e] at hcl; simp at hcl; omega) (by omega)]
      rw [ec, ha2]; simp only [Str.bS]
      rw [if_pos (by omega)]
      by_cases h4 : 4 ≤ m
      · rw [show ((m : Int) - 4) = ((m - 4 : Nat) : Int) by omega, ih k (m - 4) _ (by omega) (by omega) (by simp; omega) (by simp; omega), readL_split (by omega) hm, List.append_assoc]
        rfl
      · obtain ⟨k, rfl⟩ : ∃ j, k = j + 1 := ⟨k - 1, by omega⟩
        rw [impl_readLimbs.l0, if_neg (by omega), iTrim_ge _ (by simp; omega) k (by simp; omega), readL_split (by omega) hm, show m - 4 = 0 by omega, List.take_zero, readL_nil]
        rfl
theorem readLimbs120 {s : List UInt8} (hs : Digs s) (hl : s.length ≤ 120) (k : Nat) (hk : 600 ≤ k) : impl_readLimbs.f k (str s) = some (rep (dval s : Int)) := by
  unfold impl_readLimbs.f
  rw [str_size, readLimbs120_l0 hs hl s.length k s.length [] (Nat.le_refl _) (Nat.le_refl _) (by simp; omega) (by simp; omega), List.nil_append, List.take_length]
  obtain ⟨d1, d2, _⟩ := readL_ok s.length s (Nat.le_refl _) hs
  rw [trimL_rep d1, d2]
def IsDec (s : List UInt8) (n : Bool) (l : List Int) (c : Int) : Prop := decB n l c = true ∧ s = decT n l c
def ToldDec (s : List UInt8) (r : Bool × List Int × Int × Bool) : Prop := (r.2.2.2 = true ∧ IsDec s r.1 r.2.1 r.2.2.1) ∨ (r = (false, [], 0, false) ∧ ∀ n l c, ¬ IsDec s n l c)
theorem IsDec.uniq {s : List UInt8} {n n' : Bool} {l l' : List Int} {c c' : Int} (h : IsDec s n l c) (h' : IsDec s n' l' c') : n = n' ∧ l = l' ∧ c = c' := by
  have a := implDecGet_put h.1 2100 (Nat.le_refl _)
  have b := implDecGet_put h'.1 2100 (Nat.le_refl _)
  rw [← h.2] at a
  rw [← h'.2, a] at b
  have e := Option.some.inj b
  have e1 := Prod.mk.inj e
  have e2 := Prod.mk.inj e1.2
  exact ⟨e1.1, e2.1, (Prod.mk.inj e2.2).1⟩
theorem ToldDec.uniq {s : List UInt8} {r r' : Bool × List Int × Int × Bool} (h : ToldDec s r) (h' : ToldDec s r') : r = r' := by
  obtain ⟨a, b, x, c⟩ := r
  obtain ⟨a', b', x', c'⟩ := r'
  rcases h with ⟨h1, h2⟩ | ⟨h1, h2⟩ <;> rcases h' with ⟨h1', h2'⟩ | ⟨h1', h2'⟩
  · obtain ⟨e1, e2, e3⟩ := h2.uniq h2'
    simp only at *
    rw [e1, e2, e3, h1, h1']
  · exact absurd h2 (h2' _ _ _)
  · exact absurd h2' (h2 _ _ _)
  · rw [h1, h1']
theorem implDecGet (s : List UInt8) (hs : s.length ≤ 2000000000) : ∃ r, (∀ k, s.length + s.length + 4000 ≤ k → impl_DecGet.f k (str s) = some r) ∧ ToldDec s r := by
  by_cases hy : ∃ n l c, IsDec s n l c
  · obtain ⟨n, l, c, h⟩ := hy
    refine ⟨(n, l, c, true), fun k hk => ?_, .inl ⟨rfl, h⟩⟩
    rw [h.2]
    exact implDecGet_put h.1 k (by omega)
  · have no : ∀ n l c, ¬ IsDec s n l c := fun n l c h => hy ⟨n, l, c, h⟩
    refine ⟨(false, [], 0, false), fun k hk => ?_, .inr ⟨rfl, no⟩⟩
    obtain ⟨k, rfl⟩ : ∃ j, k = j + 1 := ⟨k - 1, by omega⟩
    obtain ⟨g, d, es, hg, tp, hp⟩ := sign_parts s
    have hdl : d.length ≤ s.length := by rw [es]; split <;> simp
    have hcut : lib_CutPrefix.f (str s) (⟨#[45]⟩ : ByteArray) = some (str d, g) := by
      unfold lib_CutPrefix.f
      rw [show (⟨#[45]⟩ : ByteArray) = str [45] from rfl, str_data, str_data, tp, hp]
      rfl
    have cl := cut_lens d [46]
    obtain ⟨w, f, b, hc2, hwl, hfl⟩ : ∃ w f b, lib_Cut.f (str d) (⟨#[46]⟩ : ByteArray) = some (str w, str f, b) ∧ w.length ≤ d.length ∧ f.length ≤ d.length := by
      unfold lib_Cut.f
      rw [show (⟨#[46]⟩ : ByteArray) = str [46] from rfl, str_data, str_data, if_pos (by rw [str_size]; omega)]
      exact ⟨_, _, _, rfl, cl.1, cl.2⟩
    unfold impl_DecGet.f
    rw [hcut]; simp only [Str.bS]
    rw [hc2]; simp only [Str.bS]
    rw [str_size, str_size, if_pos (by omega), str_append, isDigits_eq _ (by rw [List.length_append]; omega) _ (by rw [List.length_append]; omega)]; simp only [Str.bS]
    by_cases hD : Digs (w ++ f) ∧ w ++ f ≠ []
    · rw [decide_eq_true hD, if_pos rfl, impl_DecGet.j0, str_size]
      by_cases hl : ((w ++ f).length : Int) > 120
      · rw [if_pos (decide_eq_true hl)]
      · rw [if_neg (by simpa using hl), readLimbs120 hD.1 (by omega) k (by omega)]; simp only [Str.bS]
        have hv := dval_lt hD.1
        have h120 : 10 ^ (w ++ f).length ≤ 10 ^ 120 := Nat.pow_le_pow_right (by decide) (by omega)
        have hpw : ((10 ^ 120 : Nat) : Int) = pw 30 := by decide
        have hrl : (rep (dval (w ++ f) : Int)).length ≤ 30 := rep_len_le (by omega) (by omega)
        rw [big_ge (rep_dig _) (by omega) g k (by omega)]; simp only [Str.bS]
        by_cases hb : -pw 16 < bigv g (rep (dval (w ++ f) : Int)) ∧ bigv g (rep (dval (w ++ f) : Int)) < pw 16
        · rw [bigR_yes hb.1 hb.2]; simp only [Str.bS]
          rw [if_pos trivial, str_size, implDecOk]; simp only [Str.bS]
          by_cases hdb : decB (mkN (bigv g (rep (dval (w ++ f) : Int)))) (mkL (bigv g (rep (dval (w ++ f) : Int)))) (f.length : Int) = true
          · rw [if_pos hdb, implDecPut, if_pos hdb]; simp only [Str.bS]
            rw [str_toList, str_toList, if_neg (fun e => no _ _ _ ⟨hdb, e.symm⟩)]
          · rw [if_neg hdb]
        · have hbr : bigR (bigv g (rep (dval (w ++ f) : Int))) = (false, [], false) := by unfold bigR; rw [if_neg hb]
          rw [hbr]; simp only [Str.bS]
          rw [if_neg (by decide)]
    · rw [decide_eq_false hD, if_neg (by decide), impl_DecGet.j0, if_pos rfl]
end Go.Proofs.YtdbgpoileffbeaaGreatDoor.Str
end
section
namespace Go.Proofs.YtdbgpoileffbeaaGreatDoor.Str
open Go.Lib Go.RowKit Go.Proofs.YtdbgpoileffbeaaGreatDoor.Dec Go.Proofs.YtdbgpoileffbeaaGreatDoor.Jt Go.Proofs.YtdbgpoileffbeaaGreatDoor.Val Go.Proofs.YtdbgpoileffbeaaGreatDoor.Pr Go.Proofs.YtdbgpoileffbeaaGreatDoor.Ext Go.Proofs.YtdbgpoileffbeaaGreatDoorW.PrintWords Go.Proofs.YtdbgpoileffbeaaGreatDoorW.PrintLast Go.Proofs.YtdbgpoileffbeaaGreatDoorW.PrintMore
set_option linter.unusedVariables false
set_option linter.unusedSimpArgs false
theorem bt45 {b : UInt8} {r : List UInt8} : ((bt (str (b :: r)) 0) == 45) = decide (b = 45) := by
  rw [str_btD _ (by omega) (by simp)]
  have hb := UInt8.toNat_lt b
  by_cases h : b = 45
  · subst h; rfl
  · rw [decide_eq_false h, beq_eq_false_iff_ne]
    intro e
    have e' : ((b.toNat : Nat) : Int) = 45 := e
    exact h (UInt8.toNat_inj.1 (show b.toNat = (45 : UInt8).toNat by have : (45 : UInt8).toNat = 45 := rfl; omega))
theorem l2_to_j1 (s : List UInt8) {g : Bool} {d : List UInt8} (es : s = if g = true then 45 :: d else d) (hg : g = false → d.head? ≠ some 45) (k : Nat) : spec_l2Get.f (k + 1) (str s) = spec_l2Get.j1 k (str d) g := by
  unfold spec_l2Get.f
  rw [str_size]
  cases g
  · rw [if_neg (by decide)] at es
    subst es
    cases s with
    | nil => rw [if_neg (by simp), spec_l2Get.j0, if_neg (by decide)]
    | cons b r =>
      have hb : b ≠ 45 := fun e => hg rfl (by rw [e]; rfl)
      rw [if_pos (by simp), if_pos (by simp), bt45, decide_eq_false hb, spec_l2Get.j0, if_neg (by decide)]
  · rw [if_pos rfl] at es
    subst es
    rw [if_pos (by simp), if_pos (by simp), bt45, decide_eq_true rfl, spec_l2Get.j0, if_pos rfl, str_size, if_pos (by simp; omega), str_extract]
    simp
theorem bt46' {l : List UInt8} {i : Nat} (h : i < l.length) : (bt (str l) (i : Int) = 46) ↔ l[i]? = some 46 := by
  rw [str_btD l (by omega) (by omega), Int.toNat_natCast, getD_get h, Option.some.injEq]
  constructor
  · intro e; exact UInt8.toNat_inj.1 (show (l.getD i 0).toNat = (46 : UInt8).toNat by have : (46 : UInt8).toNat = 46 := rfl; omega)
  · intro e; rw [e]; rfl
theorem dot_skip (d : List UInt8) (hd : d.length ≤ 2000000000) : ∀ (m k i : Nat), i + m ≤ d.length → (∀ j, i ≤ j → j < i + m → d[j]? ≠ some 46) → spec_l2Dot.l0 (k + m) (str d) (i : Int) = spec_l2Dot.l0 k (str d) ((i + m : Nat) : Int) := by
  intro m
  induction m with
  | zero => intro k i hi hj; rfl
  | succ m ih =>
    intro k i hi hj
    rw [show k + (m + 1) = (k + m) + 1 by omega, spec_l2Dot.l0, str_size, if_pos (by omega), if_pos (by omega), if_neg (fun e => hj i (Nat.le_refl _) (by omega) ((bt46' (by omega)).1 e)), Str.w64 (by omega) (by omega), show ((i : Int) + 1) = ((i + 1 : Nat) : Int) by omega, ih k (i + 1) (by omega) (fun j h1 h2 => hj j (by omega) (by omega)), show i + 1 + m = i + (m + 1) by omega]
theorem dot_hit {w f : List UInt8} (hw : (46 : UInt8) ∉ w) (hd : (w ++ 46 :: f).length ≤ 2000000000) (k : Nat) (hk : w.length + 1 ≤ k) : spec_l2Dot.f k (str (w ++ 46 :: f)) = some (w.length : Int) := by
  unfold spec_l2Dot.f
  obtain ⟨k, rfl⟩ : ∃ j, k = (j + 1) + w.length := ⟨k - w.length - 1, by omega⟩
  have := dot_skip (w ++ 46 :: f) hd w.length (k + 1) 0 (by rw [List.length_append]; omega) (fun j _ hj e => by
    rw [List.getElem?_append_left (by omega)] at e
    exact hw (List.mem_of_getElem? e))
  refine Eq.trans this ?_
  rw [Nat.zero_add, spec_l2Dot.l0, str_size, if_pos (by rw [List.length_append, List.length_cons]; omega), if_pos (by omega), if_pos ((bt46' (by rw [List.length_append, List.length_cons]; omega)).2 (by rw [List.getElem?_append_right (Nat.le_refl _), Nat.sub_self]; rfl))]
theorem dot_miss {d : List UInt8} (h : (46 : UInt8) ∉ d) (hd : d.length ≤ 2000000000) (k : Nat) (hk : d.length + 1 ≤ k) : spec_l2Dot.f k (str d) = some (d.length : Int) := by
  unfold spec_l2Dot.f
  obtain ⟨k, rfl⟩ : ∃ j, k = (j + 1) + d.length := ⟨k - d.length - 1, by omega⟩
  have := dot_skip d hd d.length (k + 1) 0 (by omega) (fun j _ hj e => h (List.mem_of_getElem? e))
  refine Eq.trans this ?_
  rw [Nat.zero_add, spec_l2Dot.l0, str_size, if_neg (by omega)]
theorem canon_app {w f : List UInt8} (hw : Canon w) (hf : f ≠ [] → w ≠ [48]) (hd : Digs w) : Canon (w ++ f) := by
  by_cases h : f = []
  · subst h; rw [List.append_nil]; exact hw
  · have hfl := List.length_pos_iff.2 h
    have hw0 : 0 < w.length := by rcases hw with c | ⟨c, _⟩ <;> omega
    right
    refine ⟨by rw [List.length_append]; omega, ?_⟩
    have e : (w ++ f).head? = w.head? := by
      cases w with
      | nil => simp at hw0
      | cons b r => rfl
    rw [e]
    rcases hw with c | ⟨_, c⟩
    · intro e2
      match w, c with
      | [b], _ => exact hf h (by rw [Option.some.inj e2])
    · exact c
theorem padded_eq {w f : List UInt8} (hw : Digs w) (hc : Canon w) (hf : Digs f) : zerosL (f.length + 1 - (decDigits (dval (w ++ f))).length) ++ decDigits (dval (w ++ f)) = w ++ f := by
  have hD : Digs (w ++ f) := hw.append hf
  by_cases h : f ≠ [] ∧ w = [48]
  · have hl : (w ++ f).length = f.length + 1 := by rw [h.2, List.length_append]; simp; omega
    have := padL_of hD (by omega)
    unfold padL at this
    rw [hl] at this
    exact this
  · have hcw : Canon (w ++ f) := canon_app hc (fun hf' hw' => h ⟨hf', hw'⟩) hw
    rw [decDigits_of hD hcw]
    have hw0 : 0 < w.length := by rcases hc with c | ⟨c, _⟩ <;> omega
    rw [show f.length + 1 - (w ++ f).length = 0 by rw [List.length_append]; omega]
    rfl
theorem dec_text {w f : List UInt8} (hw : Digs w) (hc : Canon w) (hf : Digs f) (g : Bool) : decT g (rep (dval (w ++ f) : Int)) (f.length : Int) = (if g = true then 45 :: (w ++ (if f = [] then [] else 46 :: f)) else (w ++ (if f = [] then [] else 46 :: f))) := by
  have ht : textL (rep (dval (w ++ f) : Int)) = decDigits (dval (w ++ f)) := by rw [textL_eq _ (rep_dig _) (rep_nz _), rep_val (by omega), Int.toNat_natCast]
  unfold decT
  rw [ht]
  by_cases h : f = []
  · subst h
    rw [List.append_nil] at ht
    rw [if_neg (by simp), if_pos rfl, List.append_nil]
    unfold bigT
    rw [ht, decDigits_of hw hc]
  · have hfl := List.length_pos_iff.2 h
    rw [if_pos (by omega), if_neg h, Int.toNat_natCast, padded_eq hw hc hf]
    unfold pointT
    rw [Int.toNat_natCast, show (w ++ f).length - f.length = w.length by rw [List.length_append]; omega, List.take_left, List.drop_left]
    cases g <;> simp
theorem l2_l0 (g : Bool) (w : List UInt8) {f : List UInt8} (hf12 : f.length ≤ 12) (R : Option (Bool × List Int × Int × Bool)) (hR : ∀ K, 1200 ≤ K → Digs f → spec_l2Get.l0 (K + 1) g (str w) (str f) (f.length : Int) = R) : ∀ (d k i : Nat), i + d = f.length → 1300 + d ≤ k → Digs (f.take i) →
    spec_l2Get.l0 k g (str w) (str f) (i : Int) = if Digs f then R else some (false, [], 0, false) := by
  intro d
  induction d with
  | zero =>
    intro k i hi hk hD
    obtain ⟨k, rfl⟩ : ∃ j, k = j + 1 := ⟨k - 1, by omega⟩
    have e : i = f.length := by omega
    rw [e, List.take_length] at hD
    rw [if_pos hD, e]
    exact hR k (by omega) hD
  | succ d ih =>
    intro k i hi hk hD
    obtain ⟨k, rfl⟩ : ∃ j, k = j + 1 := ⟨k - 1, by omega⟩
    have bad : ¬ IsD (f.getD i 0) → ¬ Digs f := fun h hn => h (hn.get (getD_get (by omega)))
    rw [spec_l2Get.l0, str_size, if_pos (by omega), if_pos (by omega), str_btD f (by omega) (by omega), Int.toNat_natCast]
    by_cases h1 : ((f.getD i 0).toNat : Int) < 48
    · rw [if_pos h1, if_neg (bad (by unfold IsD; omega))]
    · rw [if_neg h1]
      by_cases h2 : ((f.getD i 0).toNat : Int) > 57
      · rw [if_pos h2, if_neg (bad (by unfold IsD; omega))]
      · rw [if_neg h2, Str.w64 (by omega) (by omega), show ((i : Int) + 1) = ((i + 1 : Nat) : Int) by omega]
        exact ih k (i + 1) (by omega) (by omega) (digs_take (by omega) hD (by unfold IsD; omega))
def Good (g : Bool) (w f : List UInt8) : Prop := Digs w ∧ Canon w ∧ Digs f ∧ decB g (rep (dval (w ++ f) : Int)) (f.length : Int) = true
instance (g : Bool) (w f : List UInt8) : Decidable (Good g w f) := inferInstanceAs (Decidable (_ ∧ _ ∧ _ ∧ _))
theorem good_len {g : Bool} {w f : List UInt8} (h : Good g w f) : w.length ≤ 30 ∧ f.length ≤ 12 := by
  obtain ⟨hw, hc, hf, hd⟩ := h
  obtain ⟨ho, s0, s1, ht⟩ := decB_ok hd
  refine ⟨?_, by omega⟩
  have e : textL (rep (dval (w ++ f) : Int)) = decDigits (dval (w ++ f)) := by rw [textL_eq _ (rep_dig _) (rep_nz _), rep_val (by omega), Int.toNat_natCast]
  rw [e] at ht
  have hp := congrArg List.length (padded_eq hw hc hf)
  rw [List.length_append, zerosL_len, List.length_append] at hp
  have := decDigits_len_pos (dval (w ++ f))
  omega
theorem l2_j2 (g : Bool) (w f : List UInt8) (hw : w.length ≤ 2000000000) (hf : f.length ≤ 2000000000) (k : Nat) (hk : w.length + 1400 ≤ k) :
    spec_l2Get.j2 k g (str w) (str f) = some (if Good g w f then (g, rep (dval (w ++ f) : Int), (f.length : Int), true) else (false, [], 0, false)) := by
  obtain ⟨k, rfl⟩ : ∃ j, k = j + 2 := ⟨k - 2, by omega⟩
  rw [spec_l2Get.j2, isFigures_eq w (by omega) _ (by omega)]; simp only [Str.bS]
  by_cases hD : Digs w ∧ Canon w
  · rw [decide_eq_true hD, if_pos rfl, str_size]
    by_cases h30 : (w.length : Int) > 30
    · rw [if_pos h30, spec_l2Get.j3, if_pos rfl, if_neg (fun h => by have := (good_len h).1; omega)]
    · rw [if_neg h30, str_size]
      by_cases h12 : (f.length : Int) > 12
      · rw [decide_eq_true h12, spec_l2Get.j3, if_pos rfl, if_neg (fun h => by have := (good_len h).2; omega)]
      · rw [decide_eq_false h12, spec_l2Get.j3, if_neg (by decide)]
        show spec_l2Get.l0 k g (str w) (str f) ((0 : Nat) : Int) = _
        rw [l2_l0 g w (f := f) (by omega) (some (if Good g w f then (g, rep (dval (w ++ f) : Int), (f.length : Int), true) else (false, [], 0, false))) (fun K hK hf' => by
          rw [spec_l2Get.l0, str_size, if_neg (by omega), str_size, if_pos (by omega), str_append, fromF_eq (hD.1.append hf') (by rw [List.length_append]; omega) K (by omega)]; simp only [Str.bS]
          rw [specL2Ok _ _ _ _ (by omega)]; simp only [Str.bS]
          have hG : Good g w f ↔ decB g (rep (dval (w ++ f) : Int)) (f.length : Int) = true := ⟨fun h => h.2.2.2, fun h => ⟨hD.1, hD.2, hf', h⟩⟩
          by_cases hdb : decB g (rep (dval (w ++ f) : Int)) (f.length : Int) = true
          · rw [if_pos (hG.2 hdb), hdb]
            have ho := (decB_ok hdb).1
            cases g
            · rw [if_neg (by decide), if_pos rfl]
            · rw [if_pos rfl, if_neg (by have := ho.2.2.2 rfl; omega), if_pos rfl]
          · rw [if_neg (fun h => hdb (hG.1 h)), Bool.eq_false_iff.2 hdb]
            cases g
            · rw [if_neg (by decide), if_neg (by decide)]
            · rw [if_pos rfl]
              split
              · rfl
              · rw [if_neg (by decide)]) f.length k 0 (by omega) (by omega) (by rw [List.take_zero]; exact Digs.nil)]
        by_cases hf' : Digs f
        · rw [if_pos hf']
        · rw [if_neg hf', if_neg (fun h => hf' h.2.2.1)]
  · rw [decide_eq_false hD, if_neg (by decide), spec_l2Get.j3, if_pos rfl, if_neg (fun h => hD ⟨h.1, h.2.1⟩)]
theorem decT_parts2 {n : Bool} {l : List Int} {s : Int} (h : decB n l s = true) : ∃ w f : List UInt8, decT n l s = (if n = true then 45 :: (w ++ (if 0 < s then 46 :: f else [])) else (w ++ (if 0 < s then 46 :: f else []))) ∧ Digs w ∧ w ≠ [] ∧ Digs f ∧ (f.length : Int) = s ∧ w.length + f.length ≤ 40 ∧ dval (w ++ f) = (val l).toNat ∧ Canon w := by
  obtain ⟨ho, s0, s1, ht⟩ := decB_ok h
  have hv : dval (textL l) = (val l).toNat := by rw [textL_of ho, decDigits_dval]
  have hp : 0 < (textL l).length := List.length_pos_iff.2 (textL_ne l)
  unfold decT
  by_cases hs : 0 < s
  · have hzl : (zerosL (s.toNat + 1 - (textL l).length) ++ textL l).length = s.toNat + 1 - (textL l).length + (textL l).length := by rw [List.length_append, zerosL_len]
    have hzD : Digs (zerosL (s.toNat + 1 - (textL l).length) ++ textL l) := (zerosL_digs _).append (textL_digs l)
    have hzc : (zerosL (s.toNat + 1 - (textL l).length) ++ textL l).length = s.toNat + 1 ∨ Canon (zerosL (s.toNat + 1 - (textL l).length) ++ textL l) := by
      by_cases hz0 : s.toNat + 1 - (textL l).length = 0
      · right
        rw [hz0, textL_of ho]
        exact decDigits_canon _
      · left; omega
    have hzv : dval (zerosL (s.toNat + 1 - (textL l).length) ++ textL l) = (val l).toNat := by rw [dval_append, zerosL_dval, hv]; omega
    generalize zerosL (s.toNat + 1 - (textL l).length) ++ textL l = z at *
    refine ⟨z.take (z.length - s.toNat), z.drop (z.length - s.toNat), ?_, hzD.take _, ?_, hzD.drop _, ?_, ?_, ?_, ?_⟩
    · rw [if_pos hs]
      unfold pointT
      cases n <;> simp [hs]
    · intro e
      have := congrArg List.length e
      rw [List.length_take, List.length_nil] at this
      omega
    · rw [List.length_drop]; omega
    · rw [List.length_drop, List.length_take]; omega
    · rw [List.take_append_drop]; exact hzv
    · by_cases h1 : z.length - s.toNat = 1
      · left; rw [List.length_take]; omega
      · right
        rcases hzc with hz | hz | ⟨_, hz⟩
        · omega
        · omega
        · refine ⟨by rw [List.length_take]; omega, ?_⟩
          rw [List.head?_take, if_neg (by omega)]
          exact hz
  · refine ⟨textL l, [], ?_, textL_digs l, textL_ne l, Digs.nil, by simp; omega, by simp; omega, by rw [List.append_nil]; exact hv, by rw [textL_of ho]; exact decDigits_canon _⟩
    rw [if_neg hs, if_neg hs, List.append_nil]
    unfold bigT
    rfl
theorem first_of46 : ∀ (l : List UInt8), (46 : UInt8) ∈ l → ∃ a r, l = a ++ 46 :: r ∧ (46 : UInt8) ∉ a
  | [], h => by cases h
  | b :: l, h => by
    by_cases hb : b = 46
    · exact ⟨[], l, by rw [hb]; rfl, by simp⟩
    · obtain ⟨a, r, e, hn⟩ := first_of46 l ((List.mem_cons.1 h).resolve_left (fun e => hb e.symm))
      exact ⟨b :: a, r, by rw [e]; rfl, by simp [hn, Ne.symm hb]⟩
theorem first_uniq46 {a a' r r' : List UInt8} (h : (46 : UInt8) ∉ a) (h' : (46 : UInt8) ∉ a') (e : a ++ 46 :: r = a' ++ 46 :: r') : a = a' ∧ r = r' := by
  have c := cut_at (r := r) h
  have c' := cut_at (r := r') h'
  rw [e, c'] at c
  exact ⟨(Prod.mk.inj c).1.symm, (Prod.mk.inj (Prod.mk.inj c).2).1.symm⟩
theorem dec_sign {g : Bool} {d : List UInt8} (hg : g = false → d.head? ≠ some 45) {n : Bool} {tl : List UInt8} (ht : tl.head? ≠ some 45) (e : (if g = true then 45 :: d else d) = (if n = true then 45 :: tl else tl)) : g = n ∧ d = tl := by
  cases g <;> cases n
  · exact ⟨rfl, by simpa using e⟩
  · rw [if_neg (by decide), if_pos rfl] at e
    exact absurd (by rw [e]; rfl) (hg rfl)
  · rw [if_pos rfl, if_neg (by decide)] at e
    exact absurd (by rw [← e]; rfl) ht
  · rw [if_pos rfl, if_pos rfl] at e
    exact ⟨rfl, (List.cons.inj e).2⟩
theorem good_of {s : List UInt8} {g : Bool} {d : List UInt8} (es : s = if g = true then 45 :: d else d) (hg : g = false → d.head? ≠ some 45) {n : Bool} {l : List Int} {c : Int} (h : IsDec s n l c) :
    ∃ w f, d = w ++ (if f = [] then [] else 46 :: f) ∧ (46 : UInt8) ∉ w ∧ Good g w f := by
  obtain ⟨w, f, e, hw, hw0, hf, hfl, hlen, hv, hc⟩ := decT_parts2 h.1
  have hs := h.2
  rw [e] at hs
  have hcf : (if 0 < c then 46 :: f else []) = (if f = [] then [] else 46 :: f) := by
    by_cases h0 : f = []
    · rw [if_pos h0, if_neg (by rw [h0] at hfl; simp at hfl; omega)]
    · have := List.length_pos_iff.2 h0
      rw [if_neg h0, if_pos (by omega)]
  rw [hcf] at hs
  have hhead : (w ++ (if f = [] then [] else 46 :: f)).head? ≠ some 45 := by
    cases w with
    | nil => exact absurd rfl hw0
    | cons b r =>
      intro e2
      have : b = 45 := Option.some.inj e2
      subst this
      exact absurd hw.head (by decide)
  obtain ⟨e1, e2⟩ := dec_sign hg hhead (es.symm.trans hs)
  obtain ⟨ho, _⟩ := decB_ok h.1
  obtain ⟨v0, v1⟩ := val_of_ok ho
  have hl : l = rep (dval (w ++ f) : Int) := by rw [hv, Int.toNat_of_nonneg v0]; exact is_rep ho.2.1 ho.2.2.1 rfl
  refine ⟨w, f, e2, digs_no46 hw, hw, hc, hf, ?_⟩
  rw [e1, ← hl, hfl]
  exact h.1
theorem specDecGet (s : List UInt8) (hs : s.length ≤ 2000000000) : ∃ r, (∀ k, s.length + 4000 ≤ k → spec_DecGet.f k (str s) = some r) ∧ ToldDec s r := by
  obtain ⟨g, d, es, hg, _, _⟩ := sign_parts s
  have hdl : d.length ≤ s.length := by rw [es]; split <;> simp
  have no : ∀ (w f : List UInt8), (∀ w' f', d = w' ++ (if f' = [] then [] else 46 :: f') → (46 : UInt8) ∉ w' → Good g w' f' → False) → ∀ n l c, ¬ IsDec s n l c := by
    intro _ _ hno n l c h
    obtain ⟨w', f', e1, e2, e3⟩ := good_of es hg h
    exact hno w' f' e1 e2 e3
  have yes : ∀ (w f : List UInt8), d = w ++ (if f = [] then [] else 46 :: f) → Good g w f → IsDec s g (rep (dval (w ++ f) : Int)) (f.length : Int) := by
    intro w f e h
    refine ⟨h.2.2.2, ?_⟩
    rw [dec_text h.1 h.2.1 h.2.2.1 g, es, e]
  have run : ∀ (r : Bool × List Int × Int × Bool), (∀ k, d.length + 3000 ≤ k → spec_l2Get.j1 k (str d) g = some r) → ∀ k, s.length + 4000 ≤ k → spec_DecGet.f k (str s) = some r := by
    intro r h k hk
    obtain ⟨k, rfl⟩ : ∃ j, k = j + 1 := ⟨k - 1, by omega⟩
    unfold spec_DecGet.f
    rw [l2_to_j1 s es hg, h k (by omega)]; simp only [Str.bS]
  by_cases hm : (46 : UInt8) ∈ d
  · obtain ⟨w, f, ed, hw⟩ := first_of46 d hm
    have hlen : d.length = w.length + 1 + f.length := by rw [ed, List.length_append, List.length_cons]; omega
    by_cases hf : f = []
    · refine ⟨(false, [], 0, false), run _ (fun k hk => ?_), .inr ⟨rfl, no w f (fun w' f' e1 e2 e3 => ?_)⟩⟩
      · obtain ⟨k, rfl⟩ : ∃ j, k = j + 1 := ⟨k - 1, by omega⟩
        rw [spec_l2Get.j1, ed, dot_hit hw (by rw [← ed]; omega) k (by omega)]; simp only [Str.bS]
        rw [← ed, if_pos (by omega), str_size, if_pos (by omega), if_pos (by omega), Str.w64 (by omega) (by omega), if_pos (by omega), if_pos (by omega), str_extract, str_toList, if_pos]
        rw [ed, hf, show ((w.length : Int) + 1).toNat = (w ++ [46]).length by rw [List.length_append, List.length_singleton]; omega, List.drop_length, List.take_nil]
      · by_cases hf' : f' = []
        · rw [if_pos hf', List.append_nil] at e1
          rw [← e1] at e2
          exact e2 hm
        · rw [if_neg hf', ed] at e1
          have := (first_uniq46 hw e2 e1).2
          exact hf' (by rw [← this]; exact hf)
    · have hj : ∀ k, d.length + 3000 ≤ k → spec_l2Get.j1 k (str d) g = some (if Good g w f then (g, rep (dval (w ++ f) : Int), (f.length : Int), true) else (false, [], 0, false)) := by
        intro k hk
        obtain ⟨k, rfl⟩ : ∃ j, k = j + 1 := ⟨k - 1, by omega⟩
        have hx : (d.drop ((w.length : Int) + 1).toNat).take (d.length - ((w.length : Int) + 1).toNat) = f := by
          rw [ed, show ((w.length : Int) + 1).toNat = w.length + 1 by omega, show w ++ 46 :: f = (w ++ [46]) ++ f by simp, show w.length + 1 = (w ++ [46]).length by simp, List.drop_left, List.take_of_length_le]
          simp; omega
        have hx2 : (d.drop 0).take ((w.length : Int).toNat - 0) = w := by rw [ed]; simp
        rw [spec_l2Get.j1, show spec_l2Dot.f k (str d) = some (w.length : Int) by rw [ed]; exact dot_hit hw (by rw [← ed]; omega) k (by omega)]; simp only [Str.bS]
        rw [if_pos (by omega), str_size, if_pos (by omega), if_pos (by omega), Str.w64 (by omega) (by omega), if_pos (by omega), if_pos (by omega), str_extract, hx, str_toList, if_neg hf, str_extract, hx2]
        exact l2_j2 g w f (by omega) (by omega) k (by omega)
      refine ⟨_, run _ hj, ?_⟩
      by_cases hG : Good g w f
      · rw [if_pos hG]
        exact .inl ⟨rfl, yes w f (by rw [if_neg hf]; exact ed) hG⟩
      · rw [if_neg hG]
        refine .inr ⟨rfl, no w f (fun w' f' e1 e2 e3 => ?_)⟩
        by_cases hf' : f' = []
        · rw [if_pos hf', List.append_nil] at e1
          rw [← e1] at e2
          exact e2 hm
        · rw [if_neg hf', ed] at e1
          obtain ⟨q1, q2⟩ := first_uniq46 hw e2 e1
          subst q1; subst q2
          exact hG e3
  · have hj : ∀ k, d.length + 3000 ≤ k → spec_l2Get.j1 k (str d) g = some (if Good g d [] then (g, rep (dval (d ++ []) : Int), (([] : List UInt8).length : Int), true) else (false, [], 0, false)) := by
      intro k hk
      obtain ⟨k, rfl⟩ : ∃ j, k = j + 1 := ⟨k - 1, by omega⟩
      have hx2 : (d.drop 0).take ((d.length : Int).toNat - 0) = d := by simp
      rw [spec_l2Get.j1, dot_miss hm (by omega) k (by omega)]; simp only [Str.bS]
      rw [if_pos (by omega), str_size, if_pos (by omega), if_neg (by omega), str_extract, hx2]
      exact l2_j2 g d [] (by omega) (by simp) k (by omega)
    refine ⟨_, run _ hj, ?_⟩
    by_cases hG : Good g d []
    · rw [if_pos hG]
      exact .inl ⟨rfl, yes d [] (by simp) hG⟩
    · rw [if_neg hG]
      refine .inr ⟨rfl, no d [] (fun w' f' e1 e2 e3 => ?_)⟩
      by_cases hf' : f' = []
      · rw [if_pos hf', List.append_nil] at e1
        subst e1; subst hf'
        exact hG e3
      · rw [if_neg hf'] at e1
        exact hm (by rw [e1]; simp)
end Go.Proofs.YtdbgpoileffbeaaGreatDoor.Str
end
section
namespace Go.Proofs.YtdbgpoileffbeaaGreatDoor.Pure
open Go.RowKit Go.Proofs.YtdbgpoileffbeaaGreatDoor.Pr Go.Proofs.YtdbgpoileffbeaaGreatDoor.Pw Go.Proofs.YtdbgpoileffbeaaGreatDoor.Ext Go.Proofs.YtdbgpoileffbeaaGreatDoor.Dec Go.Proofs.YtdbgpoileffbeaaGreatDoor.Jt Go.Proofs.YtdbgpoileffbeaaGreatDoor.Val Go.Proofs.YtdbgpoileffbeaaGreatDoor.Str Go.Proofs.YtdbgpoileffbeaaGreatDoorW.PrintWords Go.Proofs.YtdbgpoileffbeaaGreatDoorW.PrintLast Go.Proofs.YtdbgpoileffbeaaGreatDoorW.PrintMore
set_option linter.unusedVariables false
set_option linter.unusedSimpArgs false
theorem toldD_len {s : List UInt8} {r : Bool × List Int × Int × Bool} (h : ToldDec s r) : r.2.1.length ≤ 16 := by
  rcases h with ⟨_, h⟩ | ⟨rfl, _⟩
  · exact (decB_ok h.1).1.1
  · simp
theorem eqDec_ge (n : Bool) {l : List Int} (c : Int) (hl : l.length < 100000000) (k : Nat) (hk : l.length + 1 ≤ k) : laws_eqDec.f k n l c n l c = some true := by
  unfold laws_eqDec.f
  rw [eqBig_ge n hl k hk]; simp only [Str.bS]
  simp
theorem FnExactDecGet (s : ByteArray) : ∃ k, laws_FnExactDecGet.f k s = some true := by
  rw [str_eta s]
  generalize s.data.toList = l
  refine ⟨l.length + l.length + 9000, ?_⟩
  unfold laws_FnExactDecGet.f
  rw [str_size]
  by_cases h : (l.length : Int) > 1048576
  · rw [if_pos h]
  · rw [if_neg h]
    obtain ⟨r, h1, t1⟩ := implDecGet l (by omega)
    obtain ⟨r', h2, t2⟩ := specDecGet l (by omega)
    obtain rfl := t1.uniq t2
    have hx := toldD_len t1
    obtain ⟨p, hp, p2, p3⟩ := Mk.mark_ge r.1 r.2.1 (by omega) 1 (by omega) (by omega)
    have h0 : ¬ (1 + (r.2.1.length : Int) < 0) := by omega
    have mk : laws_markDec.f (l.length + l.length + 9000) r.1 r.2.1 r.2.2.1 1 = some (1 + (r.2.1.length : Int), p) := by
      unfold laws_markDec.f
      rw [hp _ (by omega)]; simp only [Str.bS]
    have hd : laws_heldDec.f (l.length + l.length + 9000) r.1 p r.2.2.1 1 = some (1 + (r.2.1.length : Int)) := by
      unfold laws_heldDec.f
      rw [p3 _ _ (by omega)]; simp only [Str.bS]
      rw [if_neg h0]
    rw [h2 _ (by omega)]; simp only [Str.bS]
    rw [h1 _ (by omega)]; simp only [Str.bS]
    rw [eqDec_ge _ _ (by omega) _ (by omega)]; simp only [Str.bS]
    rw [if_pos trivial, if_neg (by simp), mk]; simp only [Str.bS]
    rw [hd]; simp only [Str.bS]
    simp only [if_neg h0, if_true]
    simp
end Go.Proofs.YtdbgpoileffbeaaGreatDoor.Pure
end
section
namespace Go.Proofs.YtdbgpoileffbeaaGreatDoor.LaidE
open Go Go.RowKit Go.Proofs.YtdbgpoileffbeaaGreatDoor.Ext
set_option linter.unusedVariables false
theorem powType : (Tryz.prog.globals[3]?).map (·.type) = some 133 := by kernel_rfl
theorem powData : (Rows.laid_internal_strconv_uint64pow10 : DataW Unit) = Lib.tabData .u64 Lib.pow10Tab := rfl
theorem envI_of {r : List (String × DataW Unit)} {W : World} (h : laidMet Tryz.prog (("internal/strconv.uint64pow10", Rows.laid_internal_strconv_uint64pow10) :: r) W) : EnvI W :=
  Lib.tabIs_of_head gPow powType Tryz.underlying133 Tryz.underlying100 (by kernel_rfl) (by kernel_rfl) (powData ▸ h)
theorem sized_str {H : Type} {P : Program} {ts : List TypeId} {ds : List (DataW H)} (j : Nat) (hsz : (DataW.weightsEach P ts ds).all (· ≤ reachBytes) = true) {t : TypeId} {s : ByteArray} (ht : ts[j]? = some t) (hd : ds[j]? = some (.lit (.string s.data.toList))) : s.size ≤ 140737488351232 := by
  have h1 := sized_string hsz (j := j) (t := t) ht hd
  rw [Array.length_toList] at h1
  exact h1
theorem star : "*" ++ "errors.errorString" = "*errors.errorString" := by decide
theorem rowErr (u : TypeId) (h : Tryz.prog.typeName? 3 u = some "*errors.errorString") : u = 129 :=
  typeName_ptr_named (nm := "errors.errorString") (by rw [star]; kernel_rfl) (by kernel_rfl) (by decide) u (by rw [star]; exact h)
theorem gSyn : Tryz.prog.globalNamed "strconv.ErrSyntax" = some 1 := by kernel_rfl
theorem gRan : Tryz.prog.globalNamed "strconv.ErrRange" = some 2 := by kernel_rfl
theorem gSynType : (Tryz.prog.globals[1]?).map (·.type) = some 65 := by kernel_rfl
theorem gRanType : (Tryz.prog.globals[2]?).map (·.type) = some 65 := by kernel_rfl
theorem cellsE : Tryz.prog.cellsOf 131 = 1 := by kernel_rfl
theorem cellsS : Tryz.prog.cellsOf 9 = 1 := by kernel_rfl
theorem syn_of {r : List (String × DataW Unit)} {W : World} (h : laidMet Tryz.prog (("strconv.ErrSyntax", Rows.laid_strconv_ErrSyntax) :: r) W) : HoldsErr 1 W := by
  obtain ⟨a0, s0, hv0, -, -, -⟩ := laid_sentinel h gSyn gSynType Tryz.underlying65 rowErr Tryz.underlying129 Tryz.underlying131 rfl rfl Tryz.underlying9 cellsE cellsS
  exact ⟨_, by simpa using World.var?_cell gSyn hv0 0, .inr ⟨_, _, rfl⟩⟩
theorem ran_of {r : List (String × DataW Unit)} {W : World} (h : laidMet Tryz.prog (("strconv.ErrRange", Rows.laid_strconv_ErrRange) :: r) W) : HoldsErr 2 W := by
  obtain ⟨a0, s0, hv0, -, -, -⟩ := laid_sentinel h gRan gRanType Tryz.underlying65 rowErr Tryz.underlying129 Tryz.underlying131 rfl rfl Tryz.underlying9 cellsE cellsS
  exact ⟨_, by simpa using World.var?_cell gRan hv0 0, .inr ⟨_, _, rfl⟩⟩
theorem len_of {W : World} (h : W.ShapedOpen Tryz.prog) : ∃ m, W.cell? ⟨0, 0, none⟩ = some (.int .i64 m) :=
  cell_of_shapedOpen_int h (of_decide_eq_true (by kernel_rfl)) (t := 3) (zero := #[.int .i64 0]) (by kernel_rfl) rfl (by kernel_rfl) (by kernel_rfl) Tryz.underlying3
end Go.Proofs.YtdbgpoileffbeaaGreatDoor.LaidE
end
