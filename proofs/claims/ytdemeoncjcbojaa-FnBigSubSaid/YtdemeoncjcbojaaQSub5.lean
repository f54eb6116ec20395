/- What the claim's row needs of the contracts and words below it, and no more. -/
import Derived.Test.YtdemeoncjcbojaaQSub4
section
namespace Go.Proofs.Ytdemeoncjcbojaa.Pr
open Go.RowKit Go.Proofs.YtdemeoncjcbojaaW.PrintWords Go.Proofs.YtdemeoncjcbojaaW.PrintLast Go.Proofs.Ytdemeoncjcbojaa.Ext Go.Proofs.YtdemeoncjcbojaaW.PrintMore
attribute [local go_sem] max2_int min2_int max_two min_two max_three min_three max_four min_four
set_option linter.unusedVariables false
set_option linter.unusedSimpArgs false
def impl_BigSub.f (k : Nat) (a0_0 : Bool) (l0_1 : List Int) (a1_0 : Bool) (l1_1 : List Int) : Option (Bool × List Int × Bool) := (impl_bigs.f a0_0 l0_1 a1_0 l1_1).bind fun t988 => (if t988 = true then ((impl_Big_signed.f a0_0 l0_1).bind fun bt989 => ((impl_Big_signed.f a1_0 l1_1).bind fun bt993 => ((impl_signed_minus.f bt993.1 bt993.2).bind fun bt997 => ((impl_signed_add.f k bt989.1 bt989.2 bt997.1 bt997.2).bind fun bt1001 => ((impl_big.f k bt1001.1 bt1001.2).bind fun bt1006 => (some (bt1006.1, bt1006.2.1, bt1006.2.2))))))) else (some (false, ([] : List Int), false)))
def impl_BigSub.T3 : Bool × List (List Nat × List Nat) := (true, [([], []), ([0], [0]), ([], []), ([2, 1], [2]), ([3, 3], [3]), ([1, 4, 4], [1, 4]), ([], []), ([6, 5, 5, 0, 1, 2, 3, 4, 5, 6], [5, 6])])
def impl_BigSub.B3 : List Nat := [0, 1, 0, 7, 15, 31, 0, 127]
theorem impl_BigSub.tab3 : rtab .any (opsOf Try.f41 3) = impl_BigSub.T3 := by kernel_rfl
theorem impl_BigSub.bits3 : waitsOk impl_BigSub.T3.2 impl_BigSub.B3 = true := by kernel_rfl
set_option maxHeartbeats 8000000 in
set_option maxRecDepth 100000 in
theorem impl_BigSub.calls (k : Nat) (a0_0 : Bool) (P0_1_ : Nat → Prop) (A0_1 : Option Addr) (c0_1 : Nat) (l0_1 : List Int) (a1_0 : Bool) (P1_1_ : Nat → Prop) (A1_1 : Option Addr) (c1_1 : Nat) (l1_1 : List Int) (r1 : Bool) (r2 : List Int) (r3 : Bool) (w : World) (hs0_1 : Kd.V (Kd.int .i64) 3 w w.heap.size (fun k_ => P0_1_ k_) (.slice A0_1 l0_1.length c0_1) l0_1) (hs1_1 : Kd.V (Kd.int .i64) 3 w w.heap.size (fun k_ => P1_1_ k_) (.slice A1_1 l1_1.length c1_1) l1_1) (h : impl_BigSub.f k a0_0 l0_1 a1_0 l1_1 = some (r1, r2, r3)) :
    Calls Try.prog 41 #[.agg #[.bool a0_0, .slice A0_1 l0_1.length c0_1], .agg #[.bool a1_0, .slice A1_1 l1_1.length c1_1]] w fun e w' => ∃ v1_ : Value, e = .returned (.tuple #[.agg #[.bool r1, v1_], .bool r3]) ∧ Kd.V (Kd.int .i64) 3 w' w.heap.size (fun k_ => ((P0_1_ k_ ∨ P1_1_ k_) ∨ w.heap.size ≤ k_)) v1_ r2 ∧ Below w.heap.size w w' := by
  have hu27 := Try.underlying27
  have hu64 := Try.underlying64
  have HO0_1 := Aside0.mk (show Kd.V (Kd.int .i64) 3 w w.heap.size (fun k_ => ((P0_1_ k_ ∨ P1_1_ k_) ∨ w.heap.size ≤ k_)) (.slice A0_1 l0_1.length c0_1) l0_1 from Kd.V_mono hs0_1 (fun k_ hk => .inl (.inl hk)))
  have HO1_1 := Aside0.mk (show Kd.V (Kd.int .i64) 3 w w.heap.size (fun k_ => ((P0_1_ k_ ∨ P1_1_ k_) ∨ w.heap.size ≤ k_)) (.slice A1_1 l1_1.length c1_1) l1_1 from Kd.V_mono hs1_1 (fun k_ hk => .inl (.inr hk)))
  have HB := Aside0.mk (Below.refl w.heap.size w)
  have H : ((impl_bigs.f a0_0 l0_1 a1_0 l1_1).bind fun t988 => (if t988 = true then ((impl_Big_signed.f a0_0 l0_1).bind fun bt989 => ((impl_Big_signed.f a1_0 l1_1).bind fun bt993 => ((impl_signed_minus.f bt993.1 bt993.2).bind fun bt997 => ((impl_signed_add.f k bt989.1 bt989.2 bt997.1 bt997.2).bind fun bt1001 => ((impl_big.f k bt1001.1 bt1001.2).bind fun bt1006 => (some (bt1006.1, bt1006.2.1, bt1006.2.2))))))) else (some (false, ([] : List Int), false)))) = some (r1, r2, r3) := h
  clear h
  replace H := Option.bind_eq_some_iff.mp H
  obtain ⟨t988, A30, H⟩ := H
  replace H : (if t988 = true then ((impl_Big_signed.f a0_0 l0_1).bind fun bt989 => ((impl_Big_signed.f a1_0 l1_1).bind fun bt993 => ((impl_signed_minus.f bt993.1 bt993.2).bind fun bt997 => ((impl_signed_add.f k bt989.1 bt989.2 bt997.1 bt997.2).bind fun bt1001 => ((impl_big.f k bt1001.1 bt1001.2).bind fun bt1006 => (some (bt1006.1, bt1006.2.1, bt1006.2.2))))))) else (some (false, ([] : List Int), false))) = some (r1, r2, r3) := H
  have A3 := Aside0.mk A30
  clear A30
  by_cases c4 : t988 = true
  · subst c4
    have H1 : ((impl_Big_signed.f a0_0 l0_1).bind fun bt989 => ((impl_Big_signed.f a1_0 l1_1).bind fun bt993 => ((impl_signed_minus.f bt993.1 bt993.2).bind fun bt997 => ((impl_signed_add.f k bt989.1 bt989.2 bt997.1 bt997.2).bind fun bt1001 => ((impl_big.f k bt1001.1 bt1001.2).bind fun bt1006 => (some (bt1006.1, bt1006.2.1, bt1006.2.2))))))) = some (r1, r2, r3) := by rw [if_pos rfl] at H; exact H
    clear H
    have H := H1
    clear H1
    replace H := Option.bind_eq_some_iff.mp H
    obtain ⟨⟨t989, t990⟩, A50, H⟩ := H
    replace H : ((impl_Big_signed.f a1_0 l1_1).bind fun bt993 => ((impl_signed_minus.f bt993.1 bt993.2).bind fun bt997 => ((impl_signed_add.f k t989 t990 bt997.1 bt997.2).bind fun bt1001 => ((impl_big.f k bt1001.1 bt1001.2).bind fun bt1006 => (some (bt1006.1, bt1006.2.1, bt1006.2.2)))))) = some (r1, r2, r3) := H
    have A5 := Aside0.mk A50
    clear A50
    replace H := Option.bind_eq_some_iff.mp H
    obtain ⟨⟨t993, t994⟩, A60, H⟩ := H
    replace H : ((impl_signed_minus.f t993 t994).bind fun bt997 => ((impl_signed_add.f k t989 t990 bt997.1 bt997.2).bind fun bt1001 => ((impl_big.f k bt1001.1 bt1001.2).bind fun bt1006 => (some (bt1006.1, bt1006.2.1, bt1006.2.2))))) = some (r1, r2, r3) := H
    have A6 := Aside0.mk A60
    clear A60
    replace H := Option.bind_eq_some_iff.mp H
    obtain ⟨⟨t997, t998⟩, A70, H⟩ := H
    replace H : ((impl_signed_add.f k t989 t990 t997 t998).bind fun bt1001 => ((impl_big.f k bt1001.1 bt1001.2).bind fun bt1006 => (some (bt1006.1, bt1006.2.1, bt1006.2.2)))) = some (r1, r2, r3) := H
    have A7 := Aside0.mk A70
    clear A70
    replace H := Option.bind_eq_some_iff.mp H
    obtain ⟨⟨t1001, t1002⟩, A80, H⟩ := H
    replace H : ((impl_big.f k t1001 t1002).bind fun bt1006 => (some (bt1006.1, bt1006.2.1, bt1006.2.2))) = some (r1, r2, r3) := H
    have A8 := Aside0.mk A80
    clear A80
    replace H := Option.bind_eq_some_iff.mp H
    obtain ⟨⟨t1006, t1007, t1010⟩, A90, H⟩ := H
    replace H : (some (t1006, t1007, t1010)) = some (r1, r2, r3) := H
    have A9 := Aside0.mk A90
    clear A90
    simp only [Option.some.injEq, Prod.mk.injEq] at H
    obtain ⟨rfl, rfl, rfl⟩ := H
    go_enter Try.func41, Try.ntmps41
    try go_wp2_with (first | ((with_reducible refine gate_dst (N := 2) rfl ?_); refine box_event ?hg (N := 2) ?hd (cs := #[.bool a0_0, .slice A0_1 l0_1.length c0_1]) (t := 27) ?hr ?_; (case hd => rfl); (case hg => rfl); (case hr => first | (go_simp; done) | (go_simp; rfl)); intro gb985 hg w10 hbox hb; have n0_ := Aside0.mk (Kd.V_below (Kd.V_elderB (zV HO0_1.out) gb985 (Nat.le_of_eq hg.symm)) hb); have n1_ := Aside0.mk (Kd.V_below (Kd.V_elderB (zV HO1_1.out) gb985 (Nat.le_of_eq hg.symm)) hb); have n2_ := Aside0.mk (below_step zb hb); have n3_ := Aside0.mk (hbox); have n4_ := Aside0.mk ((by rw [hg]; exact (below_size zb) : w.heap.size ≤ gb985)); have n5_ := Aside0.mk ((by rw [hg]; exact (below_size zb) : w.heap.size ≤ gb985)); clear HO0_1; clear HO1_1; clear HB; have HO0_1 := n0_; have HO1_1 := n1_; have HB := n2_; have BK985 := n3_; have GW985 := n4_; have GE985 := n5_; clear n0_ n1_ n2_ n3_ n4_ n5_; clear hb hbox hg) | ((with_reducible refine gate_dst (N := 3) rfl ?_); refine box_event ?hg (N := 3) ?hd (cs := #[.bool a1_0, .slice A1_1 l1_1.length c1_1]) (t := 27) ?hr ?_; (case hd => rfl); (case hg => rfl); (case hr => first | (go_simp; done) | (go_simp; rfl)); intro gb986 hg w11 hbox hb; have n0_ := Aside0.mk (Kd.V_below (Kd.V_elderB (zV HO0_1.out) gb986 (Nat.le_of_eq hg.symm)) hb); have n1_ := Aside0.mk (Kd.V_below (Kd.V_elderB (zV HO1_1.out) gb986 (Nat.le_of_eq hg.symm)) hb); have n2_ := Aside0.mk (blk_below (g := gb985) (o := .cells #[.bool a0_0, .slice A0_1 l0_1.length c0_1] 27 (0, 0)) (zk BK985.out) hb); have n3_ := Aside0.mk (below_step zb hb); have n4_ := Aside0.mk (hbox); have n5_ := Aside0.mk ((by rw [hg]; exact (below_size zb) : w.heap.size ≤ gb986)); have n6_ := Aside0.mk ((by rw [hg]; exact (below_size zb) : w.heap.size ≤ gb986)); have n7_ := Aside0.mk ((by rw [hg]; exact Nat.ne_of_lt (blk_lt (g := gb985) (o := .cells #[.bool a0_0, .slice A0_1 l0_1.length c0_1] 27 (0, 0)) (zk BK985.out)) : gb985 ≠ gb986)); have n8_ := Aside0.mk ((by rw [hg]; exact Nat.ne_of_gt (blk_lt (g := gb985) (o := .cells #[.bool a0_0, .slice A0_1 l0_1.length c0_1] 27 (0, 0)) (zk BK985.out)) : gb986 ≠ gb985)); clear HO0_1; clear HO1_1; clear BK985; clear HB; have HO0_1 := n0_; have HO1_1 := n1_; have BK985 := n2_; have HB := n3_; have BK986 := n4_; have GW986 := n5_; have GE986 := n6_; have NB985_986 := n7_; have NB986_985 := n8_; clear n0_ n1_ n2_ n3_ n4_ n5_ n6_ n7_ n8_; clear hb hbox hg) | ((with_reducible refine gate_dst (N := 4) rfl ?_); refine box_event ?hg (N := 4) ?hd (cs := #[.bool false, .slice none 0 0]) (t := 27) ?hr ?_; (case hd => rfl); (case hg => rfl); (case hr => first | (go_simp; done) | (go_simp; rfl)); intro gb987 hg w12 hbox hb; have n0_ := Aside0.mk (Kd.V_below (Kd.V_elderB (zV HO0_1.out) gb987 (Nat.le_of_eq hg.symm)) hb); have n1_ := Aside0.mk (Kd.V_below (Kd.V_elderB (zV HO1_1.out) gb987 (Nat.le_of_eq hg.symm)) hb); have n2_ := Aside0.mk (blk_below (g := gb985) (o := .cells #[.bool a0_0, .slice A0_1 l0_1.length c0_1] 27 (0, 0)) (zk BK985.out) hb); have n3_ := Aside0.mk (blk_below (g := gb986) (o := .cells #[.bool a1_0, .slice A1_1 l1_1.length c1_1] 27 (0, 0)) (zk BK986.out) hb); have n4_ := Aside0.mk (below_step zb hb); have n5_ := Aside0.mk (hbox); have n6_ := Aside0.mk ((by rw [hg]; exact (below_size zb) : w.heap.size ≤ gb987)); have n7_ := Aside0.mk ((by rw [hg]; exact (below_size zb) : w.heap.size ≤ gb987)); have n8_ := Aside0.mk ((by rw [hg]; exact Nat.ne_of_lt (blk_lt (g := gb985) (o := .cells #[.bool a0_0, .slice A0_1 l0_1.length c0_1] 27 (0, 0)) (zk BK985.out)) : gb985 ≠ gb987)); have n9_ := Aside0.mk ((by rw [hg]; exact Nat.ne_of_gt (blk_lt (g := gb985) (o := .cells #[.bool a0_0, .slice A0_1 l0_1.length c0_1] 27 (0, 0)) (zk BK985.out)) : gb987 ≠ gb985)); have n10_ := Aside0.mk ((by rw [hg]; exact Nat.ne_of_lt (blk_lt (g := gb986) (o := .cells #[.bool a1_0, .slice A1_1 l1_1.length c1_1] 27 (0, 0)) (zk BK986.out)) : gb986 ≠ gb987)); have n11_ := Aside0.mk ((by rw [hg]; exact Nat.ne_of_gt (blk_lt (g := gb986) (o := .cells #[.bool a1_0, .slice A1_1 l1_1.length c1_1] 27 (0, 0)) (zk BK986.out)) : gb987 ≠ gb986)); clear HO0_1; clear HO1_1; clear BK985; clear BK986; clear HB; have HO0_1 := n0_; have HO1_1 := n1_; have BK985 := n2_; have BK986 := n3_; have HB := n4_; have BK987 := n5_; have GW987 := n6_; have GE987 := n7_; have NB985_987 := n8_; have NB987_985 := n9_; have NB986_987 := n10_; have NB987_986 := n11_; clear n0_ n1_ n2_ n3_ n4_ n5_ n6_ n7_ n8_ n9_ n10_ n11_; clear hb hbox hg; have hnb13 := NB985_986.out; have hnc13 := NB986_985.out; have hnb14 := NB985_987.out; have hnc14 := NB987_985.out; have hcz15_0 : w12.cell? ⟨gb985, 0, none⟩ = some (.bool a0_0) := (blk_cell BK985.out 0).trans rfl; have hcz15_1 : w12.cell? ⟨gb985, 1, none⟩ = some (.slice A0_1 l0_1.length c0_1) := (blk_cell BK985.out 1).trans rfl; have hfz15_0 := blk_frozen BK985.out 0; have hfz15_1 := blk_frozen BK985.out 1; have hnb16 := NB986_987.out; have hnc16 := NB987_986.out; have hcz17_0 : w12.cell? ⟨gb986, 0, none⟩ = some (.bool a1_0) := (blk_cell BK986.out 0).trans rfl; have hcz17_1 : w12.cell? ⟨gb986, 1, none⟩ = some (.slice A1_1 l1_1.length c1_1) := (blk_cell BK986.out 1).trans rfl; have hfz17_0 := blk_frozen BK986.out 0; have hfz17_1 := blk_frozen BK986.out 1) | ((with_reducible refine gate_callee (f := 67) rfl ?_); refine goesL_ (some 9) rfl rfl Try.func67 (by kernel_rfl) rfl #[.agg #[.bool a0_0, .slice A0_1 l0_1.length c0_1], .agg #[.bool a1_0, .slice A1_1 l1_1.length c1_1]] rfl za ?_; (with_reducible refine (impl_bigs.calls a0_0 _ _ l0_1 a1_0 _ _ l1_1 true _ ?side1 ?side2 ?side3 ?side4 A3.out).mono ?_); (case side1 => repeat (first | exact (Kd.V_reads' HO0_1.out).2.2 | (with_reducible refine Kd.C_alloc ?_ _) | (with_reducible refine Kd.C_drewN ?_ _) | (with_reducible refine Kd.C_drew ?_))); (case side2 => exact (Kd.V_reads' HO0_1.out).2.1); (case side3 => repeat (first | exact (Kd.V_reads' HO1_1.out).2.2 | (with_reducible refine Kd.C_alloc ?_ _) | (with_reducible refine Kd.C_drewN ?_ _) | (with_reducible refine Kd.C_drew ?_))); (case side4 => exact (Kd.V_reads' HO1_1.out).2.1); rintro e w18 ⟨rfl, hb⟩; refine ⟨_, rfl, ?_⟩; have n0_ := Aside0.mk (Kd.V_below (zV HO0_1.out) hb); have n1_ := Aside0.mk (Kd.V_below (zV HO1_1.out) hb); have n2_ := Aside0.mk (blk_below (g := gb985) (o := .cells #[.bool a0_0, .slice A0_1 l0_1.length c0_1] 27 (0, 0)) (zk BK985.out) hb); have n3_ := Aside0.mk (blk_below (g := gb986) (o := .cells #[.bool a1_0, .slice A1_1 l1_1.length c1_1] 27 (0, 0)) (zk BK986.out) hb); have n4_ := Aside0.mk (blk_below (g := gb987) (o := .cells #[.bool false, .slice none 0 0] 27 (0, 0)) (zk BK987.out) hb); have n5_ := Aside0.mk (below_step zb hb); clear HO0_1; clear HO1_1; clear BK985; clear BK986; clear BK987; clear HB; have HO0_1 := n0_; have HO1_1 := n1_; have BK985 := n2_; have BK986 := n3_; have BK987 := n4_; have HB := n5_; clear n0_ n1_ n2_ n3_ n4_ n5_; (try clear hb); (try clear hb2); (try clear hk); (try clear hi)))
    have n0_ := Aside0.mk (Kd.V_drew HO0_1.out)
    have n1_ := Aside0.mk (Kd.V_drew HO1_1.out)
    have n2_ := Aside0.mk (blk_drew BK985.out)
    have n3_ := Aside0.mk (blk_drew BK986.out)
    have n4_ := Aside0.mk (blk_drew BK987.out)
    have n5_ := Aside0.mk (below_drew1 HB.out)
    clear HO0_1
    clear HO1_1
    clear BK985
    clear BK986
    clear BK987
    clear HB
    have HO0_1 := n0_
    have HO1_1 := n1_
    have BK985 := n2_
    have BK986 := n3_
    have BK987 := n4_
    have HB := n5_
    clear n0_ n1_ n2_ n3_ n4_ n5_
    refine start_ (n := 8) (S := fun w' => w'.cell? ⟨gb985, 0, none⟩ = some (.bool a0_0) ∧ w'.cell? ⟨gb985, 1, none⟩ = some (.slice A0_1 l0_1.length c0_1) ∧ w'.cell? ⟨gb986, 0, none⟩ = some (.bool a1_0) ∧ w'.cell? ⟨gb986, 1, none⟩ = some (.slice A1_1 l1_1.length c1_1)) (ds := []) #[false, false, false, false, false, false, false, false] (by kernel_rfl) rfl rfl ⟨(blk_cell BK985.out 0).trans rfl, (blk_cell BK985.out 1).trans rfl, (blk_cell BK986.out 0).trans rfl, (blk_cell BK986.out 1).trans rfl⟩ (fun hHeld => ?_); refine with_tabW impl_BigSub.tab3 impl_BigSub.bits3 (fun HT_ HW_ => ?_)
    generalize w18.drew = w19 at HO0_1 HO1_1 BK985 BK986 BK987 HB hHeld ⊢
    refine take_ (i := 0) (N := some 12) (v := ?_) (a' := ?_) #[true, false, false, false, false, false, false, false] rfl rfl (take_ofW HT_.out HW_.out (by kernel_rfl)) (fun _ _ _ h => h) (Or.inl ⟨by rfl, ?_⟩) hHeld ?_ ?_
    rotate_left
    · rintro w' ⟨s0, s1, s2, s3⟩
      go_simp
      with_reducible rfl
    rotate_left
    · simp only [Act.put, List.setIfInBounds_toArray, List.set_cons_zero, List.set_cons_succ, i64_w, i32_w]
      rfl
    refine take_ (i := 2) (N := some 14) (v := ?_) (a' := ?_) #[true, false, true, false, false, false, false, false] rfl rfl (take_ofW HT_.out HW_.out (by kernel_rfl)) (fun _ _ _ h => h) (Or.inl ⟨by rfl, ?_⟩) hHeld ?_ ?_
    rotate_left
    · rintro w' ⟨s0, s1, s2, s3⟩
      go_simp
      with_reducible rfl
    rotate_left
    · simp only [Act.put, List.setIfInBounds_toArray, List.set_cons_zero, List.set_cons_succ, i64_w, i32_w]
      rfl
    refine join_ (σ := Value × Value × Value × Value × Nat) 1 #[true, true, true, true, true, true, true, false] (fun s_ => [(13, .agg #[.bool t989, s_.1]), (15, .agg #[.bool t993, s_.2.1]), (16, .agg #[.bool t997, s_.2.2.1]), (17, .agg #[.bool t1001, s_.2.2.2.1]), (6, .pointer (some ⟨s_.2.2.2.2, 0, none⟩))]) (fun s_ w' => (w'.cell? ⟨gb985, 0, none⟩ = some (.bool a0_0) ∧ w'.cell? ⟨gb985, 1, none⟩ = some (.slice A0_1 l0_1.length c0_1) ∧ w'.cell? ⟨gb986, 0, none⟩ = some (.bool a1_0) ∧ w'.cell? ⟨gb986, 1, none⟩ = some (.slice A1_1 l1_1.length c1_1)) ∧ (Kd.V (Kd.int .i64) 3 w' w.heap.size (fun k_ => ((P0_1_ k_ ∨ P1_1_ k_) ∨ w.heap.size ≤ k_) ∧ k_ ≠ gb985 ∧ k_ ≠ gb986 ∧ k_ ≠ gb987 ∧ k_ ≠ s_.2.2.2.2) (.slice A0_1 l0_1.length c0_1) l0_1) ∧ (Kd.V (Kd.int .i64) 3 w' w.heap.size (fun k_ => ((P0_1_ k_ ∨ P1_1_ k_) ∨ w.heap.size ≤ k_) ∧ k_ ≠ gb985 ∧ k_ ≠ gb986 ∧ k_ ≠ gb987 ∧ k_ ≠ s_.2.2.2.2) s_.2.2.1 t998) ∧ (Kd.V (Kd.int .i64) 3 w' w.heap.size (fun k_ => ((P0_1_ k_ ∨ P1_1_ k_) ∨ w.heap.size ≤ k_) ∧ k_ ≠ gb985 ∧ k_ ≠ gb986 ∧ k_ ≠ gb987 ∧ k_ ≠ s_.2.2.2.2) s_.2.2.2.1 t1002) ∧ (Kd.V (Kd.int .i64) 3 w' w.heap.size (fun k_ => ((P0_1_ k_ ∨ P1_1_ k_) ∨ w.heap.size ≤ k_) ∧ k_ ≠ gb985 ∧ k_ ≠ gb986 ∧ k_ ≠ gb987 ∧ k_ ≠ s_.2.2.2.2) (.slice A1_1 l1_1.length c1_1) l1_1) ∧ (Kd.V (Kd.int .i64) 3 w' w.heap.size (fun k_ => ((P0_1_ k_ ∨ P1_1_ k_) ∨ w.heap.size ≤ k_) ∧ k_ ≠ gb985 ∧ k_ ≠ gb986 ∧ k_ ≠ gb987 ∧ k_ ≠ s_.2.2.2.2) s_.1 t990) ∧ (Kd.V (Kd.int .i64) 3 w' w.heap.size (fun k_ => ((P0_1_ k_ ∨ P1_1_ k_) ∨ w.heap.size ≤ k_) ∧ k_ ≠ gb985 ∧ k_ ≠ gb986 ∧ k_ ≠ gb987 ∧ k_ ≠ s_.2.2.2.2) s_.2.1 t994) ∧ (w'.heap[s_.2.2.2.2]? = some (.cells #[.bool false, .slice none 0 0] 64 (0, 0))) ∧ (w'.heap[gb985]? = some (.cells #[.bool a0_0, .slice A0_1 l0_1.length c0_1] 27 (0, 0))) ∧ (w'.heap[gb986]? = some (.cells #[.bool a1_0, .slice A1_1 l1_1.length c1_1] 27 (0, 0))) ∧ (w'.heap[gb987]? = some (.cells #[.bool false, .slice none 0 0] 27 (0, 0))) ∧ (w.heap.size ≤ s_.2.2.2.2) ∧ (w.heap.size ≤ s_.2.2.2.2) ∧ (gb985 ≠ s_.2.2.2.2) ∧ (s_.2.2.2.2 ≠ gb985) ∧ (gb986 ≠ s_.2.2.2.2) ∧ (s_.2.2.2.2 ≠ gb986) ∧ (gb987 ≠ s_.2.2.2.2) ∧ (s_.2.2.2.2 ≠ gb987) ∧ (Below w.heap.size w w')) ?_ ?_
    rotate_left
    · intro hJ1_3_4_5_6
      refine join_ (σ := Value × Value × Value × Value) 2 #[true, true, true, true, true, true, false, false] (fun s_ => [(13, .agg #[.bool t989, s_.1]), (15, .agg #[.bool t993, s_.2.1]), (16, .agg #[.bool t997, s_.2.2.1]), (17, .agg #[.bool t1001, s_.2.2.2])]) (fun s_ w' => (w'.cell? ⟨gb985, 0, none⟩ = some (.bool a0_0) ∧ w'.cell? ⟨gb985, 1, none⟩ = some (.slice A0_1 l0_1.length c0_1) ∧ w'.cell? ⟨gb986, 0, none⟩ = some (.bool a1_0) ∧ w'.cell? ⟨gb986, 1, none⟩ = some (.slice A1_1 l1_1.length c1_1)) ∧ (Kd.V (Kd.int .i64) 3 w' w.heap.size (fun k_ => ((P0_1_ k_ ∨ P1_1_ k_) ∨ w.heap.size ≤ k_) ∧ k_ ≠ gb985 ∧ k_ ≠ gb986 ∧ k_ ≠ gb987) (.slice A0_1 l0_1.length c0_1) l0_1) ∧ (Kd.V (Kd.int .i64) 3 w' w.heap.size (fun k_ => ((P0_1_ k_ ∨ P1_1_ k_) ∨ w.heap.size ≤ k_) ∧ k_ ≠ gb985 ∧ k_ ≠ gb986 ∧ k_ ≠ gb987) s_.2.2.1 t998) ∧ (Kd.V (Kd.int .i64) 3 w' w.heap.size (fun k_ => ((P0_1_ k_ ∨ P1_1_ k_) ∨ w.heap.size ≤ k_) ∧ k_ ≠ gb985 ∧ k_ ≠ gb986 ∧ k_ ≠ gb987) s_.2.2.2 t1002) ∧ (Kd.V (Kd.int .i64) 3 w' w.heap.size (fun k_ => ((P0_1_ k_ ∨ P1_1_ k_) ∨ w.heap.size ≤ k_) ∧ k_ ≠ gb985 ∧ k_ ≠ gb986 ∧ k_ ≠ gb987) (.slice A1_1 l1_1.length c1_1) l1_1) ∧ (Kd.V (Kd.int .i64) 3 w' w.heap.size (fun k_ => ((P0_1_ k_ ∨ P1_1_ k_) ∨ w.heap.size ≤ k_) ∧ k_ ≠ gb985 ∧ k_ ≠ gb986 ∧ k_ ≠ gb987) s_.1 t990) ∧ (Kd.V (Kd.int .i64) 3 w' w.heap.size (fun k_ => ((P0_1_ k_ ∨ P1_1_ k_) ∨ w.heap.size ≤ k_) ∧ k_ ≠ gb985 ∧ k_ ≠ gb986 ∧ k_ ≠ gb987) s_.2.1 t994) ∧ (w'.heap[gb985]? = some (.cells #[.bool a0_0, .slice A0_1 l0_1.length c0_1] 27 (0, 0))) ∧ (w'.heap[gb986]? = some (.cells #[.bool a1_0, .slice A1_1 l1_1.length c1_1] 27 (0, 0))) ∧ (w'.heap[gb987]? = some (.cells #[.bool false, .slice none 0 0] 27 (0, 0))) ∧ (Below w.heap.size w w')) ?_ ?_
      rotate_left
      · intro hJ1_3_4_5
        refine join_ (σ := Value × Value × Value × Nat) 2 #[true, true, true, true, true, false, true, false] (fun s_ => [(13, .agg #[.bool t989, s_.1]), (15, .agg #[.bool t993, s_.2.1]), (16, .agg #[.bool t997, s_.2.2.1]), (6, .pointer (some ⟨s_.2.2.2, 0, none⟩))]) (fun s_ w' => (w'.cell? ⟨gb985, 0, none⟩ = some (.bool a0_0) ∧ w'.cell? ⟨gb985, 1, none⟩ = some (.slice A0_1 l0_1.length c0_1) ∧ w'.cell? ⟨gb986, 0, none⟩ = some (.bool a1_0) ∧ w'.cell? ⟨gb986, 1, none⟩ = some (.slice A1_1 l1_1.length c1_1)) ∧ (Kd.V (Kd.int .i64) 3 w' w.heap.size (fun k_ => ((P0_1_ k_ ∨ P1_1_ k_) ∨ w.heap.size ≤ k_) ∧ k_ ≠ gb985 ∧ k_ ≠ gb986 ∧ k_ ≠ gb987 ∧ k_ ≠ s_.2.2.2) (.slice A0_1 l0_1.length c0_1) l0_1) ∧ (Kd.V (Kd.int .i64) 3 w' w.heap.size (fun k_ => ((P0_1_ k_ ∨ P1_1_ k_) ∨ w.heap.size ≤ k_) ∧ k_ ≠ gb985 ∧ k_ ≠ gb986 ∧ k_ ≠ gb987 ∧ k_ ≠ s_.2.2.2) s_.2.2.1 t998) ∧ (Kd.V (Kd.int .i64) 3 w' w.heap.size (fun k_ => ((P0_1_ k_ ∨ P1_1_ k_) ∨ w.heap.size ≤ k_) ∧ k_ ≠ gb985 ∧ k_ ≠ gb986 ∧ k_ ≠ gb987 ∧ k_ ≠ s_.2.2.2) (.slice A1_1 l1_1.length c1_1) l1_1) ∧ (Kd.V (Kd.int .i64) 3 w' w.heap.size (fun k_ => ((P0_1_ k_ ∨ P1_1_ k_) ∨ w.heap.size ≤ k_) ∧ k_ ≠ gb985 ∧ k_ ≠ gb986 ∧ k_ ≠ gb987 ∧ k_ ≠ s_.2.2.2) s_.1 t990) ∧ (Kd.V (Kd.int .i64) 3 w' w.heap.size (fun k_ => ((P0_1_ k_ ∨ P1_1_ k_) ∨ w.heap.size ≤ k_) ∧ k_ ≠ gb985 ∧ k_ ≠ gb986 ∧ k_ ≠ gb987 ∧ k_ ≠ s_.2.2.2) s_.2.1 t994) ∧ (w'.heap[s_.2.2.2]? = some (.cells #[.bool false, .slice none 0 0] 64 (0, 0))) ∧ (w'.heap[gb985]? = some (.cells #[.bool a0_0, .slice A0_1 l0_1.length c0_1] 27 (0, 0))) ∧ (w'.heap[gb986]? = some (.cells #[.bool a1_0, .slice A1_1 l1_1.length c1_1] 27 (0, 0))) ∧ (w'.heap[gb987]? = some (.cells #[.bool false, .slice none 0 0] 27 (0, 0))) ∧ (w.heap.size ≤ s_.2.2.2) ∧ (w.heap.size ≤ s_.2.2.2) ∧ (gb985 ≠ s_.2.2.2) ∧ (s_.2.2.2 ≠ gb985) ∧ (gb986 ≠ s_.2.2.2) ∧ (s_.2.2.2 ≠ gb986) ∧ (gb987 ≠ s_.2.2.2) ∧ (s_.2.2.2 ≠ gb987) ∧ (Below w.heap.size w w')) ?_ ?_
        rotate_left
        · intro hJ1_3_4_6
          refine join_ (σ := Value × Value × Value) 3 #[true, true, true, true, true, false, false, false] (fun s_ => [(13, .agg #[.bool t989, s_.1]), (15, .agg #[.bool t993, s_.2.1]), (16, .agg #[.bool t997, s_.2.2])]) (fun s_ w' => (w'.cell? ⟨gb985, 0, none⟩ = some (.bool a0_0) ∧ w'.cell? ⟨gb985, 1, none⟩ = some (.slice A0_1 l0_1.length c0_1) ∧ w'.cell? ⟨gb986, 0, none⟩ = some (.bool a1_0) ∧ w'.cell? ⟨gb986, 1, none⟩ = some (.slice A1_1 l1_1.length c1_1)) ∧ (Kd.V (Kd.int .i64) 3 w' w.heap.size (fun k_ => ((P0_1_ k_ ∨ P1_1_ k_) ∨ w.heap.size ≤ k_) ∧ k_ ≠ gb985 ∧ k_ ≠ gb986 ∧ k_ ≠ gb987) (.slice A0_1 l0_1.length c0_1) l0_1) ∧ (Kd.V (Kd.int .i64) 3 w' w.heap.size (fun k_ => ((P0_1_ k_ ∨ P1_1_ k_) ∨ w.heap.size ≤ k_) ∧ k_ ≠ gb985 ∧ k_ ≠ gb986 ∧ k_ ≠ gb987) s_.2.2 t998) ∧ (Kd.V (Kd.int .i64) 3 w' w.heap.size (fun k_ => ((P0_1_ k_ ∨ P1_1_ k_) ∨ w.heap.size ≤ k_) ∧ k_ ≠ gb985 ∧ k_ ≠ gb986 ∧ k_ ≠ gb987) (.slice A1_1 l1_1.length c1_1) l1_1) ∧ (Kd.V (Kd.int .i64) 3 w' w.heap.size (fun k_ => ((P0_1_ k_ ∨ P1_1_ k_) ∨ w.heap.size ≤ k_) ∧ k_ ≠ gb985 ∧ k_ ≠ gb986 ∧ k_ ≠ gb987) s_.1 t990) ∧ (Kd.V (Kd.int .i64) 3 w' w.heap.size (fun k_ => ((P0_1_ k_ ∨ P1_1_ k_) ∨ w.heap.size ≤ k_) ∧ k_ ≠ gb985 ∧ k_ ≠ gb986 ∧ k_ ≠ gb987) s_.2.1 t994) ∧ (w'.heap[gb985]? = some (.cells #[.bool a0_0, .slice A0_1 l0_1.length c0_1] 27 (0, 0))) ∧ (w'.heap[gb986]? = some (.cells #[.bool a1_0, .slice A1_1 l1_1.length c1_1] 27 (0, 0))) ∧ (w'.heap[gb987]? = some (.cells #[.bool false, .slice none 0 0] 27 (0, 0))) ∧ (Below w.heap.size w w')) ?_ ?_
          rotate_left
          · intro hJ1_3_4
            refine join_ (σ := Value × Value × Nat) 3 #[true, true, true, true, false, false, true, false] (fun s_ => [(13, .agg #[.bool t989, s_.1]), (15, .agg #[.bool t993, s_.2.1]), (6, .pointer (some ⟨s_.2.2, 0, none⟩))]) (fun s_ w' => (w'.cell? ⟨gb985, 0, none⟩ = some (.bool a0_0) ∧ w'.cell? ⟨gb985, 1, none⟩ = some (.slice A0_1 l0_1.length c0_1) ∧ w'.cell? ⟨gb986, 0, none⟩ = some (.bool a1_0) ∧ w'.cell? ⟨gb986, 1, none⟩ = some (.slice A1_1 l1_1.length c1_1)) ∧ (Kd.V (Kd.int .i64) 3 w' w.heap.size (fun k_ => ((P0_1_ k_ ∨ P1_1_ k_) ∨ w.heap.size ≤ k_) ∧ k_ ≠ gb985 ∧ k_ ≠ gb986 ∧ k_ ≠ gb987 ∧ k_ ≠ s_.2.2) (.slice A0_1 l0_1.length c0_1) l0_1) ∧ (Kd.V (Kd.int .i64) 3 w' w.heap.size (fun k_ => ((P0_1_ k_ ∨ P1_1_ k_) ∨ w.heap.size ≤ k_) ∧ k_ ≠ gb985 ∧ k_ ≠ gb986 ∧ k_ ≠ gb987 ∧ k_ ≠ s_.2.2) (.slice A1_1 l1_1.length c1_1) l1_1) ∧ (Kd.V (Kd.int .i64) 3 w' w.heap.size (fun k_ => ((P0_1_ k_ ∨ P1_1_ k_) ∨ w.heap.size ≤ k_) ∧ k_ ≠ gb985 ∧ k_ ≠ gb986 ∧ k_ ≠ gb987 ∧ k_ ≠ s_.2.2) s_.1 t990) ∧ (Kd.V (Kd.int .i64) 3 w' w.heap.size (fun k_ => ((P0_1_ k_ ∨ P1_1_ k_) ∨ w.heap.size ≤ k_) ∧ k_ ≠ gb985 ∧ k_ ≠ gb986 ∧ k_ ≠ gb987 ∧ k_ ≠ s_.2.2) s_.2.1 t994) ∧ (w'.heap[s_.2.2]? = some (.cells #[.bool false, .slice none 0 0] 64 (0, 0))) ∧ (w'.heap[gb985]? = some (.cells #[.bool a0_0, .slice A0_1 l0_1.length c0_1] 27 (0, 0))) ∧ (w'.heap[gb986]? = some (.cells #[.bool a1_0, .slice A1_1 l1_1.length c1_1] 27 (0, 0))) ∧ (w'.heap[gb987]? = some (.cells #[.bool false, .slice none 0 0] 27 (0, 0))) ∧ (w.heap.size ≤ s_.2.2) ∧ (w.heap.size ≤ s_.2.2) ∧ (gb985 ≠ s_.2.2) ∧ (s_.2.2 ≠ gb985) ∧ (gb986 ≠ s_.2.2) ∧ (s_.2.2 ≠ gb986) ∧ (gb987 ≠ s_.2.2) ∧ (s_.2.2 ≠ gb987) ∧ (Below w.heap.size w w')) ?_ ?_
            rotate_left
            · intro hJ1_3_6
              refine join_ (σ := Value × Value) 4 #[true, true, true, true, false, false, false, false] (fun s_ => [(13, .agg #[.bool t989, s_.1]), (15, .agg #[.bool t993, s_.2])]) (fun s_ w' => (w'.cell? ⟨gb985, 0, none⟩ = some (.bool a0_0) ∧ w'.cell? ⟨gb985, 1, none⟩ = some (.slice A0_1 l0_1.length c0_1) ∧ w'.cell? ⟨gb986, 0, none⟩ = some (.bool a1_0) ∧ w'.cell? ⟨gb986, 1, none⟩ = some (.slice A1_1 l1_1.length c1_1)) ∧ (Kd.V (Kd.int .i64) 3 w' w.heap.size (fun k_ => ((P0_1_ k_ ∨ P1_1_ k_) ∨ w.heap.size ≤ k_) ∧ k_ ≠ gb985 ∧ k_ ≠ gb986 ∧ k_ ≠ gb987) (.slice A0_1 l0_1.length c0_1) l0_1) ∧ (Kd.V (Kd.int .i64) 3 w' w.heap.size (fun k_ => ((P0_1_ k_ ∨ P1_1_ k_) ∨ w.heap.size ≤ k_) ∧ k_ ≠ gb985 ∧ k_ ≠ gb986 ∧ k_ ≠ gb987) (.slice A1_1 l1_1.length c1_1) l1_1) ∧ (Kd.V (Kd.int .i64) 3 w' w.heap.size (fun k_ => ((P0_1_ k_ ∨ P1_1_ k_) ∨ w.heap.size ≤ k_) ∧ k_ ≠ gb985 ∧ k_ ≠ gb986 ∧ k_ ≠ gb987) s_.1 t990) ∧ (Kd.V (Kd.int .i64) 3 w' w.heap.size (fun k_ => ((P0_1_ k_ ∨ P1_1_ k_) ∨ w.heap.size ≤ k_) ∧ k_ ≠ gb985 ∧ k_ ≠ gb986 ∧ k_ ≠ gb987) s_.2 t994) ∧ (w'.heap[gb985]? = some (.cells #[.bool a0_0, .slice A0_1 l0_1.length c0_1] 27 (0, 0))) ∧ (w'.heap[gb986]? = some (.cells #[.bool a1_0, .slice A1_1 l1_1.length c1_1] 27 (0, 0))) ∧ (w'.heap[gb987]? = some (.cells #[.bool false, .slice none 0 0] 27 (0, 0))) ∧ (Below w.heap.size w w')) ?_ ?_
              rotate_left
              · intro hJ1_3
                refine join_ (σ := Value × Nat) 4 #[true, true, true, false, false, false, true, false] (fun s_ => [(13, .agg #[.bool t989, s_.1]), (6, .pointer (some ⟨s_.2, 0, none⟩))]) (fun s_ w' => (w'.cell? ⟨gb985, 0, none⟩ = some (.bool a0_0) ∧ w'.cell? ⟨gb985, 1, none⟩ = some (.slice A0_1 l0_1.length c0_1) ∧ w'.cell? ⟨gb986, 0, none⟩ = some (.bool a1_0) ∧ w'.cell? ⟨gb986, 1, none⟩ = some (.slice A1_1 l1_1.length c1_1)) ∧ (Kd.V (Kd.int .i64) 3 w' w.heap.size (fun k_ => ((P0_1_ k_ ∨ P1_1_ k_) ∨ w.heap.size ≤ k_) ∧ k_ ≠ gb985 ∧ k_ ≠ gb986 ∧ k_ ≠ gb987 ∧ k_ ≠ s_.2) (.slice A0_1 l0_1.length c0_1) l0_1) ∧ (Kd.V (Kd.int .i64) 3 w' w.heap.size (fun k_ => ((P0_1_ k_ ∨ P1_1_ k_) ∨ w.heap.size ≤ k_) ∧ k_ ≠ gb985 ∧ k_ ≠ gb986 ∧ k_ ≠ gb987 ∧ k_ ≠ s_.2) (.slice A1_1 l1_1.length c1_1) l1_1) ∧ (Kd.V (Kd.int .i64) 3 w' w.heap.size (fun k_ => ((P0_1_ k_ ∨ P1_1_ k_) ∨ w.heap.size ≤ k_) ∧ k_ ≠ gb985 ∧ k_ ≠ gb986 ∧ k_ ≠ gb987 ∧ k_ ≠ s_.2) s_.1 t990) ∧ (w'.heap[s_.2]? = some (.cells #[.bool false, .slice none 0 0] 64 (0, 0))) ∧ (w'.heap[gb985]? = some (.cells #[.bool a0_0, .slice A0_1 l0_1.length c0_1] 27 (0, 0))) ∧ (w'.heap[gb986]? = some (.cells #[.bool a1_0, .slice A1_1 l1_1.length c1_1] 27 (0, 0))) ∧ (w'.heap[gb987]? = some (.cells #[.bool false, .slice none 0 0] 27 (0, 0))) ∧ (w.heap.size ≤ s_.2) ∧ (w.heap.size ≤ s_.2) ∧ (gb985 ≠ s_.2) ∧ (s_.2 ≠ gb985) ∧ (gb986 ≠ s_.2) ∧ (s_.2 ≠ gb986) ∧ (gb987 ≠ s_.2) ∧ (s_.2 ≠ gb987) ∧ (Below w.heap.size w w')) ?_ ?_
                rotate_left
                · intro hJ1_6
                  refine join_ (σ := Value) 5 #[true, true, true, false, false, false, false, false] (fun s_ => [(13, .agg #[.bool t989, s_])]) (fun s_ w' => (w'.cell? ⟨gb985, 0, none⟩ = some (.bool a0_0) ∧ w'.cell? ⟨gb985, 1, none⟩ = some (.slice A0_1 l0_1.length c0_1) ∧ w'.cell? ⟨gb986, 0, none⟩ = some (.bool a1_0) ∧ w'.cell? ⟨gb986, 1, none⟩ = some (.slice A1_1 l1_1.length c1_1)) ∧ (Kd.V (Kd.int .i64) 3 w' w.heap.size (fun k_ => ((P0_1_ k_ ∨ P1_1_ k_) ∨ w.heap.size ≤ k_) ∧ k_ ≠ gb985 ∧ k_ ≠ gb986 ∧ k_ ≠ gb987) (.slice A0_1 l0_1.length c0_1) l0_1) ∧ (Kd.V (Kd.int .i64) 3 w' w.heap.size (fun k_ => ((P0_1_ k_ ∨ P1_1_ k_) ∨ w.heap.size ≤ k_) ∧ k_ ≠ gb985 ∧ k_ ≠ gb986 ∧ k_ ≠ gb987) (.slice A1_1 l1_1.length c1_1) l1_1) ∧ (Kd.V (Kd.int .i64) 3 w' w.heap.size (fun k_ => ((P0_1_ k_ ∨ P1_1_ k_) ∨ w.heap.size ≤ k_) ∧ k_ ≠ gb985 ∧ k_ ≠ gb986 ∧ k_ ≠ gb987) s_ t990) ∧ (w'.heap[gb985]? = some (.cells #[.bool a0_0, .slice A0_1 l0_1.length c0_1] 27 (0, 0))) ∧ (w'.heap[gb986]? = some (.cells #[.bool a1_0, .slice A1_1 l1_1.length c1_1] 27 (0, 0))) ∧ (w'.heap[gb987]? = some (.cells #[.bool false, .slice none 0 0] 27 (0, 0))) ∧ (Below w.heap.size w w')) ?_ ?_
                  rotate_left
                  · intro hJ1
                    refine join_ (σ := Nat) 5 #[true, false, true, false, false, false, true, false] (fun s_ => [(6, .pointer (some ⟨s_, 0, none⟩))]) (fun s_ w' => (w'.cell? ⟨gb985, 0, none⟩ = some (.bool a0_0) ∧ w'.cell? ⟨gb985, 1, none⟩ = some (.slice A0_1 l0_1.length c0_1) ∧ w'.cell? ⟨gb986, 0, none⟩ = some (.bool a1_0) ∧ w'.cell? ⟨gb986, 1, none⟩ = some (.slice A1_1 l1_1.length c1_1)) ∧ (Kd.V (Kd.int .i64) 3 w' w.heap.size (fun k_ => ((P0_1_ k_ ∨ P1_1_ k_) ∨ w.heap.size ≤ k_) ∧ k_ ≠ gb985 ∧ k_ ≠ gb986 ∧ k_ ≠ gb987 ∧ k_ ≠ s_) (.slice A0_1 l0_1.length c0_1) l0_1) ∧ (Kd.V (Kd.int .i64) 3 w' w.heap.size (fun k_ => ((P0_1_ k_ ∨ P1_1_ k_) ∨ w.heap.size ≤ k_) ∧ k_ ≠ gb985 ∧ k_ ≠ gb986 ∧ k_ ≠ gb987 ∧ k_ ≠ s_) (.slice A1_1 l1_1.length c1_1) l1_1) ∧ (w'.heap[s_]? = some (.cells #[.bool false, .slice none 0 0] 64 (0, 0))) ∧ (w'.heap[gb985]? = some (.cells #[.bool a0_0, .slice A0_1 l0_1.length c0_1] 27 (0, 0))) ∧ (w'.heap[gb986]? = some (.cells #[.bool a1_0, .slice A1_1 l1_1.length c1_1] 27 (0, 0))) ∧ (w'.heap[gb987]? = some (.cells #[.bool false, .slice none 0 0] 27 (0, 0))) ∧ (w.heap.size ≤ s_) ∧ (w.heap.size ≤ s_) ∧ (gb985 ≠ s_) ∧ (s_ ≠ gb985) ∧ (gb986 ≠ s_) ∧ (s_ ≠ gb986) ∧ (gb987 ≠ s_) ∧ (s_ ≠ gb987) ∧ (Below w.heap.size w w')) ?_ ?_
                    rotate_left
                    · intro hJ6
                      refine two_ (i := 1) (j := 6) (Ni := some 13) (Nj := some 6) #[true, true, true, false, false, false, false, false] #[true, false, true, false, false, false, true, false] rfl rfl rfl rfl (two_of HT_.out (by kernel_rfl)) (by decide) (by decide) (fun K hK => ?_) (fun K hK => ?_)
                      · skip
                        refine goes_ Try.func68 (by kernel_rfl) rfl #[.agg #[.bool a0_0, .slice A0_1 l0_1.length c0_1]] (by rfl) rfl rfl za ?_
                        with_reducible refine (impl_Big_signed.calls a0_0 (fun k_ => (((((P0_1_ k_ ∨ P1_1_ k_) ∨ w.heap.size ≤ k_) ∧ k_ ≠ gb985) ∧ k_ ≠ gb986) ∧ k_ ≠ gb987)) _ _ l0_1 t989 t990 _ ?side1 A5.out).mono ?_
                        (case side1 => exact HO0_1.out)
                        rintro e w20 ⟨v991, rfl, ho0, hb⟩
                        refine ⟨_, rfl, ?_⟩
                        have n0_ := Aside0.mk (Kd.V_below (zV HO0_1.out) hb)
                        have n1_ := Aside0.mk (Kd.V_below (zV HO1_1.out) hb)
                        have n2_ := Aside0.mk (Kd.V_lower (Kd.V_mono (ok' := fun k_ => ((P0_1_ k_ ∨ P1_1_ k_) ∨ w.heap.size ≤ k_) ∧ k_ ≠ gb985 ∧ k_ ≠ gb986 ∧ k_ ≠ gb987) ho0 (fun k_ hk_ => ⟨Or.elim hk_ (fun hs_ => hs_.1.1.1) (fun hn_ => (.inr (Nat.le_trans (below_size zb) hn_))), Or.elim hk_ (fun hs_ => hs_.1.1.2) (fun hn_ => (Kd.freshB (g := gb985) (o := .cells #[.bool a0_0, .slice A0_1 l0_1.length c0_1] 27 (0, 0)) (zk BK985.out) k_ hn_)), Or.elim hk_ (fun hs_ => hs_.1.2) (fun hn_ => (Kd.freshB (g := gb986) (o := .cells #[.bool a1_0, .slice A1_1 l1_1.length c1_1] 27 (0, 0)) (zk BK986.out) k_ hn_)), Or.elim hk_ (fun hs_ => hs_.2) (fun hn_ => (Kd.freshB (g := gb987) (o := .cells #[.bool false, .slice none 0 0] 27 (0, 0)) (zk BK987.out) k_ hn_))⟩)) (below_size zb))
                        have n3_ := Aside0.mk (blk_below (g := gb985) (o := .cells #[.bool a0_0, .slice A0_1 l0_1.length c0_1] 27 (0, 0)) (zk BK985.out) hb)
                        have n4_ := Aside0.mk (blk_below (g := gb986) (o := .cells #[.bool a1_0, .slice A1_1 l1_1.length c1_1] 27 (0, 0)) (zk BK986.out) hb)
                        have n5_ := Aside0.mk (blk_below (g := gb987) (o := .cells #[.bool false, .slice none 0 0] 27 (0, 0)) (zk BK987.out) hb)
                        have n6_ := Aside0.mk (below_step zb hb)
                        clear HO0_1
                        clear HO1_1
                        clear BK985
                        clear BK986
                        clear BK987
                        clear HB
                        have HO0_1 := n0_
                        have HO1_1 := n1_
                        have HO992 := n2_
                        have BK985 := n3_
                        have BK986 := n4_
                        have BK987 := n5_
                        have HB := n6_
                        clear n0_ n1_ n2_ n3_ n4_ n5_ n6_
                        (try clear hb)
                        (try clear hb2)
                        (try clear hk)
                        (try clear hi)
                        (try clear ho0)
                        refine hK.out _ _ ⟨(blk_cell BK985.out 0).trans rfl, (blk_cell BK985.out 1).trans rfl, (blk_cell BK986.out 0).trans rfl, (blk_cell BK986.out 1).trans rfl⟩ (fun hHeld => ?_)
                        clear hK K
                        refine norm_ (a' := ?_) ?_ ?_
                        rotate_left
                        · show Act.put _ (some 13) _ = _
                          simp only [Act.put, List.setIfInBounds_toArray, List.set_cons_zero, List.set_cons_succ, i64_w, i32_w]
                          rfl
                        exact norm_ (by first | (simp only [putAll, Act.put, List.setIfInBounds_toArray, List.set_cons_zero, List.set_cons_succ]; done) | (simp only [putAll, Act.put, List.setIfInBounds_toArray, List.set_cons_zero, List.set_cons_succ]; rfl)) (hJ1 (v991) _ ⟨hHeld, (by (with_reducible repeat (first | apply Kd.V_alloc | apply Kd.V_drewN | apply Kd.V_drew)); exact Kd.V_mono HO0_1.out (fun _ hk => ⟨hk.1.1.1, ⟨hk.1.1.2, ⟨hk.1.2, hk.2⟩⟩⟩)), (by (with_reducible repeat (first | apply Kd.V_alloc | apply Kd.V_drewN | apply Kd.V_drew)); exact Kd.V_mono HO1_1.out (fun _ hk => ⟨hk.1.1.1, ⟨hk.1.1.2, ⟨hk.1.2, hk.2⟩⟩⟩)), (zV HO992.out), (zk BK985.out), (zk BK986.out), (zk BK987.out), zb⟩)
                      · skip
                        refine box_step ?hg (N := 6) ?hd (cs := #[.bool false, .slice none 0 0]) (t := 64) ?hr ?_; (case hd => rfl); (case hg => rfl); (case hr => first | (go_simp; done) | (go_simp; rfl))
                        intro gb1005 hg w20 hbox hb
                        have n0_ := Aside0.mk (Kd.V_below (Kd.V_elderB (zV HO0_1.out) gb1005 (Nat.le_of_eq hg.symm)) hb)
                        have n1_ := Aside0.mk (Kd.V_below (Kd.V_elderB (zV HO1_1.out) gb1005 (Nat.le_of_eq hg.symm)) hb)
                        have n2_ := Aside0.mk (blk_below (g := gb985) (o := .cells #[.bool a0_0, .slice A0_1 l0_1.length c0_1] 27 (0, 0)) (zk BK985.out) hb)
                        have n3_ := Aside0.mk (blk_below (g := gb986) (o := .cells #[.bool a1_0, .slice A1_1 l1_1.length c1_1] 27 (0, 0)) (zk BK986.out) hb)
                        have n4_ := Aside0.mk (blk_below (g := gb987) (o := .cells #[.bool false, .slice none 0 0] 27 (0, 0)) (zk BK987.out) hb)
                        have n5_ := Aside0.mk (below_step zb hb)
                        have n6_ := Aside0.mk (hbox)
                        have n7_ := Aside0.mk ((by rw [hg]; exact (below_size zb) : w.heap.size ≤ gb1005))
                        have n8_ := Aside0.mk ((by rw [hg]; exact (below_size zb) : w.heap.size ≤ gb1005))
                        have n9_ := Aside0.mk ((by rw [hg]; exact Nat.ne_of_lt (blk_lt (g := gb985) (o := .cells #[.bool a0_0, .slice A0_1 l0_1.length c0_1] 27 (0, 0)) (zk BK985.out)) : gb985 ≠ gb1005))
                        have n10_ := Aside0.mk ((by rw [hg]; exact Nat.ne_of_gt (blk_lt (g := gb985) (o := .cells #[.bool a0_0, .slice A0_1 l0_1.length c0_1] 27 (0, 0)) (zk BK985.out)) : gb1005 ≠ gb985))
                        have n11_ := Aside0.mk ((by rw [hg]; exact Nat.ne_of_lt (blk_lt (g := gb986) (o := .cells #[.bool a1_0, .slice A1_1 l1_1.length c1_1] 27 (0, 0)) (zk BK986.out)) : gb986 ≠ gb1005))
                        have n12_ := Aside0.mk ((by rw [hg]; exact Nat.ne_of_gt (blk_lt (g := gb986) (o := .cells #[.bool a1_0, .slice A1_1 l1_1.length c1_1] 27 (0, 0)) (zk BK986.out)) : gb1005 ≠ gb986))
                        have n13_ := Aside0.mk ((by rw [hg]; exact Nat.ne_of_lt (blk_lt (g := gb987) (o := .cells #[.bool false, .slice none 0 0] 27 (0, 0)) (zk BK987.out)) : gb987 ≠ gb1005))
                        have n14_ := Aside0.mk ((by rw [hg]; exact Nat.ne_of_gt (blk_lt (g := gb987) (o := .cells #[.bool false, .slice none 0 0] 27 (0, 0)) (zk BK987.out)) : gb1005 ≠ gb987))
                        clear HO0_1
                        clear HO1_1
                        clear BK985
                        clear BK986
                        clear BK987
                        clear HB
                        have HO0_1 := n0_
                        have HO1_1 := n1_
                        have BK985 := n2_
                        have BK986 := n3_
                        have BK987 := n4_
                        have HB := n5_
                        have BK1005 := n6_
                        have GW1005 := n7_
                        have GE1005 := n8_
                        have NB985_1005 := n9_
                        have NB1005_985 := n10_
                        have NB986_1005 := n11_
                        have NB1005_986 := n12_
                        have NB987_1005 := n13_
                        have NB1005_987 := n14_
                        clear n0_ n1_ n2_ n3_ n4_ n5_ n6_ n7_ n8_ n9_ n10_ n11_ n12_ n13_ n14_
                        clear hb hbox hg
                        refine hK.out _ _ ⟨(blk_cell BK985.out 0).trans rfl, (blk_cell BK985.out 1).trans rfl, (blk_cell BK986.out 0).trans rfl, (blk_cell BK986.out 1).trans rfl⟩ (fun hHeld => ?_)
                        clear hK K
                        refine norm_ (a' := ?_) ?_ ?_
                        rotate_left
                        · show Act.put _ (some 6) _ = _
                          simp only [Act.put, List.setIfInBounds_toArray, List.set_cons_zero, List.set_cons_succ, i64_w, i32_w]
                          rfl
                        exact norm_ (by first | (simp only [putAll, Act.put, List.setIfInBounds_toArray, List.set_cons_zero, List.set_cons_succ]; done) | (simp only [putAll, Act.put, List.setIfInBounds_toArray, List.set_cons_zero, List.set_cons_succ]; rfl)) (hJ6 (gb1005) _ ⟨hHeld, (by (with_reducible repeat (first | apply Kd.V_alloc | apply Kd.V_drewN | apply Kd.V_drew)); exact Kd.V_mono HO0_1.out (fun _ hk => ⟨hk.1.1.1.1, ⟨hk.1.1.1.2, ⟨hk.1.1.2, ⟨hk.1.2, hk.2⟩⟩⟩⟩)), (by (with_reducible repeat (first | apply Kd.V_alloc | apply Kd.V_drewN | apply Kd.V_drew)); exact Kd.V_mono HO1_1.out (fun _ hk => ⟨hk.1.1.1.1, ⟨hk.1.1.1.2, ⟨hk.1.1.2, ⟨hk.1.2, hk.2⟩⟩⟩⟩)), (zk BK1005.out), (zk BK985.out), (zk BK986.out), (zk BK987.out), GW1005.out, GE1005.out, NB985_1005.out, NB1005_985.out, NB986_1005.out, NB1005_986.out, NB987_1005.out, NB1005_987.out, zb⟩)
                    · skip
                      rintro gb1005 w21 ⟨hS_, h0_, h1_, h2_, h3_, h4_, h5_, h6_, h7_, h8_, h9_, h10_, h11_, h12_, h13_, h14_⟩
                      have n0_ : Aside0 (Kd.V (Kd.int .i64) 3 w21 w.heap.size (fun k_ => ((P0_1_ k_ ∨ P1_1_ k_) ∨ w.heap.size ≤ k_) ∧ k_ ≠ gb985 ∧ k_ ≠ gb986 ∧ k_ ≠ gb987 ∧ k_ ≠ gb1005) (.slice A0_1 l0_1.length c0_1) l0_1) := ⟨h0_⟩
                      have n1_ : Aside0 (Kd.V (Kd.int .i64) 3 w21 w.heap.size (fun k_ => ((P0_1_ k_ ∨ P1_1_ k_) ∨ w.heap.size ≤ k_) ∧ k_ ≠ gb985 ∧ k_ ≠ gb986 ∧ k_ ≠ gb987 ∧ k_ ≠ gb1005) (.slice A1_1 l1_1.length c1_1) l1_1) := ⟨h1_⟩
                      have n2_ : Aside0 (w21.heap[gb1005]? = some (.cells #[.bool false, .slice none 0 0] 64 (0, 0))) := ⟨h2_⟩
                      have n3_ : Aside0 (w21.heap[gb985]? = some (.cells #[.bool a0_0, .slice A0_1 l0_1.length c0_1] 27 (0, 0))) := ⟨h3_⟩
                      have n4_ : Aside0 (w21.heap[gb986]? = some (.cells #[.bool a1_0, .slice A1_1 l1_1.length c1_1] 27 (0, 0))) := ⟨h4_⟩
                      have n5_ : Aside0 (w21.heap[gb987]? = some (.cells #[.bool false, .slice none 0 0] 27 (0, 0))) := ⟨h5_⟩
                      have n6_ : Aside0 (w.heap.size ≤ gb1005) := ⟨h6_⟩
                      have n7_ : Aside0 (w.heap.size ≤ gb1005) := ⟨h7_⟩
                      have n8_ : Aside0 (gb985 ≠ gb1005) := ⟨h8_⟩
                      have n9_ : Aside0 (gb1005 ≠ gb985) := ⟨h9_⟩
                      have n10_ : Aside0 (gb986 ≠ gb1005) := ⟨h10_⟩
                      have n11_ : Aside0 (gb1005 ≠ gb986) := ⟨h11_⟩
                      have n12_ : Aside0 (gb987 ≠ gb1005) := ⟨h12_⟩
                      have n13_ : Aside0 (gb1005 ≠ gb987) := ⟨h13_⟩
                      have n14_ : Aside0 (Below w.heap.size w w21) := ⟨h14_⟩
                      clear HO0_1
                      clear HO1_1
                      clear BK985
                      clear BK986
                      clear BK987
                      clear HB
                      clear h0_ h1_ h2_ h3_ h4_ h5_ h6_ h7_ h8_ h9_ h10_ h11_ h12_ h13_ h14_
                      have HO0_1 := n0_
                      have HO1_1 := n1_
                      have BK1005 := n2_
                      have BK985 := n3_
                      have BK986 := n4_
                      have BK987 := n5_
                      have GW1005 := n6_
                      have GE1005 := n7_
                      have NB985_1005 := n8_
                      have NB1005_985 := n9_
                      have NB986_1005 := n10_
                      have NB1005_986 := n11_
                      have NB987_1005 := n12_
                      have NB1005_987 := n13_
                      have HB := n14_
                      clear n0_ n1_ n2_ n3_ n4_ n5_ n6_ n7_ n8_ n9_ n10_ n11_ n12_ n13_ n14_
                      have hHeld : w21.cell? ⟨gb985, 0, none⟩ = some (.bool a0_0) ∧ w21.cell? ⟨gb985, 1, none⟩ = some (.slice A0_1 l0_1.length c0_1) ∧ w21.cell? ⟨gb986, 0, none⟩ = some (.bool a1_0) ∧ w21.cell? ⟨gb986, 1, none⟩ = some (.slice A1_1 l1_1.length c1_1) := hS_
                      refine norm_ (a' := ?_) ?_ ?_
                      rotate_left
                      · simp only [putAll, Act.put, List.setIfInBounds_toArray, List.set_cons_zero, List.set_cons_succ]
                        rfl
                      refine one_ (i := 1) (N := some 13) #[true, true, true, false, false, false, true, false] rfl rfl (one_of HT_.out (by kernel_rfl)) (by decide) (fun K hK => ?_)
                      refine goes_ Try.func68 (by kernel_rfl) rfl #[.agg #[.bool a0_0, .slice A0_1 l0_1.length c0_1]] (by rfl) rfl rfl za ?_
                      with_reducible refine (impl_Big_signed.calls a0_0 (fun k_ => (((P0_1_ k_ ∨ P1_1_ k_) ∨ w.heap.size ≤ k_) ∧ (k_ ≠ gb985 ∧ (k_ ≠ gb986 ∧ (k_ ≠ gb987 ∧ k_ ≠ gb1005))))) _ _ l0_1 t989 t990 _ ?side1 A5.out).mono ?_
                      (case side1 => exact HO0_1.out)
                      rintro e w22 ⟨v991, rfl, ho0, hb⟩
                      refine ⟨_, rfl, ?_⟩
                      have n0_ := Aside0.mk (Kd.V_below (zV HO0_1.out) hb)
                      have n1_ := Aside0.mk (Kd.V_below (zV HO1_1.out) hb)
                      have n2_ := Aside0.mk (Kd.V_lower (Kd.V_mono (ok' := fun k_ => ((P0_1_ k_ ∨ P1_1_ k_) ∨ w.heap.size ≤ k_) ∧ k_ ≠ gb985 ∧ k_ ≠ gb986 ∧ k_ ≠ gb987 ∧ k_ ≠ gb1005) ho0 (fun k_ hk_ => ⟨Or.elim hk_ (fun hs_ => hs_.1) (fun hn_ => (.inr (Nat.le_trans (below_size zb) hn_))), Or.elim hk_ (fun hs_ => hs_.2.1) (fun hn_ => (Kd.freshB (g := gb985) (o := .cells #[.bool a0_0, .slice A0_1 l0_1.length c0_1] 27 (0, 0)) (zk BK985.out) k_ hn_)), Or.elim hk_ (fun hs_ => hs_.2.2.1) (fun hn_ => (Kd.freshB (g := gb986) (o := .cells #[.bool a1_0, .slice A1_1 l1_1.length c1_1] 27 (0, 0)) (zk BK986.out) k_ hn_)), Or.elim hk_ (fun hs_ => hs_.2.2.2.1) (fun hn_ => (Kd.freshB (g := gb987) (o := .cells #[.bool false, .slice none 0 0] 27 (0, 0)) (zk BK987.out) k_ hn_)), Or.elim hk_ (fun hs_ => hs_.2.2.2.2) (fun hn_ => (Kd.freshB (g := gb1005) (o := .cells #[.bool false, .slice none 0 0] 64 (0, 0)) (zk BK1005.out) k_ hn_))⟩)) (below_size zb))
                      have n3_ := Aside0.mk (blk_below (g := gb985) (o := .cells #[.bool a0_0, .slice A0_1 l0_1.length c0_1] 27 (0, 0)) (zk BK985.out) hb)
                      have n4_ := Aside0.mk (blk_below (g := gb986) (o := .cells #[.bool a1_0, .slice A1_1 l1_1.length c1_1] 27 (0, 0)) (zk BK986.out) hb)
                      have n5_ := Aside0.mk (blk_below (g := gb987) (o := .cells #[.bool false, .slice none 0 0] 27 (0, 0)) (zk BK987.out) hb)
                      have n6_ := Aside0.mk (blk_below (g := gb1005) (o := .cells #[.bool false, .slice none 0 0] 64 (0, 0)) (zk BK1005.out) hb)
                      have n7_ := Aside0.mk (below_step zb hb)
                      clear HO0_1
                      clear HO1_1
                      clear BK985
                      clear BK986
                      clear BK987
                      clear BK1005
                      clear HB
                      have HO0_1 := n0_
                      have HO1_1 := n1_
                      have HO992 := n2_
                      have BK985 := n3_
                      have BK986 := n4_
                      have BK987 := n5_
                      have BK1005 := n6_
                      have HB := n7_
                      clear n0_ n1_ n2_ n3_ n4_ n5_ n6_ n7_
                      (try clear hb)
                      (try clear hb2)
                      (try clear hk)
                      (try clear hi)
                      (try clear ho0)
                      refine hK.out _ _ ⟨(blk_cell BK985.out 0).trans rfl, (blk_cell BK985.out 1).trans rfl, (blk_cell BK986.out 0).trans rfl, (blk_cell BK986.out 1).trans rfl⟩ (fun hHeld => ?_)
                      clear hK K
                      refine norm_ (a' := ?_) ?_ ?_
                      rotate_left
                      · show Act.put _ (some 13) _ = _
                        simp only [Act.put, List.setIfInBounds_toArray, List.set_cons_zero, List.set_cons_succ, i64_w, i32_w]
                        rfl
                      exact norm_ (by first | (simp only [putAll, Act.put, List.setIfInBounds_toArray, List.set_cons_zero, List.set_cons_succ]; done) | (simp only [putAll, Act.put, List.setIfInBounds_toArray, List.set_cons_zero, List.set_cons_succ]; rfl)) (hJ1_6 (v991, gb1005) _ ⟨hHeld, (zV HO0_1.out), (zV HO1_1.out), (zV HO992.out), (zk BK1005.out), (zk BK985.out), (zk BK986.out), (zk BK987.out), GW1005.out, GE1005.out, NB985_1005.out, NB1005_985.out, NB986_1005.out, NB1005_986.out, NB987_1005.out, NB1005_987.out, zb⟩)
                  · skip
                    rintro v991 w21 ⟨hS_, h0_, h1_, h2_, h3_, h4_, h5_, h6_⟩
                    have n0_ : Aside0 (Kd.V (Kd.int .i64) 3 w21 w.heap.size (fun k_ => ((P0_1_ k_ ∨ P1_1_ k_) ∨ w.heap.size ≤ k_) ∧ k_ ≠ gb985 ∧ k_ ≠ gb986 ∧ k_ ≠ gb987) (.slice A0_1 l0_1.length c0_1) l0_1) := ⟨h0_⟩
                    have n1_ : Aside0 (Kd.V (Kd.int .i64) 3 w21 w.heap.size (fun k_ => ((P0_1_ k_ ∨ P1_1_ k_) ∨ w.heap.size ≤ k_) ∧ k_ ≠ gb985 ∧ k_ ≠ gb986 ∧ k_ ≠ gb987) (.slice A1_1 l1_1.length c1_1) l1_1) := ⟨h1_⟩
                    have n2_ : Aside0 (Kd.V (Kd.int .i64) 3 w21 w.heap.size (fun k_ => ((P0_1_ k_ ∨ P1_1_ k_) ∨ w.heap.size ≤ k_) ∧ k_ ≠ gb985 ∧ k_ ≠ gb986 ∧ k_ ≠ gb987) v991 t990) := ⟨h2_⟩
                    have n3_ : Aside0 (w21.heap[gb985]? = some (.cells #[.bool a0_0, .slice A0_1 l0_1.length c0_1] 27 (0, 0))) := ⟨h3_⟩
                    have n4_ : Aside0 (w21.heap[gb986]? = some (.cells #[.bool a1_0, .slice A1_1 l1_1.length c1_1] 27 (0, 0))) := ⟨h4_⟩
                    have n5_ : Aside0 (w21.heap[gb987]? = some (.cells #[.bool false, .slice none 0 0] 27 (0, 0))) := ⟨h5_⟩
                    have n6_ : Aside0 (Below w.heap.size w w21) := ⟨h6_⟩
                    clear HO0_1
                    clear HO1_1
                    clear BK985
                    clear BK986
                    clear BK987
                    clear HB
                    clear h0_ h1_ h2_ h3_ h4_ h5_ h6_
                    have HO0_1 := n0_
                    have HO1_1 := n1_
                    have HO992 := n2_
                    have BK985 := n3_
                    have BK986 := n4_
                    have BK987 := n5_
                    have HB := n6_
                    clear n0_ n1_ n2_ n3_ n4_ n5_ n6_
                    have hHeld : w21.cell? ⟨gb985, 0, none⟩ = some (.bool a0_0) ∧ w21.cell? ⟨gb985, 1, none⟩ = some (.slice A0_1 l0_1.length c0_1) ∧ w21.cell? ⟨gb986, 0, none⟩ = some (.bool a1_0) ∧ w21.cell? ⟨gb986, 1, none⟩ = some (.slice A1_1 l1_1.length c1_1) := hS_
                    refine norm_ (a' := ?_) ?_ ?_
                    rotate_left
                    · simp only [putAll, Act.put, List.setIfInBounds_toArray, List.set_cons_zero, List.set_cons_succ]
                      rfl
                    refine two_ (i := 3) (j := 6) (Ni := some 15) (Nj := some 6) #[true, true, true, true, false, false, false, false] #[true, true, true, false, false, false, true, false] rfl rfl rfl rfl (two_of HT_.out (by kernel_rfl)) (by decide) (by decide) (fun K hK => ?_) (fun K hK => ?_)
                    · skip
                      refine goes_ Try.func68 (by kernel_rfl) rfl #[.agg #[.bool a1_0, .slice A1_1 l1_1.length c1_1]] (by rfl) rfl rfl za ?_
                      with_reducible refine (impl_Big_signed.calls a1_0 (fun k_ => (((P0_1_ k_ ∨ P1_1_ k_) ∨ w.heap.size ≤ k_) ∧ (k_ ≠ gb985 ∧ (k_ ≠ gb986 ∧ k_ ≠ gb987)))) _ _ l1_1 t993 t994 _ ?side1 A6.out).mono ?_
                      (case side1 => exact HO1_1.out)
                      rintro e w22 ⟨v995, rfl, ho0, hb⟩
                      refine ⟨_, rfl, ?_⟩
                      have n0_ := Aside0.mk (Kd.V_below (zV HO0_1.out) hb)
                      have n1_ := Aside0.mk (Kd.V_below (zV HO1_1.out) hb)
                      have n2_ := Aside0.mk (Kd.V_below (zV HO992.out) hb)
                      have n3_ := Aside0.mk (Kd.V_lower (Kd.V_mono (ok' := fun k_ => ((P0_1_ k_ ∨ P1_1_ k_) ∨ w.heap.size ≤ k_) ∧ k_ ≠ gb985 ∧ k_ ≠ gb986 ∧ k_ ≠ gb987) ho0 (fun k_ hk_ => ⟨Or.elim hk_ (fun hs_ => hs_.1) (fun hn_ => (.inr (Nat.le_trans (below_size zb) hn_))), Or.elim hk_ (fun hs_ => hs_.2.1) (fun hn_ => (Kd.freshB (g := gb985) (o := .cells #[.bool a0_0, .slice A0_1 l0_1.length c0_1] 27 (0, 0)) (zk BK985.out) k_ hn_)), Or.elim hk_ (fun hs_ => hs_.2.2.1) (fun hn_ => (Kd.freshB (g := gb986) (o := .cells #[.bool a1_0, .slice A1_1 l1_1.length c1_1] 27 (0, 0)) (zk BK986.out) k_ hn_)), Or.elim hk_ (fun hs_ => hs_.2.2.2) (fun hn_ => (Kd.freshB (g := gb987) (o := .cells #[.bool false, .slice none 0 0] 27 (0, 0)) (zk BK987.out) k_ hn_))⟩)) (below_size zb))
                      have n4_ := Aside0.mk (blk_below (g := gb985) (o := .cells #[.bool a0_0, .slice A0_1 l0_1.length c0_1] 27 (0, 0)) (zk BK985.out) hb)
                      have n5_ := Aside0.mk (blk_below (g := gb986) (o := .cells #[.bool a1_0, .slice A1_1 l1_1.length c1_1] 27 (0, 0)) (zk BK986.out) hb)
                      have n6_ := Aside0.mk (blk_below (g := gb987) (o := .cells #[.bool false, .slice none 0 0] 27 (0, 0)) (zk BK987.out) hb)
                      have n7_ := Aside0.mk (below_step zb hb)
                      clear HO0_1
                      clear HO1_1
                      clear HO992
                      clear BK985
                      clear BK986
                      clear BK987
                      clear HB
                      have HO0_1 := n0_
                      have HO1_1 := n1_
                      have HO992 := n2_
                      have HO996 := n3_
                      have BK985 := n4_
                      have BK986 := n5_
                      have BK987 := n6_
                      have HB := n7_
                      clear n0_ n1_ n2_ n3_ n4_ n5_ n6_ n7_
                      (try clear hb)
                      (try clear hb2)
                      (try clear hk)
                      (try clear hi)
                      (try clear ho0)
                      refine hK.out _ _ ⟨(blk_cell BK985.out 0).trans rfl, (blk_cell BK985.out 1).trans rfl, (blk_cell BK986.out 0).trans rfl, (blk_cell BK986.out 1).trans rfl⟩ (fun hHeld => ?_)
                      clear hK K
                      refine norm_ (a' := ?_) ?_ ?_
                      rotate_left
                      · show Act.put _ (some 15) _ = _
                        simp only [Act.put, List.setIfInBounds_toArray, List.set_cons_zero, List.set_cons_succ, i64_w, i32_w]
                        rfl
                      exact norm_ (by first | (simp only [putAll, Act.put, List.setIfInBounds_toArray, List.set_cons_zero, List.set_cons_succ]; done) | (simp only [putAll, Act.put, List.setIfInBounds_toArray, List.set_cons_zero, List.set_cons_succ]; rfl)) (hJ1_3 (v991, v995) _ ⟨hHeld, (zV HO0_1.out), (zV HO1_1.out), (zV HO992.out), (zV HO996.out), (zk BK985.out), (zk BK986.out), (zk BK987.out), zb⟩)
                    · skip
                      refine box_step ?hg (N := 6) ?hd (cs := #[.bool false, .slice none 0 0]) (t := 64) ?hr ?_; (case hd => rfl); (case hg => rfl); (case hr => first | (go_simp; done) | (go_simp; rfl))
                      intro gb1005 hg w22 hbox hb
                      have n0_ := Aside0.mk (Kd.V_below (Kd.V_elderB (zV HO0_1.out) gb1005 (Nat.le_of_eq hg.symm)) hb)
                      have n1_ := Aside0.mk (Kd.V_below (Kd.V_elderB (zV HO1_1.out) gb1005 (Nat.le_of_eq hg.symm)) hb)
                      have n2_ := Aside0.mk (Kd.V_below (Kd.V_elderB (zV HO992.out) gb1005 (Nat.le_of_eq hg.symm)) hb)
                      have n3_ := Aside0.mk (blk_below (g := gb985) (o := .cells #[.bool a0_0, .slice A0_1 l0_1.length c0_1] 27 (0, 0)) (zk BK985.out) hb)
                      have n4_ := Aside0.mk (blk_below (g := gb986) (o := .cells #[.bool a1_0, .slice A1_1 l1_1.length c1_1] 27 (0, 0)) (zk BK986.out) hb)
                      have n5_ := Aside0.mk (blk_below (g := gb987) (o := .cells #[.bool false, .slice none 0 0] 27 (0, 0)) (zk BK987.out) hb)
                      have n6_ := Aside0.mk (below_step zb hb)
                      have n7_ := Aside0.mk (hbox)
                      have n8_ := Aside0.mk ((by rw [hg]; exact (below_size zb) : w.heap.size ≤ gb1005))
                      have n9_ := Aside0.mk ((by rw [hg]; exact (below_size zb) : w.heap.size ≤ gb1005))
                      have n10_ := Aside0.mk ((by rw [hg]; exact Nat.ne_of_lt (blk_lt (g := gb985) (o := .cells #[.bool a0_0, .slice A0_1 l0_1.length c0_1] 27 (0, 0)) (zk BK985.out)) : gb985 ≠ gb1005))
                      have n11_ := Aside0.mk ((by rw [hg]; exact Nat.ne_of_gt (blk_lt (g := gb985) (o := .cells #[.bool a0_0, .slice A0_1 l0_1.length c0_1] 27 (0, 0)) (zk BK985.out)) : gb1005 ≠ gb985))
                      have n12_ := Aside0.mk ((by rw [hg]; exact Nat.ne_of_lt (blk_lt (g := gb986) (o := .cells #[.bool a1_0, .slice A1_1 l1_1.length c1_1] 27 (0, 0)) (zk BK986.out)) : gb986 ≠ gb1005))
                      have n13_ := Aside0.mk ((by rw [hg]; exact Nat.ne_of_gt (blk_lt (g := gb986) (o := .cells #[.bool a1_0, .slice A1_1 l1_1.length c1_1] 27 (0, 0)) (zk BK986.out)) : gb1005 ≠ gb986))
                      have n14_ := Aside0.mk ((by rw [hg]; exact Nat.ne_of_lt (blk_lt (g := gb987) (o := .cells #[.bool false, .slice none 0 0] 27 (0, 0)) (zk BK987.out)) : gb987 ≠ gb1005))
                      have n15_ := Aside0.mk ((by rw [hg]; exact Nat.ne_of_gt (blk_lt (g := gb987) (o := .cells #[.bool false, .slice none 0 0] 27 (0, 0)) (zk BK987.out)) : gb1005 ≠ gb987))
                      clear HO0_1
                      clear HO1_1
                      clear HO992
                      clear BK985
                      clear BK986
                      clear BK987
                      clear HB
                      have HO0_1 := n0_
                      have HO1_1 := n1_
                      have HO992 := n2_
                      have BK985 := n3_
                      have BK986 := n4_
                      have BK987 := n5_
                      have HB := n6_
                      have BK1005 := n7_
                      have GW1005 := n8_
                      have GE1005 := n9_
                      have NB985_1005 := n10_
                      have NB1005_985 := n11_
                      have NB986_1005 := n12_
                      have NB1005_986 := n13_
                      have NB987_1005 := n14_
                      have NB1005_987 := n15_
                      clear n0_ n1_ n2_ n3_ n4_ n5_ n6_ n7_ n8_ n9_ n10_ n11_ n12_ n13_ n14_ n15_
                      clear hb hbox hg
                      refine hK.out _ _ ⟨(blk_cell BK985.out 0).trans rfl, (blk_cell BK985.out 1).trans rfl, (blk_cell BK986.out 0).trans rfl, (blk_cell BK986.out 1).trans rfl⟩ (fun hHeld => ?_)
                      clear hK K
                      refine norm_ (a' := ?_) ?_ ?_
                      rotate_left
                      · show Act.put _ (some 6) _ = _
                        simp only [Act.put, List.setIfInBounds_toArray, List.set_cons_zero, List.set_cons_succ, i64_w, i32_w]
                        rfl
                      exact norm_ (by first | (simp only [putAll, Act.put, List.setIfInBounds_toArray, List.set_cons_zero, List.set_cons_succ]; done) | (simp only [putAll, Act.put, List.setIfInBounds_toArray, List.set_cons_zero, List.set_cons_succ]; rfl)) (hJ1_6 (v991, gb1005) _ ⟨hHeld, (by (with_reducible repeat (first | apply Kd.V_alloc | apply Kd.V_drewN | apply Kd.V_drew)); exact Kd.V_mono HO0_1.out (fun _ hk => ⟨hk.1.1, ⟨hk.1.2.1, ⟨hk.1.2.2.1, ⟨hk.1.2.2.2, hk.2⟩⟩⟩⟩)), (by (with_reducible repeat (first | apply Kd.V_alloc | apply Kd.V_drewN | apply Kd.V_drew)); exact Kd.V_mono HO1_1.out (fun _ hk => ⟨hk.1.1, ⟨hk.1.2.1, ⟨hk.1.2.2.1, ⟨hk.1.2.2.2, hk.2⟩⟩⟩⟩)), (by (with_reducible repeat (first | apply Kd.V_alloc | apply Kd.V_drewN | apply Kd.V_drew)); exact Kd.V_mono HO992.out (fun _ hk => ⟨hk.1.1, ⟨hk.1.2.1, ⟨hk.1.2.2.1, ⟨hk.1.2.2.2, hk.2⟩⟩⟩⟩)), (zk BK1005.out), (zk BK985.out), (zk BK986.out), (zk BK987.out), GW1005.out, GE1005.out, NB985_1005.out, NB1005_985.out, NB986_1005.out, NB1005_986.out, NB987_1005.out, NB1005_987.out, zb⟩)
                · skip
                  rintro ⟨v991, gb1005⟩ w22 ⟨hS_, h0_, h1_, h2_, h3_, h4_, h5_, h6_, h7_, h8_, h9_, h10_, h11_, h12_, h13_, h14_, h15_⟩
                  have n0_ : Aside0 (Kd.V (Kd.int .i64) 3 w22 w.heap.size (fun k_ => ((P0_1_ k_ ∨ P1_1_ k_) ∨ w.heap.size ≤ k_) ∧ k_ ≠ gb985 ∧ k_ ≠ gb986 ∧ k_ ≠ gb987 ∧ k_ ≠ gb1005) (.slice A0_1 l0_1.length c0_1) l0_1) := ⟨h0_⟩
                  have n1_ : Aside0 (Kd.V (Kd.int .i64) 3 w22 w.heap.size (fun k_ => ((P0_1_ k_ ∨ P1_1_ k_) ∨ w.heap.size ≤ k_) ∧ k_ ≠ gb985 ∧ k_ ≠ gb986 ∧ k_ ≠ gb987 ∧ k_ ≠ gb1005) (.slice A1_1 l1_1.length c1_1) l1_1) := ⟨h1_⟩
                  have n2_ : Aside0 (Kd.V (Kd.int .i64) 3 w22 w.heap.size (fun k_ => ((P0_1_ k_ ∨ P1_1_ k_) ∨ w.heap.size ≤ k_) ∧ k_ ≠ gb985 ∧ k_ ≠ gb986 ∧ k_ ≠ gb987 ∧ k_ ≠ gb1005) v991 t990) := ⟨h2_⟩
                  have n3_ : Aside0 (w22.heap[gb1005]? = some (.cells #[.bool false, .slice none 0 0] 64 (0, 0))) := ⟨h3_⟩
                  have n4_ : Aside0 (w22.heap[gb985]? = some (.cells #[.bool a0_0, .slice A0_1 l0_1.length c0_1] 27 (0, 0))) := ⟨h4_⟩
                  have n5_ : Aside0 (w22.heap[gb986]? = some (.cells #[.bool a1_0, .slice A1_1 l1_1.length c1_1] 27 (0, 0))) := ⟨h5_⟩
                  have n6_ : Aside0 (w22.heap[gb987]? = some (.cells #[.bool false, .slice none 0 0] 27 (0, 0))) := ⟨h6_⟩
                  have n7_ : Aside0 (w.heap.size ≤ gb1005) := ⟨h7_⟩
                  have n8_ : Aside0 (w.heap.size ≤ gb1005) := ⟨h8_⟩
                  have n9_ : Aside0 (gb985 ≠ gb1005) := ⟨h9_⟩
                  have n10_ : Aside0 (gb1005 ≠ gb985) := ⟨h10_⟩
                  have n11_ : Aside0 (gb986 ≠ gb1005) := ⟨h11_⟩
                  have n12_ : Aside0 (gb1005 ≠ gb986) := ⟨h12_⟩
                  have n13_ : Aside0 (gb987 ≠ gb1005) := ⟨h13_⟩
                  have n14_ : Aside0 (gb1005 ≠ gb987) := ⟨h14_⟩
                  have n15_ : Aside0 (Below w.heap.size w w22) := ⟨h15_⟩
                  clear HO0_1
                  clear HO1_1
                  clear BK985
                  clear BK986
                  clear BK987
                  clear HB
                  clear h0_ h1_ h2_ h3_ h4_ h5_ h6_ h7_ h8_ h9_ h10_ h11_ h12_ h13_ h14_ h15_
                  have HO0_1 := n0_
                  have HO1_1 := n1_
                  have HO992 := n2_
                  have BK1005 := n3_
                  have BK985 := n4_
                  have BK986 := n5_
                  have BK987 := n6_
                  have GW1005 := n7_
                  have GE1005 := n8_
                  have NB985_1005 := n9_
                  have NB1005_985 := n10_
                  have NB986_1005 := n11_
                  have NB1005_986 := n12_
                  have NB987_1005 := n13_
                  have NB1005_987 := n14_
                  have HB := n15_
                  clear n0_ n1_ n2_ n3_ n4_ n5_ n6_ n7_ n8_ n9_ n10_ n11_ n12_ n13_ n14_ n15_
                  have hHeld : w22.cell? ⟨gb985, 0, none⟩ = some (.bool a0_0) ∧ w22.cell? ⟨gb985, 1, none⟩ = some (.slice A0_1 l0_1.length c0_1) ∧ w22.cell? ⟨gb986, 0, none⟩ = some (.bool a1_0) ∧ w22.cell? ⟨gb986, 1, none⟩ = some (.slice A1_1 l1_1.length c1_1) := hS_
                  refine norm_ (a' := ?_) ?_ ?_
                  rotate_left
                  · simp only [putAll, Act.put, List.setIfInBounds_toArray, List.set_cons_zero, List.set_cons_succ]
                    rfl
                  refine one_ (i := 3) (N := some 15) #[true, true, true, true, false, false, true, false] rfl rfl (one_of HT_.out (by kernel_rfl)) (by decide) (fun K hK => ?_)
                  refine goes_ Try.func68 (by kernel_rfl) rfl #[.agg #[.bool a1_0, .slice A1_1 l1_1.length c1_1]] (by rfl) rfl rfl za ?_
                  with_reducible refine (impl_Big_signed.calls a1_0 (fun k_ => (((P0_1_ k_ ∨ P1_1_ k_) ∨ w.heap.size ≤ k_) ∧ (k_ ≠ gb985 ∧ (k_ ≠ gb986 ∧ (k_ ≠ gb987 ∧ k_ ≠ gb1005))))) _ _ l1_1 t993 t994 _ ?side1 A6.out).mono ?_
                  (case side1 => exact HO1_1.out)
                  rintro e w23 ⟨v995, rfl, ho0, hb⟩
                  refine ⟨_, rfl, ?_⟩
                  have n0_ := Aside0.mk (Kd.V_below (zV HO0_1.out) hb)
                  have n1_ := Aside0.mk (Kd.V_below (zV HO1_1.out) hb)
                  have n2_ := Aside0.mk (Kd.V_below (zV HO992.out) hb)
                  have n3_ := Aside0.mk (Kd.V_lower (Kd.V_mono (ok' := fun k_ => ((P0_1_ k_ ∨ P1_1_ k_) ∨ w.heap.size ≤ k_) ∧ k_ ≠ gb985 ∧ k_ ≠ gb986 ∧ k_ ≠ gb987 ∧ k_ ≠ gb1005) ho0 (fun k_ hk_ => ⟨Or.elim hk_ (fun hs_ => hs_.1) (fun hn_ => (.inr (Nat.le_trans (below_size zb) hn_))), Or.elim hk_ (fun hs_ => hs_.2.1) (fun hn_ => (Kd.freshB (g := gb985) (o := .cells #[.bool a0_0, .slice A0_1 l0_1.length c0_1] 27 (0, 0)) (zk BK985.out) k_ hn_)), Or.elim hk_ (fun hs_ => hs_.2.2.1) (fun hn_ => (Kd.freshB (g := gb986) (o := .cells #[.bool a1_0, .slice A1_1 l1_1.length c1_1] 27 (0, 0)) (zk BK986.out) k_ hn_)), Or.elim hk_ (fun hs_ => hs_.2.2.2.1) (fun hn_ => (Kd.freshB (g := gb987) (o := .cells #[.bool false, .slice none 0 0] 27 (0, 0)) (zk BK987.out) k_ hn_)), Or.elim hk_ (fun hs_ => hs_.2.2.2.2) (fun hn_ => (Kd.freshB (g := gb1005) (o := .cells #[.bool false, .slice none 0 0] 64 (0, 0)) (zk BK1005.out) k_ hn_))⟩)) (below_size zb))
                  have n4_ := Aside0.mk (blk_below (g := gb985) (o := .cells #[.bool a0_0, .slice A0_1 l0_1.length c0_1] 27 (0, 0)) (zk BK985.out) hb)
                  have n5_ := Aside0.mk (blk_below (g := gb986) (o := .cells #[.bool a1_0, .slice A1_1 l1_1.length c1_1] 27 (0, 0)) (zk BK986.out) hb)
                  have n6_ := Aside0.mk (blk_below (g := gb987) (o := .cells #[.bool false, .slice none 0 0] 27 (0, 0)) (zk BK987.out) hb)
                  have n7_ := Aside0.mk (blk_below (g := gb1005) (o := .cells #[.bool false, .slice none 0 0] 64 (0, 0)) (zk BK1005.out) hb)
                  have n8_ := Aside0.mk (below_step zb hb)
                  clear HO0_1
                  clear HO1_1
                  clear HO992
                  clear BK985
                  clear BK986
                  clear BK987
                  clear BK1005
                  clear HB
                  have HO0_1 := n0_
                  have HO1_1 := n1_
                  have HO992 := n2_
                  have HO996 := n3_
                  have BK985 := n4_
                  have BK986 := n5_
                  have BK987 := n6_
                  have BK1005 := n7_
                  have HB := n8_
                  clear n0_ n1_ n2_ n3_ n4_ n5_ n6_ n7_ n8_
                  (try clear hb)
                  (try clear hb2)
                  (try clear hk)
                  (try clear hi)
                  (try clear ho0)
                  refine hK.out _ _ ⟨(blk_cell BK985.out 0).trans rfl, (blk_cell BK985.out 1).trans rfl, (blk_cell BK986.out 0).trans rfl, (blk_cell BK986.out 1).trans rfl⟩ (fun hHeld => ?_)
                  clear hK K
                  refine norm_ (a' := ?_) ?_ ?_
                  rotate_left
                  · show Act.put _ (some 15) _ = _
                    simp only [Act.put, List.setIfInBounds_toArray, List.set_cons_zero, List.set_cons_succ, i64_w, i32_w]
                    rfl
                  exact norm_ (by first | (simp only [putAll, Act.put, List.setIfInBounds_toArray, List.set_cons_zero, List.set_cons_succ]; done) | (simp only [putAll, Act.put, List.setIfInBounds_toArray, List.set_cons_zero, List.set_cons_succ]; rfl)) (hJ1_3_6 (v991, v995, gb1005) _ ⟨hHeld, (zV HO0_1.out), (zV HO1_1.out), (zV HO992.out), (zV HO996.out), (zk BK1005.out), (zk BK985.out), (zk BK986.out), (zk BK987.out), GW1005.out, GE1005.out, NB985_1005.out, NB1005_985.out, NB986_1005.out, NB1005_986.out, NB987_1005.out, NB1005_987.out, zb⟩)
              · skip
                rintro ⟨v991, v995⟩ w22 ⟨hS_, h0_, h1_, h2_, h3_, h4_, h5_, h6_, h7_⟩
                have n0_ : Aside0 (Kd.V (Kd.int .i64) 3 w22 w.heap.size (fun k_ => ((P0_1_ k_ ∨ P1_1_ k_) ∨ w.heap.size ≤ k_) ∧ k_ ≠ gb985 ∧ k_ ≠ gb986 ∧ k_ ≠ gb987) (.slice A0_1 l0_1.length c0_1) l0_1) := ⟨h0_⟩
                have n1_ : Aside0 (Kd.V (Kd.int .i64) 3 w22 w.heap.size (fun k_ => ((P0_1_ k_ ∨ P1_1_ k_) ∨ w.heap.size ≤ k_) ∧ k_ ≠ gb985 ∧ k_ ≠ gb986 ∧ k_ ≠ gb987) (.slice A1_1 l1_1.length c1_1) l1_1) := ⟨h1_⟩
                have n2_ : Aside0 (Kd.V (Kd.int .i64) 3 w22 w.heap.size (fun k_ => ((P0_1_ k_ ∨ P1_1_ k_) ∨ w.heap.size ≤ k_) ∧ k_ ≠ gb985 ∧ k_ ≠ gb986 ∧ k_ ≠ gb987) v991 t990) := ⟨h2_⟩
                have n3_ : Aside0 (Kd.V (Kd.int .i64) 3 w22 w.heap.size (fun k_ => ((P0_1_ k_ ∨ P1_1_ k_) ∨ w.heap.size ≤ k_) ∧ k_ ≠ gb985 ∧ k_ ≠ gb986 ∧ k_ ≠ gb987) v995 t994) := ⟨h3_⟩
                have n4_ : Aside0 (w22.heap[gb985]? = some (.cells #[.bool a0_0, .slice A0_1 l0_1.length c0_1] 27 (0, 0))) := ⟨h4_⟩
                have n5_ : Aside0 (w22.heap[gb986]? = some (.cells #[.bool a1_0, .slice A1_1 l1_1.length c1_1] 27 (0, 0))) := ⟨h5_⟩
                have n6_ : Aside0 (w22.heap[gb987]? = some (.cells #[.bool false, .slice none 0 0] 27 (0, 0))) := ⟨h6_⟩
                have n7_ : Aside0 (Below w.heap.size w w22) := ⟨h7_⟩
                clear HO0_1
                clear HO1_1
                clear BK985
                clear BK986
                clear BK987
                clear HB
                clear h0_ h1_ h2_ h3_ h4_ h5_ h6_ h7_
                have HO0_1 := n0_
                have HO1_1 := n1_
                have HO992 := n2_
                have HO996 := n3_
                have BK985 := n4_
                have BK986 := n5_
                have BK987 := n6_
                have HB := n7_
                clear n0_ n1_ n2_ n3_ n4_ n5_ n6_ n7_
                have hHeld : w22.cell? ⟨gb985, 0, none⟩ = some (.bool a0_0) ∧ w22.cell? ⟨gb985, 1, none⟩ = some (.slice A0_1 l0_1.length c0_1) ∧ w22.cell? ⟨gb986, 0, none⟩ = some (.bool a1_0) ∧ w22.cell? ⟨gb986, 1, none⟩ = some (.slice A1_1 l1_1.length c1_1) := hS_
                obtain ⟨Ao23, co23, eo23⟩ := Kd.V_slice HO996.out
                (first | subst eo23 | (injection eo23 with f1_ f2_ f3_; have f4_ := f1_.symm; have f5_ := f3_.symm; clear f1_ f2_ f3_; subst f4_; subst f5_))
                refine norm_ (a' := ?_) ?_ ?_
                rotate_left
                · simp only [putAll, Act.put, List.setIfInBounds_toArray, List.set_cons_zero, List.set_cons_succ]
                  rfl
                refine two_ (i := 4) (j := 6) (Ni := some 16) (Nj := some 6) #[true, true, true, true, true, false, false, false] #[true, true, true, true, false, false, true, false] rfl rfl rfl rfl (two_of HT_.out (by kernel_rfl)) (by decide) (by decide) (fun K hK => ?_) (fun K hK => ?_)
                · skip
                  refine goes_ Try.func72 (by kernel_rfl) rfl #[.agg #[.bool t993, .slice Ao23 t994.length co23]] (by rfl) rfl rfl za ?_
                  with_reducible refine (impl_signed_minus.calls t993 (fun k_ => (((P0_1_ k_ ∨ P1_1_ k_) ∨ w.heap.size ≤ k_) ∧ (k_ ≠ gb985 ∧ (k_ ≠ gb986 ∧ k_ ≠ gb987)))) _ _ t994 t997 t998 _ ?side1 A7.out).mono ?_
                  (case side1 => exact HO996.out)
                  rintro e w24 ⟨v999, rfl, ho0, hb⟩
                  refine ⟨_, rfl, ?_⟩
                  have n0_ := Aside0.mk (Kd.V_below (zV HO0_1.out) hb)
                  have n1_ := Aside0.mk (Kd.V_below (zV HO1_1.out) hb)
                  have n2_ := Aside0.mk (Kd.V_below (zV HO992.out) hb)
                  have n3_ := Aside0.mk (Kd.V_below (zV HO996.out) hb)
                  have n4_ := Aside0.mk (Kd.V_lower (Kd.V_mono (ok' := fun k_ => ((P0_1_ k_ ∨ P1_1_ k_) ∨ w.heap.size ≤ k_) ∧ k_ ≠ gb985 ∧ k_ ≠ gb986 ∧ k_ ≠ gb987) ho0 (fun k_ hk_ => ⟨Or.elim hk_ (fun hs_ => hs_.1) (fun hn_ => (.inr (Nat.le_trans (below_size zb) hn_))), Or.elim hk_ (fun hs_ => hs_.2.1) (fun hn_ => (Kd.freshB (g := gb985) (o := .cells #[.bool a0_0, .slice A0_1 l0_1.length c0_1] 27 (0, 0)) (zk BK985.out) k_ hn_)), Or.elim hk_ (fun hs_ => hs_.2.2.1) (fun hn_ => (Kd.freshB (g := gb986) (o := .cells #[.bool a1_0, .slice A1_1 l1_1.length c1_1] 27 (0, 0)) (zk BK986.out) k_ hn_)), Or.elim hk_ (fun hs_ => hs_.2.2.2) (fun hn_ => (Kd.freshB (g := gb987) (o := .cells #[.bool false, .slice none 0 0] 27 (0, 0)) (zk BK987.out) k_ hn_))⟩)) (below_size zb))
                  have n5_ := Aside0.mk (blk_below (g := gb985) (o := .cells #[.bool a0_0, .slice A0_1 l0_1.length c0_1] 27 (0, 0)) (zk BK985.out) hb)
                  have n6_ := Aside0.mk (blk_below (g := gb986) (o := .cells #[.bool a1_0, .slice A1_1 l1_1.length c1_1] 27 (0, 0)) (zk BK986.out) hb)
                  have n7_ := Aside0.mk (blk_below (g := gb987) (o := .cells #[.bool false, .slice none 0 0] 27 (0, 0)) (zk BK987.out) hb)
                  have n8_ := Aside0.mk (below_step zb hb)
                  clear HO0_1
                  clear HO1_1
                  clear HO992
                  clear HO996
                  clear BK985
                  clear BK986
                  clear BK987
                  clear HB
                  have HO0_1 := n0_
                  have HO1_1 := n1_
                  have HO992 := n2_
                  have HO996 := n3_
                  have HO1000 := n4_
                  have BK985 := n5_
                  have BK986 := n6_
                  have BK987 := n7_
                  have HB := n8_
                  clear n0_ n1_ n2_ n3_ n4_ n5_ n6_ n7_ n8_
                  (try clear hb)
                  (try clear hb2)
                  (try clear hk)
                  (try clear hi)
                  (try clear ho0)
                  refine hK.out _ _ ⟨(blk_cell BK985.out 0).trans rfl, (blk_cell BK985.out 1).trans rfl, (blk_cell BK986.out 0).trans rfl, (blk_cell BK986.out 1).trans rfl⟩ (fun hHeld => ?_)
                  clear hK K
                  refine norm_ (a' := ?_) ?_ ?_
                  rotate_left
                  · show Act.put _ (some 16) _ = _
                    simp only [Act.put, List.setIfInBounds_toArray, List.set_cons_zero, List.set_cons_succ, i64_w, i32_w]
                    rfl
                  exact norm_ (by first | (simp only [putAll, Act.put, List.setIfInBounds_toArray, List.set_cons_zero, List.set_cons_succ]; done) | (simp only [putAll, Act.put, List.setIfInBounds_toArray, List.set_cons_zero, List.set_cons_succ]; rfl)) (hJ1_3_4 (v991, .slice Ao23 t994.length co23, v999) _ ⟨hHeld, (zV HO0_1.out), (zV HO1000.out), (zV HO1_1.out), (zV HO992.out), (zV HO996.out), (zk BK985.out), (zk BK986.out), (zk BK987.out), zb⟩)
                · skip
                  refine box_step ?hg (N := 6) ?hd (cs := #[.bool false, .slice none 0 0]) (t := 64) ?hr ?_; (case hd => rfl); (case hg => rfl); (case hr => first | (go_simp; done) | (go_simp; rfl))
                  intro gb1005 hg w23 hbox hb
                  have n0_ := Aside0.mk (Kd.V_below (Kd.V_elderB (zV HO0_1.out) gb1005 (Nat.le_of_eq hg.symm)) hb)
                  have n1_ := Aside0.mk (Kd.V_below (Kd.V_elderB (zV HO1_1.out) gb1005 (Nat.le_of_eq hg.symm)) hb)
                  have n2_ := Aside0.mk (Kd.V_below (Kd.V_elderB (zV HO992.out) gb1005 (Nat.le_of_eq hg.symm)) hb)
                  have n3_ := Aside0.mk (Kd.V_below (Kd.V_elderB (zV HO996.out) gb1005 (Nat.le_of_eq hg.symm)) hb)
                  have n4_ := Aside0.mk (blk_below (g := gb985) (o := .cells #[.bool a0_0, .slice A0_1 l0_1.length c0_1] 27 (0, 0)) (zk BK985.out) hb)
                  have n5_ := Aside0.mk (blk_below (g := gb986) (o := .cells #[.bool a1_0, .slice A1_1 l1_1.length c1_1] 27 (0, 0)) (zk BK986.out) hb)
                  have n6_ := Aside0.mk (blk_below (g := gb987) (o := .cells #[.bool false, .slice none 0 0] 27 (0, 0)) (zk BK987.out) hb)
                  have n7_ := Aside0.mk (below_step zb hb)
                  have n8_ := Aside0.mk (hbox)
                  have n9_ := Aside0.mk ((by rw [hg]; exact (below_size zb) : w.heap.size ≤ gb1005))
                  have n10_ := Aside0.mk ((by rw [hg]; exact (below_size zb) : w.heap.size ≤ gb1005))
                  have n11_ := Aside0.mk ((by rw [hg]; exact Nat.ne_of_lt (blk_lt (g := gb985) (o := .cells #[.bool a0_0, .slice A0_1 l0_1.length c0_1] 27 (0, 0)) (zk BK985.out)) : gb985 ≠ gb1005))
                  have n12_ := Aside0.mk ((by rw [hg]; exact Nat.ne_of_gt (blk_lt (g := gb985) (o := .cells #[.bool a0_0, .slice A0_1 l0_1.length c0_1] 27 (0, 0)) (zk BK985.out)) : gb1005 ≠ gb985))
                  have n13_ := Aside0.mk ((by rw [hg]; exact Nat.ne_of_lt (blk_lt (g := gb986) (o := .cells #[.bool a1_0, .slice A1_1 l1_1.length c1_1] 27 (0, 0)) (zk BK986.out)) : gb986 ≠ gb1005))
                  have n14_ := Aside0.mk ((by rw [hg]; exact Nat.ne_of_gt (blk_lt (g := gb986) (o := .cells #[.bool a1_0, .slice A1_1 l1_1.length c1_1] 27 (0, 0)) (zk BK986.out)) : gb1005 ≠ gb986))
                  have n15_ := Aside0.mk ((by rw [hg]; exact Nat.ne_of_lt (blk_lt (g := gb987) (o := .cells #[.bool false, .slice none 0 0] 27 (0, 0)) (zk BK987.out)) : gb987 ≠ gb1005))
                  have n16_ := Aside0.mk ((by rw [hg]; exact Nat.ne_of_gt (blk_lt (g := gb987) (o := .cells #[.bool false, .slice none 0 0] 27 (0, 0)) (zk BK987.out)) : gb1005 ≠ gb987))
                  clear HO0_1
                  clear HO1_1
                  clear HO992
                  clear HO996
                  clear BK985
                  clear BK986
                  clear BK987
                  clear HB
                  have HO0_1 := n0_
                  have HO1_1 := n1_
                  have HO992 := n2_
                  have HO996 := n3_
                  have BK985 := n4_
                  have BK986 := n5_
                  have BK987 := n6_
                  have HB := n7_
                  have BK1005 := n8_
                  have GW1005 := n9_
                  have GE1005 := n10_
                  have NB985_1005 := n11_
                  have NB1005_985 := n12_
                  have NB986_1005 := n13_
                  have NB1005_986 := n14_
                  have NB987_1005 := n15_
                  have NB1005_987 := n16_
                  clear n0_ n1_ n2_ n3_ n4_ n5_ n6_ n7_ n8_ n9_ n10_ n11_ n12_ n13_ n14_ n15_ n16_
                  clear hb hbox hg
                  refine hK.out _ _ ⟨(blk_cell BK985.out 0).trans rfl, (blk_cell BK985.out 1).trans rfl, (blk_cell BK986.out 0).trans rfl, (blk_cell BK986.out 1).trans rfl⟩ (fun hHeld => ?_)
                  clear hK K
                  refine norm_ (a' := ?_) ?_ ?_
                  rotate_left
                  · show Act.put _ (some 6) _ = _
                    simp only [Act.put, List.setIfInBounds_toArray, List.set_cons_zero, List.set_cons_succ, i64_w, i32_w]
                    rfl
                  exact norm_ (by first | (simp only [putAll, Act.put, List.setIfInBounds_toArray, List.set_cons_zero, List.set_cons_succ]; done) | (simp only [putAll, Act.put, List.setIfInBounds_toArray, List.set_cons_zero, List.set_cons_succ]; rfl)) (hJ1_3_6 (v991, (.slice Ao23 t994.length co23), gb1005) _ ⟨hHeld, (by (with_reducible repeat (first | apply Kd.V_alloc | apply Kd.V_drewN | apply Kd.V_drew)); exact Kd.V_mono HO0_1.out (fun _ hk => ⟨hk.1.1, ⟨hk.1.2.1, ⟨hk.1.2.2.1, ⟨hk.1.2.2.2, hk.2⟩⟩⟩⟩)), (by (with_reducible repeat (first | apply Kd.V_alloc | apply Kd.V_drewN | apply Kd.V_drew)); exact Kd.V_mono HO1_1.out (fun _ hk => ⟨hk.1.1, ⟨hk.1.2.1, ⟨hk.1.2.2.1, ⟨hk.1.2.2.2, hk.2⟩⟩⟩⟩)), (by (with_reducible repeat (first | apply Kd.V_alloc | apply Kd.V_drewN | apply Kd.V_drew)); exact Kd.V_mono HO992.out (fun _ hk => ⟨hk.1.1, ⟨hk.1.2.1, ⟨hk.1.2.2.1, ⟨hk.1.2.2.2, hk.2⟩⟩⟩⟩)), (by (with_reducible repeat (first | apply Kd.V_alloc | apply Kd.V_drewN | apply Kd.V_drew)); exact Kd.V_mono HO996.out (fun _ hk => ⟨hk.1.1, ⟨hk.1.2.1, ⟨hk.1.2.2.1, ⟨hk.1.2.2.2, hk.2⟩⟩⟩⟩)), (zk BK1005.out), (zk BK985.out), (zk BK986.out), (zk BK987.out), GW1005.out, GE1005.out, NB985_1005.out, NB1005_985.out, NB986_1005.out, NB1005_986.out, NB987_1005.out, NB1005_987.out, zb⟩)
            · skip
              rintro ⟨v991, v995, gb1005⟩ w23 ⟨hS_, h0_, h1_, h2_, h3_, h4_, h5_, h6_, h7_, h8_, h9_, h10_, h11_, h12_, h13_, h14_, h15_, h16_⟩
              have n0_ : Aside0 (Kd.V (Kd.int .i64) 3 w23 w.heap.size (fun k_ => ((P0_1_ k_ ∨ P1_1_ k_) ∨ w.heap.size ≤ k_) ∧ k_ ≠ gb985 ∧ k_ ≠ gb986 ∧ k_ ≠ gb987 ∧ k_ ≠ gb1005) (.slice A0_1 l0_1.length c0_1) l0_1) := ⟨h0_⟩
              have n1_ : Aside0 (Kd.V (Kd.int .i64) 3 w23 w.heap.size (fun k_ => ((P0_1_ k_ ∨ P1_1_ k_) ∨ w.heap.size ≤ k_) ∧ k_ ≠ gb985 ∧ k_ ≠ gb986 ∧ k_ ≠ gb987 ∧ k_ ≠ gb1005) (.slice A1_1 l1_1.length c1_1) l1_1) := ⟨h1_⟩
              have n2_ : Aside0 (Kd.V (Kd.int .i64) 3 w23 w.heap.size (fun k_ => ((P0_1_ k_ ∨ P1_1_ k_) ∨ w.heap.size ≤ k_) ∧ k_ ≠ gb985 ∧ k_ ≠ gb986 ∧ k_ ≠ gb987 ∧ k_ ≠ gb1005) v991 t990) := ⟨h2_⟩
              have n3_ : Aside0 (Kd.V (Kd.int .i64) 3 w23 w.heap.size (fun k_ => ((P0_1_ k_ ∨ P1_1_ k_) ∨ w.heap.size ≤ k_) ∧ k_ ≠ gb985 ∧ k_ ≠ gb986 ∧ k_ ≠ gb987 ∧ k_ ≠ gb1005) v995 t994) := ⟨h3_⟩
              have n4_ : Aside0 (w23.heap[gb1005]? = some (.cells #[.bool false, .slice none 0 0] 64 (0, 0))) := ⟨h4_⟩
              have n5_ : Aside0 (w23.heap[gb985]? = some (.cells #[.bool a0_0, .slice A0_1 l0_1.length c0_1] 27 (0, 0))) := ⟨h5_⟩
              have n6_ : Aside0 (w23.heap[gb986]? = some (.cells #[.bool a1_0, .slice A1_1 l1_1.length c1_1] 27 (0, 0))) := ⟨h6_⟩
              have n7_ : Aside0 (w23.heap[gb987]? = some (.cells #[.bool false, .slice none 0 0] 27 (0, 0))) := ⟨h7_⟩
              have n8_ : Aside0 (w.heap.size ≤ gb1005) := ⟨h8_⟩
              have n9_ : Aside0 (w.heap.size ≤ gb1005) := ⟨h9_⟩
              have n10_ : Aside0 (gb985 ≠ gb1005) := ⟨h10_⟩
              have n11_ : Aside0 (gb1005 ≠ gb985) := ⟨h11_⟩
              have n12_ : Aside0 (gb986 ≠ gb1005) := ⟨h12_⟩
              have n13_ : Aside0 (gb1005 ≠ gb986) := ⟨h13_⟩
              have n14_ : Aside0 (gb987 ≠ gb1005) := ⟨h14_⟩
              have n15_ : Aside0 (gb1005 ≠ gb987) := ⟨h15_⟩
              have n16_ : Aside0 (Below w.heap.size w w23) := ⟨h16_⟩
              clear HO0_1
              clear HO1_1
              clear BK985
              clear BK986
              clear BK987
              clear HB
              clear h0_ h1_ h2_ h3_ h4_ h5_ h6_ h7_ h8_ h9_ h10_ h11_ h12_ h13_ h14_ h15_ h16_
              have HO0_1 := n0_
              have HO1_1 := n1_
              have HO992 := n2_
              have HO996 := n3_
              have BK1005 := n4_
              have BK985 := n5_
              have BK986 := n6_
              have BK987 := n7_
              have GW1005 := n8_
              have GE1005 := n9_
              have NB985_1005 := n10_
              have NB1005_985 := n11_
              have NB986_1005 := n12_
              have NB1005_986 := n13_
              have NB987_1005 := n14_
              have NB1005_987 := n15_
              have HB := n16_
              clear n0_ n1_ n2_ n3_ n4_ n5_ n6_ n7_ n8_ n9_ n10_ n11_ n12_ n13_ n14_ n15_ n16_
              have hHeld : w23.cell? ⟨gb985, 0, none⟩ = some (.bool a0_0) ∧ w23.cell? ⟨gb985, 1, none⟩ = some (.slice A0_1 l0_1.length c0_1) ∧ w23.cell? ⟨gb986, 0, none⟩ = some (.bool a1_0) ∧ w23.cell? ⟨gb986, 1, none⟩ = some (.slice A1_1 l1_1.length c1_1) := hS_
              obtain ⟨Ao24, co24, eo24⟩ := Kd.V_slice HO996.out
              (first | subst eo24 | (injection eo24 with f1_ f2_ f3_; have f4_ := f1_.symm; have f5_ := f3_.symm; clear f1_ f2_ f3_; subst f4_; subst f5_))
              refine norm_ (a' := ?_) ?_ ?_
              rotate_left
              · simp only [putAll, Act.put, List.setIfInBounds_toArray, List.set_cons_zero, List.set_cons_succ]
                rfl
              refine one_ (i := 4) (N := some 16) #[true, true, true, true, true, false, true, false] rfl rfl (one_of HT_.out (by kernel_rfl)) (by decide) (fun K hK => ?_)
              refine goes_ Try.func72 (by kernel_rfl) rfl #[.agg #[.bool t993, .slice Ao24 t994.length co24]] (by rfl) rfl rfl za ?_
              with_reducible refine (impl_signed_minus.calls t993 (fun k_ => (((P0_1_ k_ ∨ P1_1_ k_) ∨ w.heap.size ≤ k_) ∧ (k_ ≠ gb985 ∧ (k_ ≠ gb986 ∧ (k_ ≠ gb987 ∧ k_ ≠ gb1005))))) _ _ t994 t997 t998 _ ?side1 A7.out).mono ?_
              (case side1 => exact HO996.out)
              rintro e w25 ⟨v999, rfl, ho0, hb⟩
              refine ⟨_, rfl, ?_⟩
              have n0_ := Aside0.mk (Kd.V_below (zV HO0_1.out) hb)
              have n1_ := Aside0.mk (Kd.V_below (zV HO1_1.out) hb)
              have n2_ := Aside0.mk (Kd.V_below (zV HO992.out) hb)
              have n3_ := Aside0.mk (Kd.V_below (zV HO996.out) hb)
              have n4_ := Aside0.mk (Kd.V_lower (Kd.V_mono (ok' := fun k_ => ((P0_1_ k_ ∨ P1_1_ k_) ∨ w.heap.size ≤ k_) ∧ k_ ≠ gb985 ∧ k_ ≠ gb986 ∧ k_ ≠ gb987 ∧ k_ ≠ gb1005) ho0 (fun k_ hk_ => ⟨Or.elim hk_ (fun hs_ => hs_.1) (fun hn_ => (.inr (Nat.le_trans (below_size zb) hn_))), Or.elim hk_ (fun hs_ => hs_.2.1) (fun hn_ => (Kd.freshB (g := gb985) (o := .cells #[.bool a0_0, .slice A0_1 l0_1.length c0_1] 27 (0, 0)) (zk BK985.out) k_ hn_)), Or.elim hk_ (fun hs_ => hs_.2.2.1) (fun hn_ => (Kd.freshB (g := gb986) (o := .cells #[.bool a1_0, .slice A1_1 l1_1.length c1_1] 27 (0, 0)) (zk BK986.out) k_ hn_)), Or.elim hk_ (fun hs_ => hs_.2.2.2.1) (fun hn_ => (Kd.freshB (g := gb987) (o := .cells #[.bool false, .slice none 0 0] 27 (0, 0)) (zk BK987.out) k_ hn_)), Or.elim hk_ (fun hs_ => hs_.2.2.2.2) (fun hn_ => (Kd.freshB (g := gb1005) (o := .cells #[.bool false, .slice none 0 0] 64 (0, 0)) (zk BK1005.out) k_ hn_))⟩)) (below_size zb))
              have n5_ := Aside0.mk (blk_below (g := gb985) (o := .cells #[.bool a0_0, .slice A0_1 l0_1.length c0_1] 27 (0, 0)) (zk BK985.out) hb)
              have n6_ := Aside0.mk (blk_below (g := gb986) (o := .cells #[.bool a1_0, .slice A1_1 l1_1.length c1_1] 27 (0, 0)) (zk BK986.out) hb)
              have n7_ := Aside0.mk (blk_below (g := gb987) (o := .cells #[.bool false, .slice none 0 0] 27 (0, 0)) (zk BK987.out) hb)
              have n8_ := Aside0.mk (blk_below (g := gb1005) (o := .cells #[.bool false, .slice none 0 0] 64 (0, 0)) (zk BK1005.out) hb)
              have n9_ := Aside0.mk (below_step zb hb)
              clear HO0_1
              clear HO1_1
              clear HO992
              clear HO996
              clear BK985
              clear BK986
              clear BK987
              clear BK1005
              clear HB
              have HO0_1 := n0_
              have HO1_1 := n1_
              have HO992 := n2_
              have HO996 := n3_
              have HO1000 := n4_
              have BK985 := n5_
              have BK986 := n6_
              have BK987 := n7_
              have BK1005 := n8_
              have HB := n9_
              clear n0_ n1_ n2_ n3_ n4_ n5_ n6_ n7_ n8_ n9_
              (try clear hb)
              (try clear hb2)
              (try clear hk)
              (try clear hi)
              (try clear ho0)
              refine hK.out _ _ ⟨(blk_cell BK985.out 0).trans rfl, (blk_cell BK985.out 1).trans rfl, (blk_cell BK986.out 0).trans rfl, (blk_cell BK986.out 1).trans rfl⟩ (fun hHeld => ?_)
              clear hK K
              refine norm_ (a' := ?_) ?_ ?_
              rotate_left
              · show Act.put _ (some 16) _ = _
                simp only [Act.put, List.setIfInBounds_toArray, List.set_cons_zero, List.set_cons_succ, i64_w, i32_w]
                rfl
              exact norm_ (by first | (simp only [putAll, Act.put, List.setIfInBounds_toArray, List.set_cons_zero, List.set_cons_succ]; done) | (simp only [putAll, Act.put, List.setIfInBounds_toArray, List.set_cons_zero, List.set_cons_succ]; rfl)) (hJ1_3_4_6 (v991, .slice Ao24 t994.length co24, v999, gb1005) _ ⟨hHeld, (zV HO0_1.out), (zV HO1000.out), (zV HO1_1.out), (zV HO992.out), (zV HO996.out), (zk BK1005.out), (zk BK985.out), (zk BK986.out), (zk BK987.out), GW1005.out, GE1005.out, NB985_1005.out, NB1005_985.out, NB986_1005.out, NB1005_986.out, NB987_1005.out, NB1005_987.out, zb⟩)
          · skip
            rintro ⟨v991, v995, v999⟩ w24 ⟨hS_, h0_, h1_, h2_, h3_, h4_, h5_, h6_, h7_, h8_⟩
            have n0_ : Aside0 (Kd.V (Kd.int .i64) 3 w24 w.heap.size (fun k_ => ((P0_1_ k_ ∨ P1_1_ k_) ∨ w.heap.size ≤ k_) ∧ k_ ≠ gb985 ∧ k_ ≠ gb986 ∧ k_ ≠ gb987) (.slice A0_1 l0_1.length c0_1) l0_1) := ⟨h0_⟩
            have n1_ : Aside0 (Kd.V (Kd.int .i64) 3 w24 w.heap.size (fun k_ => ((P0_1_ k_ ∨ P1_1_ k_) ∨ w.heap.size ≤ k_) ∧ k_ ≠ gb985 ∧ k_ ≠ gb986 ∧ k_ ≠ gb987) v999 t998) := ⟨h1_⟩
            have n2_ : Aside0 (Kd.V (Kd.int .i64) 3 w24 w.heap.size (fun k_ => ((P0_1_ k_ ∨ P1_1_ k_) ∨ w.heap.size ≤ k_) ∧ k_ ≠ gb985 ∧ k_ ≠ gb986 ∧ k_ ≠ gb987) (.slice A1_1 l1_1.length c1_1) l1_1) := ⟨h2_⟩
            have n3_ : Aside0 (Kd.V (Kd.int .i64) 3 w24 w.heap.size (fun k_ => ((P0_1_ k_ ∨ P1_1_ k_) ∨ w.heap.size ≤ k_) ∧ k_ ≠ gb985 ∧ k_ ≠ gb986 ∧ k_ ≠ gb987) v991 t990) := ⟨h3_⟩
            have n4_ : Aside0 (Kd.V (Kd.int .i64) 3 w24 w.heap.size (fun k_ => ((P0_1_ k_ ∨ P1_1_ k_) ∨ w.heap.size ≤ k_) ∧ k_ ≠ gb985 ∧ k_ ≠ gb986 ∧ k_ ≠ gb987) v995 t994) := ⟨h4_⟩
            have n5_ : Aside0 (w24.heap[gb985]? = some (.cells #[.bool a0_0, .slice A0_1 l0_1.length c0_1] 27 (0, 0))) := ⟨h5_⟩
            have n6_ : Aside0 (w24.heap[gb986]? = some (.cells #[.bool a1_0, .slice A1_1 l1_1.length c1_1] 27 (0, 0))) := ⟨h6_⟩
            have n7_ : Aside0 (w24.heap[gb987]? = some (.cells #[.bool false, .slice none 0 0] 27 (0, 0))) := ⟨h7_⟩
            have n8_ : Aside0 (Below w.heap.size w w24) := ⟨h8_⟩
            clear HO0_1
            clear HO1_1
            clear BK985
            clear BK986
            clear BK987
            clear HB
            clear h0_ h1_ h2_ h3_ h4_ h5_ h6_ h7_ h8_
            have HO0_1 := n0_
            have HO1000 := n1_
            have HO1_1 := n2_
            have HO992 := n3_
            have HO996 := n4_
            have BK985 := n5_
            have BK986 := n6_
            have BK987 := n7_
            have HB := n8_
            clear n0_ n1_ n2_ n3_ n4_ n5_ n6_ n7_ n8_
            have hHeld : w24.cell? ⟨gb985, 0, none⟩ = some (.bool a0_0) ∧ w24.cell? ⟨gb985, 1, none⟩ = some (.slice A0_1 l0_1.length c0_1) ∧ w24.cell? ⟨gb986, 0, none⟩ = some (.bool a1_0) ∧ w24.cell? ⟨gb986, 1, none⟩ = some (.slice A1_1 l1_1.length c1_1) := hS_
            obtain ⟨Ao25, co25, eo25⟩ := Kd.V_slice HO992.out
            (first | subst eo25 | (injection eo25 with f1_ f2_ f3_; have f4_ := f1_.symm; have f5_ := f3_.symm; clear f1_ f2_ f3_; subst f4_; subst f5_))
            obtain ⟨Ao26, co26, eo26⟩ := Kd.V_slice HO1000.out
            (first | subst eo26 | (injection eo26 with f1_ f2_ f3_; have f4_ := f1_.symm; have f5_ := f3_.symm; clear f1_ f2_ f3_; subst f4_; subst f5_))
            refine norm_ (a' := ?_) ?_ ?_
            rotate_left
            · simp only [putAll, Act.put, List.setIfInBounds_toArray, List.set_cons_zero, List.set_cons_succ]
              rfl
            refine two_ (i := 5) (j := 6) (Ni := some 17) (Nj := some 6) #[true, true, true, true, true, true, false, false] #[true, true, true, true, true, false, true, false] rfl rfl rfl rfl (two_of HT_.out (by kernel_rfl)) (by decide) (by decide) (fun K hK => ?_) (fun K hK => ?_)
            · skip
              refine goes_ Try.func69 (by kernel_rfl) rfl #[.agg #[.bool t989, .slice Ao25 t990.length co25], .agg #[.bool t997, .slice Ao26 t998.length co26]] (by rfl) rfl rfl za ?_
              with_reducible refine (impl_signed_add.calls k t989 _ _ t990 t997 _ _ t998 t1001 t1002 _ ?side1 ?side2 ?side3 ?side4 A8.out).mono ?_
              (case side1 => repeat (first | exact (Kd.V_reads' HO992.out).2.2 | (with_reducible refine Kd.C_alloc ?_ _) | (with_reducible refine Kd.C_drewN ?_ _) | (with_reducible refine Kd.C_drew ?_)))
              (case side2 => exact (Kd.V_reads' HO992.out).2.1)
              (case side3 => repeat (first | exact (Kd.V_reads' HO1000.out).2.2 | (with_reducible refine Kd.C_alloc ?_ _) | (with_reducible refine Kd.C_drewN ?_ _) | (with_reducible refine Kd.C_drew ?_)))
              (case side4 => exact (Kd.V_reads' HO1000.out).2.1)
              rintro e w27 ⟨v1003, rfl, ho0, hb⟩
              refine ⟨_, rfl, ?_⟩
              have n0_ := Aside0.mk (Kd.V_below (zV HO0_1.out) hb)
              have n1_ := Aside0.mk (Kd.V_below (zV HO1_1.out) hb)
              have n2_ := Aside0.mk (Kd.V_below (zV HO992.out) hb)
              have n3_ := Aside0.mk (Kd.V_below (zV HO996.out) hb)
              have n4_ := Aside0.mk (Kd.V_below (zV HO1000.out) hb)
              have n5_ := Aside0.mk (Kd.V_lower (Kd.V_mono (ok' := fun k_ => ((P0_1_ k_ ∨ P1_1_ k_) ∨ w.heap.size ≤ k_) ∧ k_ ≠ gb985 ∧ k_ ≠ gb986 ∧ k_ ≠ gb987) ho0 (fun k_ hk_ => ⟨(.inr (Nat.le_trans (below_size zb) hk_)), (Kd.freshB (g := gb985) (o := .cells #[.bool a0_0, .slice A0_1 l0_1.length c0_1] 27 (0, 0)) (zk BK985.out) k_ hk_), (Kd.freshB (g := gb986) (o := .cells #[.bool a1_0, .slice A1_1 l1_1.length c1_1] 27 (0, 0)) (zk BK986.out) k_ hk_), (Kd.freshB (g := gb987) (o := .cells #[.bool false, .slice none 0 0] 27 (0, 0)) (zk BK987.out) k_ hk_)⟩)) (below_size zb))
              have n6_ := Aside0.mk (blk_below (g := gb985) (o := .cells #[.bool a0_0, .slice A0_1 l0_1.length c0_1] 27 (0, 0)) (zk BK985.out) hb)
              have n7_ := Aside0.mk (blk_below (g := gb986) (o := .cells #[.bool a1_0, .slice A1_1 l1_1.length c1_1] 27 (0, 0)) (zk BK986.out) hb)
              have n8_ := Aside0.mk (blk_below (g := gb987) (o := .cells #[.bool false, .slice none 0 0] 27 (0, 0)) (zk BK987.out) hb)
              have n9_ := Aside0.mk (below_step zb hb)
              clear HO0_1
              clear HO1_1
              clear HO992
              clear HO996
              clear HO1000
              clear BK985
              clear BK986
              clear BK987
              clear HB
              have HO0_1 := n0_
              have HO1_1 := n1_
              have HO992 := n2_
              have HO996 := n3_
              have HO1000 := n4_
              have HO1004 := n5_
              have BK985 := n6_
              have BK986 := n7_
              have BK987 := n8_
              have HB := n9_
              clear n0_ n1_ n2_ n3_ n4_ n5_ n6_ n7_ n8_ n9_
              (try clear hb)
              (try clear hb2)
              (try clear hk)
              (try clear hi)
              (try clear ho0)
              refine hK.out _ _ ⟨(blk_cell BK985.out 0).trans rfl, (blk_cell BK985.out 1).trans rfl, (blk_cell BK986.out 0).trans rfl, (blk_cell BK986.out 1).trans rfl⟩ (fun hHeld => ?_)
              clear hK K
              refine norm_ (a' := ?_) ?_ ?_
              rotate_left
              · show Act.put _ (some 17) _ = _
                simp only [Act.put, List.setIfInBounds_toArray, List.set_cons_zero, List.set_cons_succ, i64_w, i32_w]
                rfl
              exact norm_ (by first | (simp only [putAll, Act.put, List.setIfInBounds_toArray, List.set_cons_zero, List.set_cons_succ]; done) | (simp only [putAll, Act.put, List.setIfInBounds_toArray, List.set_cons_zero, List.set_cons_succ]; rfl)) (hJ1_3_4_5 (.slice Ao25 t990.length co25, v995, .slice Ao26 t998.length co26, v1003) _ ⟨hHeld, (zV HO0_1.out), (zV HO1000.out), (zV HO1004.out), (zV HO1_1.out), (zV HO992.out), (zV HO996.out), (zk BK985.out), (zk BK986.out), (zk BK987.out), zb⟩)
            · skip
              refine box_step ?hg (N := 6) ?hd (cs := #[.bool false, .slice none 0 0]) (t := 64) ?hr ?_; (case hd => rfl); (case hg => rfl); (case hr => first | (go_simp; done) | (go_simp; rfl))
              intro gb1005 hg w25 hbox hb
              have n0_ := Aside0.mk (Kd.V_below (Kd.V_elderB (zV HO0_1.out) gb1005 (Nat.le_of_eq hg.symm)) hb)
              have n1_ := Aside0.mk (Kd.V_below (Kd.V_elderB (zV HO1_1.out) gb1005 (Nat.le_of_eq hg.symm)) hb)
              have n2_ := Aside0.mk (Kd.V_below (Kd.V_elderB (zV HO992.out) gb1005 (Nat.le_of_eq hg.symm)) hb)
              have n3_ := Aside0.mk (Kd.V_below (Kd.V_elderB (zV HO996.out) gb1005 (Nat.le_of_eq hg.symm)) hb)
              have n4_ := Aside0.mk (Kd.V_below (Kd.V_elderB (zV HO1000.out) gb1005 (Nat.le_of_eq hg.symm)) hb)
              have n5_ := Aside0.mk (blk_below (g := gb985) (o := .cells #[.bool a0_0, .slice A0_1 l0_1.length c0_1] 27 (0, 0)) (zk BK985.out) hb)
              have n6_ := Aside0.mk (blk_below (g := gb986) (o := .cells #[.bool a1_0, .slice A1_1 l1_1.length c1_1] 27 (0, 0)) (zk BK986.out) hb)
              have n7_ := Aside0.mk (blk_below (g := gb987) (o := .cells #[.bool false, .slice none 0 0] 27 (0, 0)) (zk BK987.out) hb)
              have n8_ := Aside0.mk (below_step zb hb)
              have n9_ := Aside0.mk (hbox)
              have n10_ := Aside0.mk ((by rw [hg]; exact (below_size zb) : w.heap.size ≤ gb1005))
              have n11_ := Aside0.mk ((by rw [hg]; exact (below_size zb) : w.heap.size ≤ gb1005))
              have n12_ := Aside0.mk ((by rw [hg]; exact Nat.ne_of_lt (blk_lt (g := gb985) (o := .cells #[.bool a0_0, .slice A0_1 l0_1.length c0_1] 27 (0, 0)) (zk BK985.out)) : gb985 ≠ gb1005))
              have n13_ := Aside0.mk ((by rw [hg]; exact Nat.ne_of_gt (blk_lt (g := gb985) (o := .cells #[.bool a0_0, .slice A0_1 l0_1.length c0_1] 27 (0, 0)) (zk BK985.out)) : gb1005 ≠ gb985))
              have n14_ := Aside0.mk ((by rw [hg]; exact Nat.ne_of_lt (blk_lt (g := gb986) (o := .cells #[.bool a1_0, .slice A1_1 l1_1.length c1_1] 27 (0, 0)) (zk BK986.out)) : gb986 ≠ gb1005))
              have n15_ := Aside0.mk ((by rw [hg]; exact Nat.ne_of_gt (blk_lt (g := gb986) (o := .cells #[.bool a1_0, .slice A1_1 l1_1.length c1_1] 27 (0, 0)) (zk BK986.out)) : gb1005 ≠ gb986))
              have n16_ := Aside0.mk ((by rw [hg]; exact Nat.ne_of_lt (blk_lt (g := gb987) (o := .cells #[.bool false, .slice none 0 0] 27 (0, 0)) (zk BK987.out)) : gb987 ≠ gb1005))
              have n17_ := Aside0.mk ((by rw [hg]; exact Nat.ne_of_gt (blk_lt (g := gb987) (o := .cells #[.bool false, .slice none 0 0] 27 (0, 0)) (zk BK987.out)) : gb1005 ≠ gb987))
              clear HO0_1
              clear HO1_1
              clear HO992
              clear HO996
              clear HO1000
              clear BK985
              clear BK986
              clear BK987
              clear HB
              have HO0_1 := n0_
              have HO1_1 := n1_
              have HO992 := n2_
              have HO996 := n3_
              have HO1000 := n4_
              have BK985 := n5_
              have BK986 := n6_
              have BK987 := n7_
              have HB := n8_
              have BK1005 := n9_
              have GW1005 := n10_
              have GE1005 := n11_
              have NB985_1005 := n12_
              have NB1005_985 := n13_
              have NB986_1005 := n14_
              have NB1005_986 := n15_
              have NB987_1005 := n16_
              have NB1005_987 := n17_
              clear n0_ n1_ n2_ n3_ n4_ n5_ n6_ n7_ n8_ n9_ n10_ n11_ n12_ n13_ n14_ n15_ n16_ n17_
              clear hb hbox hg
              refine hK.out _ _ ⟨(blk_cell BK985.out 0).trans rfl, (blk_cell BK985.out 1).trans rfl, (blk_cell BK986.out 0).trans rfl, (blk_cell BK986.out 1).trans rfl⟩ (fun hHeld => ?_)
              clear hK K
              refine norm_ (a' := ?_) ?_ ?_
              rotate_left
              · show Act.put _ (some 6) _ = _
                simp only [Act.put, List.setIfInBounds_toArray, List.set_cons_zero, List.set_cons_succ, i64_w, i32_w]
                rfl
              exact norm_ (by first | (simp only [putAll, Act.put, List.setIfInBounds_toArray, List.set_cons_zero, List.set_cons_succ]; done) | (simp only [putAll, Act.put, List.setIfInBounds_toArray, List.set_cons_zero, List.set_cons_succ]; rfl)) (hJ1_3_4_6 ((.slice Ao25 t990.length co25), v995, (.slice Ao26 t998.length co26), gb1005) _ ⟨hHeld, (by (with_reducible repeat (first | apply Kd.V_alloc | apply Kd.V_drewN | apply Kd.V_drew)); exact Kd.V_mono HO0_1.out (fun _ hk => ⟨hk.1.1, ⟨hk.1.2.1, ⟨hk.1.2.2.1, ⟨hk.1.2.2.2, hk.2⟩⟩⟩⟩)), (by (with_reducible repeat (first | apply Kd.V_alloc | apply Kd.V_drewN | apply Kd.V_drew)); exact Kd.V_mono HO1000.out (fun _ hk => ⟨hk.1.1, ⟨hk.1.2.1, ⟨hk.1.2.2.1, ⟨hk.1.2.2.2, hk.2⟩⟩⟩⟩)), (by (with_reducible repeat (first | apply Kd.V_alloc | apply Kd.V_drewN | apply Kd.V_drew)); exact Kd.V_mono HO1_1.out (fun _ hk => ⟨hk.1.1, ⟨hk.1.2.1, ⟨hk.1.2.2.1, ⟨hk.1.2.2.2, hk.2⟩⟩⟩⟩)), (by (with_reducible repeat (first | apply Kd.V_alloc | apply Kd.V_drewN | apply Kd.V_drew)); exact Kd.V_mono HO992.out (fun _ hk => ⟨hk.1.1, ⟨hk.1.2.1, ⟨hk.1.2.2.1, ⟨hk.1.2.2.2, hk.2⟩⟩⟩⟩)), (by (with_reducible repeat (first | apply Kd.V_alloc | apply Kd.V_drewN | apply Kd.V_drew)); exact Kd.V_mono HO996.out (fun _ hk => ⟨hk.1.1, ⟨hk.1.2.1, ⟨hk.1.2.2.1, ⟨hk.1.2.2.2, hk.2⟩⟩⟩⟩)), (zk BK1005.out), (zk BK985.out), (zk BK986.out), (zk BK987.out), GW1005.out, GE1005.out, NB985_1005.out, NB1005_985.out, NB986_1005.out, NB1005_986.out, NB987_1005.out, NB1005_987.out, zb⟩)
        · skip
          rintro ⟨v991, v995, v999, gb1005⟩ w25 ⟨hS_, h0_, h1_, h2_, h3_, h4_, h5_, h6_, h7_, h8_, h9_, h10_, h11_, h12_, h13_, h14_, h15_, h16_, h17_⟩
          have n0_ : Aside0 (Kd.V (Kd.int .i64) 3 w25 w.heap.size (fun k_ => ((P0_1_ k_ ∨ P1_1_ k_) ∨ w.heap.size ≤ k_) ∧ k_ ≠ gb985 ∧ k_ ≠ gb986 ∧ k_ ≠ gb987 ∧ k_ ≠ gb1005) (.slice A0_1 l0_1.length c0_1) l0_1) := ⟨h0_⟩
          have n1_ : Aside0 (Kd.V (Kd.int .i64) 3 w25 w.heap.size (fun k_ => ((P0_1_ k_ ∨ P1_1_ k_) ∨ w.heap.size ≤ k_) ∧ k_ ≠ gb985 ∧ k_ ≠ gb986 ∧ k_ ≠ gb987 ∧ k_ ≠ gb1005) v999 t998) := ⟨h1_⟩
          have n2_ : Aside0 (Kd.V (Kd.int .i64) 3 w25 w.heap.size (fun k_ => ((P0_1_ k_ ∨ P1_1_ k_) ∨ w.heap.size ≤ k_) ∧ k_ ≠ gb985 ∧ k_ ≠ gb986 ∧ k_ ≠ gb987 ∧ k_ ≠ gb1005) (.slice A1_1 l1_1.length c1_1) l1_1) := ⟨h2_⟩
          have n3_ : Aside0 (Kd.V (Kd.int .i64) 3 w25 w.heap.size (fun k_ => ((P0_1_ k_ ∨ P1_1_ k_) ∨ w.heap.size ≤ k_) ∧ k_ ≠ gb985 ∧ k_ ≠ gb986 ∧ k_ ≠ gb987 ∧ k_ ≠ gb1005) v991 t990) := ⟨h3_⟩
          have n4_ : Aside0 (Kd.V (Kd.int .i64) 3 w25 w.heap.size (fun k_ => ((P0_1_ k_ ∨ P1_1_ k_) ∨ w.heap.size ≤ k_) ∧ k_ ≠ gb985 ∧ k_ ≠ gb986 ∧ k_ ≠ gb987 ∧ k_ ≠ gb1005) v995 t994) := ⟨h4_⟩
          have n5_ : Aside0 (w25.heap[gb1005]? = some (.cells #[.bool false, .slice none 0 0] 64 (0, 0))) := ⟨h5_⟩
          have n6_ : Aside0 (w25.heap[gb985]? = some (.cells #[.bool a0_0, .slice A0_1 l0_1.length c0_1] 27 (0, 0))) := ⟨h6_⟩
          have n7_ : Aside0 (w25.heap[gb986]? = some (.cells #[.bool a1_0, .slice A1_1 l1_1.length c1_1] 27 (0, 0))) := ⟨h7_⟩
          have n8_ : Aside0 (w25.heap[gb987]? = some (.cells #[.bool false, .slice none 0 0] 27 (0, 0))) := ⟨h8_⟩
          have n9_ : Aside0 (w.heap.size ≤ gb1005) := ⟨h9_⟩
          have n10_ : Aside0 (w.heap.size ≤ gb1005) := ⟨h10_⟩
          have n11_ : Aside0 (gb985 ≠ gb1005) := ⟨h11_⟩
          have n12_ : Aside0 (gb1005 ≠ gb985) := ⟨h12_⟩
          have n13_ : Aside0 (gb986 ≠ gb1005) := ⟨h13_⟩
          have n14_ : Aside0 (gb1005 ≠ gb986) := ⟨h14_⟩
          have n15_ : Aside0 (gb987 ≠ gb1005) := ⟨h15_⟩
          have n16_ : Aside0 (gb1005 ≠ gb987) := ⟨h16_⟩
          have n17_ : Aside0 (Below w.heap.size w w25) := ⟨h17_⟩
          clear HO0_1
          clear HO1_1
          clear BK985
          clear BK986
          clear BK987
          clear HB
          clear h0_ h1_ h2_ h3_ h4_ h5_ h6_ h7_ h8_ h9_ h10_ h11_ h12_ h13_ h14_ h15_ h16_ h17_
          have HO0_1 := n0_
          have HO1000 := n1_
          have HO1_1 := n2_
          have HO992 := n3_
          have HO996 := n4_
          have BK1005 := n5_
          have BK985 := n6_
          have BK986 := n7_
          have BK987 := n8_
          have GW1005 := n9_
          have GE1005 := n10_
          have NB985_1005 := n11_
          have NB1005_985 := n12_
          have NB986_1005 := n13_
          have NB1005_986 := n14_
          have NB987_1005 := n15_
          have NB1005_987 := n16_
          have HB := n17_
          clear n0_ n1_ n2_ n3_ n4_ n5_ n6_ n7_ n8_ n9_ n10_ n11_ n12_ n13_ n14_ n15_ n16_ n17_
          have hHeld : w25.cell? ⟨gb985, 0, none⟩ = some (.bool a0_0) ∧ w25.cell? ⟨gb985, 1, none⟩ = some (.slice A0_1 l0_1.length c0_1) ∧ w25.cell? ⟨gb986, 0, none⟩ = some (.bool a1_0) ∧ w25.cell? ⟨gb986, 1, none⟩ = some (.slice A1_1 l1_1.length c1_1) := hS_
          obtain ⟨Ao26, co26, eo26⟩ := Kd.V_slice HO992.out
          (first | subst eo26 | (injection eo26 with f1_ f2_ f3_; have f4_ := f1_.symm; have f5_ := f3_.symm; clear f1_ f2_ f3_; subst f4_; subst f5_))
          obtain ⟨Ao27, co27, eo27⟩ := Kd.V_slice HO1000.out
          (first | subst eo27 | (injection eo27 with f1_ f2_ f3_; have f4_ := f1_.symm; have f5_ := f3_.symm; clear f1_ f2_ f3_; subst f4_; subst f5_))
          refine norm_ (a' := ?_) ?_ ?_
          rotate_left
          · simp only [putAll, Act.put, List.setIfInBounds_toArray, List.set_cons_zero, List.set_cons_succ]
            rfl
          refine one_ (i := 5) (N := some 17) #[true, true, true, true, true, true, true, false] rfl rfl (one_of HT_.out (by kernel_rfl)) (by decide) (fun K hK => ?_)
          refine goes_ Try.func69 (by kernel_rfl) rfl #[.agg #[.bool t989, .slice Ao26 t990.length co26], .agg #[.bool t997, .slice Ao27 t998.length co27]] (by rfl) rfl rfl za ?_
          with_reducible refine (impl_signed_add.calls k t989 _ _ t990 t997 _ _ t998 t1001 t1002 _ ?side1 ?side2 ?side3 ?side4 A8.out).mono ?_
          (case side1 => repeat (first | exact (Kd.V_reads' HO992.out).2.2 | (with_reducible refine Kd.C_alloc ?_ _) | (with_reducible refine Kd.C_drewN ?_ _) | (with_reducible refine Kd.C_drew ?_)))
          (case side2 => exact (Kd.V_reads' HO992.out).2.1)
          (case side3 => repeat (first | exact (Kd.V_reads' HO1000.out).2.2 | (with_reducible refine Kd.C_alloc ?_ _) | (with_reducible refine Kd.C_drewN ?_ _) | (with_reducible refine Kd.C_drew ?_)))
          (case side4 => exact (Kd.V_reads' HO1000.out).2.1)
          rintro e w28 ⟨v1003, rfl, ho0, hb⟩
          refine ⟨_, rfl, ?_⟩
          have n0_ := Aside0.mk (Kd.V_below (zV HO0_1.out) hb)
          have n1_ := Aside0.mk (Kd.V_below (zV HO1_1.out) hb)
          have n2_ := Aside0.mk (Kd.V_below (zV HO992.out) hb)
          have n3_ := Aside0.mk (Kd.V_below (zV HO996.out) hb)
          have n4_ := Aside0.mk (Kd.V_below (zV HO1000.out) hb)
          have n5_ := Aside0.mk (Kd.V_lower (Kd.V_mono (ok' := fun k_ => ((P0_1_ k_ ∨ P1_1_ k_) ∨ w.heap.size ≤ k_) ∧ k_ ≠ gb985 ∧ k_ ≠ gb986 ∧ k_ ≠ gb987 ∧ k_ ≠ gb1005) ho0 (fun k_ hk_ => ⟨(.inr (Nat.le_trans (below_size zb) hk_)), (Kd.freshB (g := gb985) (o := .cells #[.bool a0_0, .slice A0_1 l0_1.length c0_1] 27 (0, 0)) (zk BK985.out) k_ hk_), (Kd.freshB (g := gb986) (o := .cells #[.bool a1_0, .slice A1_1 l1_1.length c1_1] 27 (0, 0)) (zk BK986.out) k_ hk_), (Kd.freshB (g := gb987) (o := .cells #[.bool false, .slice none 0 0] 27 (0, 0)) (zk BK987.out) k_ hk_), (Kd.freshB (g := gb1005) (o := .cells #[.bool false, .slice none 0 0] 64 (0, 0)) (zk BK1005.out) k_ hk_)⟩)) (below_size zb))
          have n6_ := Aside0.mk (blk_below (g := gb985) (o := .cells #[.bool a0_0, .slice A0_1 l0_1.length c0_1] 27 (0, 0)) (zk BK985.out) hb)
          have n7_ := Aside0.mk (blk_below (g := gb986) (o := .cells #[.bool a1_0, .slice A1_1 l1_1.length c1_1] 27 (0, 0)) (zk BK986.out) hb)
          have n8_ := Aside0.mk (blk_below (g := gb987) (o := .cells #[.bool false, .slice none 0 0] 27 (0, 0)) (zk BK987.out) hb)
          have n9_ := Aside0.mk (blk_below (g := gb1005) (o := .cells #[.bool false, .slice none 0 0] 64 (0, 0)) (zk BK1005.out) hb)
          have n10_ := Aside0.mk (below_step zb hb)
          clear HO0_1
          clear HO1_1
          clear HO992
          clear HO996
          clear HO1000
          clear BK985
          clear BK986
          clear BK987
          clear BK1005
          clear HB
          have HO0_1 := n0_
          have HO1_1 := n1_
          have HO992 := n2_
          have HO996 := n3_
          have HO1000 := n4_
          have HO1004 := n5_
          have BK985 := n6_
          have BK986 := n7_
          have BK987 := n8_
          have BK1005 := n9_
          have HB := n10_
          clear n0_ n1_ n2_ n3_ n4_ n5_ n6_ n7_ n8_ n9_ n10_
          (try clear hb)
          (try clear hb2)
          (try clear hk)
          (try clear hi)
          (try clear ho0)
          refine hK.out _ _ ⟨(blk_cell BK985.out 0).trans rfl, (blk_cell BK985.out 1).trans rfl, (blk_cell BK986.out 0).trans rfl, (blk_cell BK986.out 1).trans rfl⟩ (fun hHeld => ?_)
          clear hK K
          refine norm_ (a' := ?_) ?_ ?_
          rotate_left
          · show Act.put _ (some 17) _ = _
            simp only [Act.put, List.setIfInBounds_toArray, List.set_cons_zero, List.set_cons_succ, i64_w, i32_w]
            rfl
          exact norm_ (by first | (simp only [putAll, Act.put, List.setIfInBounds_toArray, List.set_cons_zero, List.set_cons_succ]; done) | (simp only [putAll, Act.put, List.setIfInBounds_toArray, List.set_cons_zero, List.set_cons_succ]; rfl)) (hJ1_3_4_5_6 (.slice Ao26 t990.length co26, v995, .slice Ao27 t998.length co27, v1003, gb1005) _ ⟨hHeld, (zV HO0_1.out), (zV HO1000.out), (zV HO1004.out), (zV HO1_1.out), (zV HO992.out), (zV HO996.out), (zk BK1005.out), (zk BK985.out), (zk BK986.out), (zk BK987.out), GW1005.out, GE1005.out, NB985_1005.out, NB1005_985.out, NB986_1005.out, NB1005_986.out, NB987_1005.out, NB1005_987.out, zb⟩)
      · skip
        rintro ⟨v991, v995, v999, v1003⟩ w27 ⟨hS_, h0_, h1_, h2_, h3_, h4_, h5_, h6_, h7_, h8_, h9_⟩
        have n0_ : Aside0 (Kd.V (Kd.int .i64) 3 w27 w.heap.size (fun k_ => ((P0_1_ k_ ∨ P1_1_ k_) ∨ w.heap.size ≤ k_) ∧ k_ ≠ gb985 ∧ k_ ≠ gb986 ∧ k_ ≠ gb987) (.slice A0_1 l0_1.length c0_1) l0_1) := ⟨h0_⟩
        have n1_ : Aside0 (Kd.V (Kd.int .i64) 3 w27 w.heap.size (fun k_ => ((P0_1_ k_ ∨ P1_1_ k_) ∨ w.heap.size ≤ k_) ∧ k_ ≠ gb985 ∧ k_ ≠ gb986 ∧ k_ ≠ gb987) v999 t998) := ⟨h1_⟩
        have n2_ : Aside0 (Kd.V (Kd.int .i64) 3 w27 w.heap.size (fun k_ => ((P0_1_ k_ ∨ P1_1_ k_) ∨ w.heap.size ≤ k_) ∧ k_ ≠ gb985 ∧ k_ ≠ gb986 ∧ k_ ≠ gb987) v1003 t1002) := ⟨h2_⟩
        have n3_ : Aside0 (Kd.V (Kd.int .i64) 3 w27 w.heap.size (fun k_ => ((P0_1_ k_ ∨ P1_1_ k_) ∨ w.heap.size ≤ k_) ∧ k_ ≠ gb985 ∧ k_ ≠ gb986 ∧ k_ ≠ gb987) (.slice A1_1 l1_1.length c1_1) l1_1) := ⟨h3_⟩
        have n4_ : Aside0 (Kd.V (Kd.int .i64) 3 w27 w.heap.size (fun k_ => ((P0_1_ k_ ∨ P1_1_ k_) ∨ w.heap.size ≤ k_) ∧ k_ ≠ gb985 ∧ k_ ≠ gb986 ∧ k_ ≠ gb987) v991 t990) := ⟨h4_⟩
        have n5_ : Aside0 (Kd.V (Kd.int .i64) 3 w27 w.heap.size (fun k_ => ((P0_1_ k_ ∨ P1_1_ k_) ∨ w.heap.size ≤ k_) ∧ k_ ≠ gb985 ∧ k_ ≠ gb986 ∧ k_ ≠ gb987) v995 t994) := ⟨h5_⟩
        have n6_ : Aside0 (w27.heap[gb985]? = some (.cells #[.bool a0_0, .slice A0_1 l0_1.length c0_1] 27 (0, 0))) := ⟨h6_⟩
        have n7_ : Aside0 (w27.heap[gb986]? = some (.cells #[.bool a1_0, .slice A1_1 l1_1.length c1_1] 27 (0, 0))) := ⟨h7_⟩
        have n8_ : Aside0 (w27.heap[gb987]? = some (.cells #[.bool false, .slice none 0 0] 27 (0, 0))) := ⟨h8_⟩
        have n9_ : Aside0 (Below w.heap.size w w27) := ⟨h9_⟩
        clear HO0_1
        clear HO1_1
        clear BK985
        clear BK986
        clear BK987
        clear HB
        clear h0_ h1_ h2_ h3_ h4_ h5_ h6_ h7_ h8_ h9_
        have HO0_1 := n0_
        have HO1000 := n1_
        have HO1004 := n2_
        have HO1_1 := n3_
        have HO992 := n4_
        have HO996 := n5_
        have BK985 := n6_
        have BK986 := n7_
        have BK987 := n8_
        have HB := n9_
        clear n0_ n1_ n2_ n3_ n4_ n5_ n6_ n7_ n8_ n9_
        have hHeld : w27.cell? ⟨gb985, 0, none⟩ = some (.bool a0_0) ∧ w27.cell? ⟨gb985, 1, none⟩ = some (.slice A0_1 l0_1.length c0_1) ∧ w27.cell? ⟨gb986, 0, none⟩ = some (.bool a1_0) ∧ w27.cell? ⟨gb986, 1, none⟩ = some (.slice A1_1 l1_1.length c1_1) := hS_
        refine norm_ (a' := ?_) ?_ ?_
        rotate_left
        · simp only [putAll, Act.put, List.setIfInBounds_toArray, List.set_cons_zero, List.set_cons_succ]
          rfl
        refine one_ (i := 6) (N := some 6) #[true, true, true, true, true, true, true, false] rfl rfl (one_of HT_.out (by kernel_rfl)) (by decide) (fun K hK => ?_)
        refine box_step ?hg (N := 6) ?hd (cs := #[.bool false, .slice none 0 0]) (t := 64) ?hr ?_; (case hd => rfl); (case hg => rfl); (case hr => first | (go_simp; done) | (go_simp; rfl))
        intro gb1005 hg w28 hbox hb
        have n0_ := Aside0.mk (Kd.V_below (Kd.V_elderB (zV HO0_1.out) gb1005 (Nat.le_of_eq hg.symm)) hb)
        have n1_ := Aside0.mk (Kd.V_below (Kd.V_elderB (zV HO1_1.out) gb1005 (Nat.le_of_eq hg.symm)) hb)
        have n2_ := Aside0.mk (Kd.V_below (Kd.V_elderB (zV HO992.out) gb1005 (Nat.le_of_eq hg.symm)) hb)
        have n3_ := Aside0.mk (Kd.V_below (Kd.V_elderB (zV HO996.out) gb1005 (Nat.le_of_eq hg.symm)) hb)
        have n4_ := Aside0.mk (Kd.V_below (Kd.V_elderB (zV HO1000.out) gb1005 (Nat.le_of_eq hg.symm)) hb)
        have n5_ := Aside0.mk (Kd.V_below (Kd.V_elderB (zV HO1004.out) gb1005 (Nat.le_of_eq hg.symm)) hb)
        have n6_ := Aside0.mk (blk_below (g := gb985) (o := .cells #[.bool a0_0, .slice A0_1 l0_1.length c0_1] 27 (0, 0)) (zk BK985.out) hb)
        have n7_ := Aside0.mk (blk_below (g := gb986) (o := .cells #[.bool a1_0, .slice A1_1 l1_1.length c1_1] 27 (0, 0)) (zk BK986.out) hb)
        have n8_ := Aside0.mk (blk_below (g := gb987) (o := .cells #[.bool false, .slice none 0 0] 27 (0, 0)) (zk BK987.out) hb)
        have n9_ := Aside0.mk (below_step zb hb)
        have n10_ := Aside0.mk (hbox)
        have n11_ := Aside0.mk ((by rw [hg]; exact (below_size zb) : w.heap.size ≤ gb1005))
        have n12_ := Aside0.mk ((by rw [hg]; exact (below_size zb) : w.heap.size ≤ gb1005))
        have n13_ := Aside0.mk ((by rw [hg]; exact Nat.ne_of_lt (blk_lt (g := gb985) (o := .cells #[.bool a0_0, .slice A0_1 l0_1.length c0_1] 27 (0, 0)) (zk BK985.out)) : gb985 ≠ gb1005))
        have n14_ := Aside0.mk ((by rw [hg]; exact Nat.ne_of_gt (blk_lt (g := gb985) (o := .cells #[.bool a0_0, .slice A0_1 l0_1.length c0_1] 27 (0, 0)) (zk BK985.out)) : gb1005 ≠ gb985))
        have n15_ := Aside0.mk ((by rw [hg]; exact Nat.ne_of_lt (blk_lt (g := gb986) (o := .cells #[.bool a1_0, .slice A1_1 l1_1.length c1_1] 27 (0, 0)) (zk BK986.out)) : gb986 ≠ gb1005))
        have n16_ := Aside0.mk ((by rw [hg]; exact Nat.ne_of_gt (blk_lt (g := gb986) (o := .cells #[.bool a1_0, .slice A1_1 l1_1.length c1_1] 27 (0, 0)) (zk BK986.out)) : gb1005 ≠ gb986))
        have n17_ := Aside0.mk ((by rw [hg]; exact Nat.ne_of_lt (blk_lt (g := gb987) (o := .cells #[.bool false, .slice none 0 0] 27 (0, 0)) (zk BK987.out)) : gb987 ≠ gb1005))
        have n18_ := Aside0.mk ((by rw [hg]; exact Nat.ne_of_gt (blk_lt (g := gb987) (o := .cells #[.bool false, .slice none 0 0] 27 (0, 0)) (zk BK987.out)) : gb1005 ≠ gb987))
        clear HO0_1
        clear HO1_1
        clear HO992
        clear HO996
        clear HO1000
        clear HO1004
        clear BK985
        clear BK986
        clear BK987
        clear HB
        have HO0_1 := n0_
        have HO1_1 := n1_
        have HO992 := n2_
        have HO996 := n3_
        have HO1000 := n4_
        have HO1004 := n5_
        have BK985 := n6_
        have BK986 := n7_
        have BK987 := n8_
        have HB := n9_
        have BK1005 := n10_
        have GW1005 := n11_
        have GE1005 := n12_
        have NB985_1005 := n13_
        have NB1005_985 := n14_
        have NB986_1005 := n15_
        have NB1005_986 := n16_
        have NB987_1005 := n17_
        have NB1005_987 := n18_
        clear n0_ n1_ n2_ n3_ n4_ n5_ n6_ n7_ n8_ n9_ n10_ n11_ n12_ n13_ n14_ n15_ n16_ n17_ n18_
        clear hb hbox hg
        refine hK.out _ _ ⟨(blk_cell BK985.out 0).trans rfl, (blk_cell BK985.out 1).trans rfl, (blk_cell BK986.out 0).trans rfl, (blk_cell BK986.out 1).trans rfl⟩ (fun hHeld => ?_)
        clear hK K
        refine norm_ (a' := ?_) ?_ ?_
        rotate_left
        · show Act.put _ (some 6) _ = _
          simp only [Act.put, List.setIfInBounds_toArray, List.set_cons_zero, List.set_cons_succ, i64_w, i32_w]
          rfl
        exact norm_ (by first | (simp only [putAll, Act.put, List.setIfInBounds_toArray, List.set_cons_zero, List.set_cons_succ]; done) | (simp only [putAll, Act.put, List.setIfInBounds_toArray, List.set_cons_zero, List.set_cons_succ]; rfl)) (hJ1_3_4_5_6 (v991, v995, v999, v1003, gb1005) _ ⟨hHeld, (by (with_reducible repeat (first | apply Kd.V_alloc | apply Kd.V_drewN | apply Kd.V_drew)); exact Kd.V_mono HO0_1.out (fun _ hk => ⟨hk.1.1, ⟨hk.1.2.1, ⟨hk.1.2.2.1, ⟨hk.1.2.2.2, hk.2⟩⟩⟩⟩)), (by (with_reducible repeat (first | apply Kd.V_alloc | apply Kd.V_drewN | apply Kd.V_drew)); exact Kd.V_mono HO1000.out (fun _ hk => ⟨hk.1.1, ⟨hk.1.2.1, ⟨hk.1.2.2.1, ⟨hk.1.2.2.2, hk.2⟩⟩⟩⟩)), (by (with_reducible repeat (first | apply Kd.V_alloc | apply Kd.V_drewN | apply Kd.V_drew)); exact Kd.V_mono HO1004.out (fun _ hk => ⟨hk.1.1, ⟨hk.1.2.1, ⟨hk.1.2.2.1, ⟨hk.1.2.2.2, hk.2⟩⟩⟩⟩)), (by (with_reducible repeat (first | apply Kd.V_alloc | apply Kd.V_drewN | apply Kd.V_drew)); exact Kd.V_mono HO1_1.out (fun _ hk => ⟨hk.1.1, ⟨hk.1.2.1, ⟨hk.1.2.2.1, ⟨hk.1.2.2.2, hk.2⟩⟩⟩⟩)), (by (with_reducible repeat (first | apply Kd.V_alloc | apply Kd.V_drewN | apply Kd.V_drew)); exact Kd.V_mono HO992.out (fun _ hk => ⟨hk.1.1, ⟨hk.1.2.1, ⟨hk.1.2.2.1, ⟨hk.1.2.2.2, hk.2⟩⟩⟩⟩)), (by (with_reducible repeat (first | apply Kd.V_alloc | apply Kd.V_drewN | apply Kd.V_drew)); exact Kd.V_mono HO996.out (fun _ hk => ⟨hk.1.1, ⟨hk.1.2.1, ⟨hk.1.2.2.1, ⟨hk.1.2.2.2, hk.2⟩⟩⟩⟩)), (zk BK1005.out), (zk BK985.out), (zk BK986.out), (zk BK987.out), GW1005.out, GE1005.out, NB985_1005.out, NB1005_985.out, NB986_1005.out, NB1005_986.out, NB987_1005.out, NB1005_987.out, zb⟩)
    rintro ⟨v991, v995, v999, v1003, gb1005⟩ w28 ⟨hS_, h0_, h1_, h2_, h3_, h4_, h5_, h6_, h7_, h8_, h9_, h10_, h11_, h12_, h13_, h14_, h15_, h16_, h17_, h18_⟩
    have n0_ : Aside0 (Kd.V (Kd.int .i64) 3 w28 w.heap.size (fun k_ => ((P0_1_ k_ ∨ P1_1_ k_) ∨ w.heap.size ≤ k_) ∧ k_ ≠ gb985 ∧ k_ ≠ gb986 ∧ k_ ≠ gb987 ∧ k_ ≠ gb1005) (.slice A0_1 l0_1.length c0_1) l0_1) := ⟨h0_⟩
    have n1_ : Aside0 (Kd.V (Kd.int .i64) 3 w28 w.heap.size (fun k_ => ((P0_1_ k_ ∨ P1_1_ k_) ∨ w.heap.size ≤ k_) ∧ k_ ≠ gb985 ∧ k_ ≠ gb986 ∧ k_ ≠ gb987 ∧ k_ ≠ gb1005) v999 t998) := ⟨h1_⟩
    have n2_ : Aside0 (Kd.V (Kd.int .i64) 3 w28 w.heap.size (fun k_ => ((P0_1_ k_ ∨ P1_1_ k_) ∨ w.heap.size ≤ k_) ∧ k_ ≠ gb985 ∧ k_ ≠ gb986 ∧ k_ ≠ gb987 ∧ k_ ≠ gb1005) v1003 t1002) := ⟨h2_⟩
    have n3_ : Aside0 (Kd.V (Kd.int .i64) 3 w28 w.heap.size (fun k_ => ((P0_1_ k_ ∨ P1_1_ k_) ∨ w.heap.size ≤ k_) ∧ k_ ≠ gb985 ∧ k_ ≠ gb986 ∧ k_ ≠ gb987 ∧ k_ ≠ gb1005) (.slice A1_1 l1_1.length c1_1) l1_1) := ⟨h3_⟩
    have n4_ : Aside0 (Kd.V (Kd.int .i64) 3 w28 w.heap.size (fun k_ => ((P0_1_ k_ ∨ P1_1_ k_) ∨ w.heap.size ≤ k_) ∧ k_ ≠ gb985 ∧ k_ ≠ gb986 ∧ k_ ≠ gb987 ∧ k_ ≠ gb1005) v991 t990) := ⟨h4_⟩
    have n5_ : Aside0 (Kd.V (Kd.int .i64) 3 w28 w.heap.size (fun k_ => ((P0_1_ k_ ∨ P1_1_ k_) ∨ w.heap.size ≤ k_) ∧ k_ ≠ gb985 ∧ k_ ≠ gb986 ∧ k_ ≠ gb987 ∧ k_ ≠ gb1005) v995 t994) := ⟨h5_⟩
    have n6_ : Aside0 (w28.heap[gb1005]? = some (.cells #[.bool false, .slice none 0 0] 64 (0, 0))) := ⟨h6_⟩
    have n7_ : Aside0 (w28.heap[gb985]? = some (.cells #[.bool a0_0, .slice A0_1 l0_1.length c0_1] 27 (0, 0))) := ⟨h7_⟩
    have n8_ : Aside0 (w28.heap[gb986]? = some (.cells #[.bool a1_0, .slice A1_1 l1_1.length c1_1] 27 (0, 0))) := ⟨h8_⟩
    have n9_ : Aside0 (w28.heap[gb987]? = some (.cells #[.bool false, .slice none 0 0] 27 (0, 0))) := ⟨h9_⟩
    have n10_ : Aside0 (w.heap.size ≤ gb1005) := ⟨h10_⟩
    have n11_ : Aside0 (w.heap.size ≤ gb1005) := ⟨h11_⟩
    have n12_ : Aside0 (gb985 ≠ gb1005) := ⟨h12_⟩
    have n13_ : Aside0 (gb1005 ≠ gb985) := ⟨h13_⟩
    have n14_ : Aside0 (gb986 ≠ gb1005) := ⟨h14_⟩
    have n15_ : Aside0 (gb1005 ≠ gb986) := ⟨h15_⟩
    have n16_ : Aside0 (gb987 ≠ gb1005) := ⟨h16_⟩
    have n17_ : Aside0 (gb1005 ≠ gb987) := ⟨h17_⟩
    have n18_ : Aside0 (Below w.heap.size w w28) := ⟨h18_⟩
    clear HO0_1
    clear HO1_1
    clear BK985
    clear BK986
    clear BK987
    clear HB
    clear h0_ h1_ h2_ h3_ h4_ h5_ h6_ h7_ h8_ h9_ h10_ h11_ h12_ h13_ h14_ h15_ h16_ h17_ h18_
    have HO0_1 := n0_
    have HO1000 := n1_
    have HO1004 := n2_
    have HO1_1 := n3_
    have HO992 := n4_
    have HO996 := n5_
    have BK1005 := n6_
    have BK985 := n7_
    have BK986 := n8_
    have BK987 := n9_
    have GW1005 := n10_
    have GE1005 := n11_
    have NB985_1005 := n12_
    have NB1005_985 := n13_
    have NB986_1005 := n14_
    have NB1005_986 := n15_
    have NB987_1005 := n16_
    have NB1005_987 := n17_
    have HB := n18_
    clear n0_ n1_ n2_ n3_ n4_ n5_ n6_ n7_ n8_ n9_ n10_ n11_ n12_ n13_ n14_ n15_ n16_ n17_ n18_
    have hHeld : w28.cell? ⟨gb985, 0, none⟩ = some (.bool a0_0) ∧ w28.cell? ⟨gb985, 1, none⟩ = some (.slice A0_1 l0_1.length c0_1) ∧ w28.cell? ⟨gb986, 0, none⟩ = some (.bool a1_0) ∧ w28.cell? ⟨gb986, 1, none⟩ = some (.slice A1_1 l1_1.length c1_1) := hS_
    obtain ⟨Ao30, co30, eo30⟩ := Kd.V_slice HO1004.out
    (first | subst eo30 | (injection eo30 with f1_ f2_ f3_; have f4_ := f1_.symm; have f5_ := f3_.symm; clear f1_ f2_ f3_; subst f4_; subst f5_))
    refine norm_ (a' := ?_) ?_ ?_
    rotate_left
    · simp only [putAll, Act.put, List.setIfInBounds_toArray, List.set_cons_zero, List.set_cons_succ]
      rfl
    refine one_ (i := 7) (N := none) #[true, true, true, true, true, true, true, true] rfl rfl (one_of HT_.out (by kernel_rfl)) (by decide) (fun K hK => ?_)
    have hs29 : w28.cell? ⟨gb1005, 0, none⟩ = some (.bool false) := (blk_cell BK1005.out 0).trans rfl
    have hfs29 := blk_frozen BK1005.out 0
    have hns29_0 := NB985_1005.out
    have hns29_1 := NB986_1005.out
    have hns29_2 := NB987_1005.out
    have hms29_0 := NB1005_985.out
    have hms29_1 := NB1005_986.out
    have hms29_2 := NB1005_987.out
    have hs31 : w28.cell? ⟨gb1005, 1, none⟩ = some (.slice none 0 0) := (blk_cell BK1005.out 1).trans rfl
    have hfs31 := blk_frozen BK1005.out 1
    have hns31_0 := NB985_1005.out
    have hns31_1 := NB986_1005.out
    have hns31_2 := NB987_1005.out
    have hms31_0 := NB1005_985.out
    have hms31_1 := NB1005_986.out
    have hms31_2 := NB1005_987.out
    refine skip_ (w1 := ?_) (by rfl) rfl ?_ ?_
    rotate_left
    · go_simp
      rfl
    refine hK.out _ _ ⟨((cell_far (p := ⟨gb1005, _, none⟩) NB985_1005.out _).trans (((cell_far (p := ⟨gb1005, _, none⟩) NB985_1005.out _).trans (hHeld.1)))), ((cell_far (p := ⟨gb1005, _, none⟩) NB985_1005.out _).trans (((cell_far (p := ⟨gb1005, _, none⟩) NB985_1005.out _).trans (hHeld.2.1)))), ((cell_far (p := ⟨gb1005, _, none⟩) NB986_1005.out _).trans (((cell_far (p := ⟨gb1005, _, none⟩) NB986_1005.out _).trans (hHeld.2.2.1)))), ((cell_far (p := ⟨gb1005, _, none⟩) NB986_1005.out _).trans (((cell_far (p := ⟨gb1005, _, none⟩) NB986_1005.out _).trans (hHeld.2.2.2))))⟩ (fun hHeld => ?_)
    clear hK K
    refine done_ (done_of HT_.out (by kernel_rfl)) ?_
    have n0_ : Aside0 (Kd.V (Kd.int .i64) 3 ((w28.setCell ⟨gb1005, 0, none⟩ (.bool t1001)).setCell ⟨gb1005, 1, none⟩ (.slice Ao30 t1002.length co30)) w.heap.size (fun k_ => ((P0_1_ k_ ∨ P1_1_ k_) ∨ w.heap.size ≤ k_) ∧ k_ ≠ gb985 ∧ k_ ≠ gb986 ∧ k_ ≠ gb987 ∧ k_ ≠ gb1005) (.slice A0_1 l0_1.length c0_1) l0_1) := ⟨by (with_reducible repeat (first | apply Kd.V_alloc | apply Kd.V_drewN | apply Kd.V_drew)); exact Kd.V_mono (Kd.V_far (p := ⟨gb1005, 1, none⟩) (Kd.V_far (p := ⟨gb1005, 0, none⟩) (Kd.V_mono HO0_1.out (fun k_ hk => (⟨hk, hk.2.2.2.2⟩ : _ ∧ k_ ≠ gb1005))) (fun _ hk => hk.2) (.bool t1001)) (fun _ hk => hk.2) (.slice Ao30 t1002.length co30)) (fun _ hk => ⟨hk.1.1, ⟨hk.1.2.1, ⟨hk.1.2.2.1, ⟨hk.1.2.2.2.1, hk.1.2.2.2.2⟩⟩⟩⟩)⟩
    have n1_ : Aside0 (Kd.V (Kd.int .i64) 3 ((w28.setCell ⟨gb1005, 0, none⟩ (.bool t1001)).setCell ⟨gb1005, 1, none⟩ (.slice Ao30 t1002.length co30)) w.heap.size (fun k_ => ((P0_1_ k_ ∨ P1_1_ k_) ∨ w.heap.size ≤ k_) ∧ k_ ≠ gb985 ∧ k_ ≠ gb986 ∧ k_ ≠ gb987 ∧ k_ ≠ gb1005) (.slice A1_1 l1_1.length c1_1) l1_1) := ⟨by (with_reducible repeat (first | apply Kd.V_alloc | apply Kd.V_drewN | apply Kd.V_drew)); exact Kd.V_mono (Kd.V_far (p := ⟨gb1005, 1, none⟩) (Kd.V_far (p := ⟨gb1005, 0, none⟩) (Kd.V_mono HO1_1.out (fun k_ hk => (⟨hk, hk.2.2.2.2⟩ : _ ∧ k_ ≠ gb1005))) (fun _ hk => hk.2) (.bool t1001)) (fun _ hk => hk.2) (.slice Ao30 t1002.length co30)) (fun _ hk => ⟨hk.1.1, ⟨hk.1.2.1, ⟨hk.1.2.2.1, ⟨hk.1.2.2.2.1, hk.1.2.2.2.2⟩⟩⟩⟩)⟩
    have n2_ : Aside0 (Kd.V (Kd.int .i64) 3 ((w28.setCell ⟨gb1005, 0, none⟩ (.bool t1001)).setCell ⟨gb1005, 1, none⟩ (.slice Ao30 t1002.length co30)) w.heap.size (fun k_ => ((P0_1_ k_ ∨ P1_1_ k_) ∨ w.heap.size ≤ k_) ∧ k_ ≠ gb985 ∧ k_ ≠ gb986 ∧ k_ ≠ gb987 ∧ k_ ≠ gb1005) v991 t990) := ⟨by (with_reducible repeat (first | apply Kd.V_alloc | apply Kd.V_drewN | apply Kd.V_drew)); exact Kd.V_mono (Kd.V_far (p := ⟨gb1005, 1, none⟩) (Kd.V_far (p := ⟨gb1005, 0, none⟩) (Kd.V_mono HO992.out (fun k_ hk => (⟨hk, hk.2.2.2.2⟩ : _ ∧ k_ ≠ gb1005))) (fun _ hk => hk.2) (.bool t1001)) (fun _ hk => hk.2) (.slice Ao30 t1002.length co30)) (fun _ hk => ⟨hk.1.1, ⟨hk.1.2.1, ⟨hk.1.2.2.1, ⟨hk.1.2.2.2.1, hk.1.2.2.2.2⟩⟩⟩⟩)⟩
    have n3_ : Aside0 (Kd.V (Kd.int .i64) 3 ((w28.setCell ⟨gb1005, 0, none⟩ (.bool t1001)).setCell ⟨gb1005, 1, none⟩ (.slice Ao30 t1002.length co30)) w.heap.size (fun k_ => ((P0_1_ k_ ∨ P1_1_ k_) ∨ w.heap.size ≤ k_) ∧ k_ ≠ gb985 ∧ k_ ≠ gb986 ∧ k_ ≠ gb987 ∧ k_ ≠ gb1005) v995 t994) := ⟨by (with_reducible repeat (first | apply Kd.V_alloc | apply Kd.V_drewN | apply Kd.V_drew)); exact Kd.V_mono (Kd.V_far (p := ⟨gb1005, 1, none⟩) (Kd.V_far (p := ⟨gb1005, 0, none⟩) (Kd.V_mono HO996.out (fun k_ hk => (⟨hk, hk.2.2.2.2⟩ : _ ∧ k_ ≠ gb1005))) (fun _ hk => hk.2) (.bool t1001)) (fun _ hk => hk.2) (.slice Ao30 t1002.length co30)) (fun _ hk => ⟨hk.1.1, ⟨hk.1.2.1, ⟨hk.1.2.2.1, ⟨hk.1.2.2.2.1, hk.1.2.2.2.2⟩⟩⟩⟩)⟩
    have n4_ : Aside0 (Kd.V (Kd.int .i64) 3 ((w28.setCell ⟨gb1005, 0, none⟩ (.bool t1001)).setCell ⟨gb1005, 1, none⟩ (.slice Ao30 t1002.length co30)) w.heap.size (fun k_ => ((P0_1_ k_ ∨ P1_1_ k_) ∨ w.heap.size ≤ k_) ∧ k_ ≠ gb985 ∧ k_ ≠ gb986 ∧ k_ ≠ gb987 ∧ k_ ≠ gb1005) v999 t998) := ⟨by (with_reducible repeat (first | apply Kd.V_alloc | apply Kd.V_drewN | apply Kd.V_drew)); exact Kd.V_mono (Kd.V_far (p := ⟨gb1005, 1, none⟩) (Kd.V_far (p := ⟨gb1005, 0, none⟩) (Kd.V_mono HO1000.out (fun k_ hk => (⟨hk, hk.2.2.2.2⟩ : _ ∧ k_ ≠ gb1005))) (fun _ hk => hk.2) (.bool t1001)) (fun _ hk => hk.2) (.slice Ao30 t1002.length co30)) (fun _ hk => ⟨hk.1.1, ⟨hk.1.2.1, ⟨hk.1.2.2.1, ⟨hk.1.2.2.2.1, hk.1.2.2.2.2⟩⟩⟩⟩)⟩
    have n5_ : Aside0 (Kd.V (Kd.int .i64) 3 ((w28.setCell ⟨gb1005, 0, none⟩ (.bool t1001)).setCell ⟨gb1005, 1, none⟩ (.slice Ao30 t1002.length co30)) w.heap.size (fun k_ => ((P0_1_ k_ ∨ P1_1_ k_) ∨ w.heap.size ≤ k_) ∧ k_ ≠ gb985 ∧ k_ ≠ gb986 ∧ k_ ≠ gb987 ∧ k_ ≠ gb1005) (.slice Ao30 t1002.length co30) t1002) := ⟨by (with_reducible repeat (first | apply Kd.V_alloc | apply Kd.V_drewN | apply Kd.V_drew)); exact Kd.V_mono (Kd.V_far (p := ⟨gb1005, 1, none⟩) (Kd.V_far (p := ⟨gb1005, 0, none⟩) (Kd.V_mono HO1004.out (fun k_ hk => (⟨hk, hk.2.2.2.2⟩ : _ ∧ k_ ≠ gb1005))) (fun _ hk => hk.2) (.bool t1001)) (fun _ hk => hk.2) (.slice Ao30 t1002.length co30)) (fun _ hk => ⟨hk.1.1, ⟨hk.1.2.1, ⟨hk.1.2.2.1, ⟨hk.1.2.2.2.1, hk.1.2.2.2.2⟩⟩⟩⟩)⟩
    have n6_ : Aside0 (((w28.setCell ⟨gb1005, 0, none⟩ (.bool t1001)).setCell ⟨gb1005, 1, none⟩ (.slice Ao30 t1002.length co30)).heap[gb985]? = some (.cells #[.bool a0_0, .slice A0_1 l0_1.length c0_1] 27 (0, 0))) := ⟨by (with_reducible repeat (first | refine blk_drewN ?_ _ | refine blk_drew ?_ | refine blk_alloc ?_ _)); refine blk_far ?_ NB985_1005.out _; (with_reducible repeat (first | refine blk_drewN ?_ _ | refine blk_drew ?_ | refine blk_alloc ?_ _)); refine blk_far ?_ NB985_1005.out _; (with_reducible repeat (first | refine blk_drewN ?_ _ | refine blk_drew ?_ | refine blk_alloc ?_ _)); exact BK985.out⟩
    have n7_ : Aside0 (((w28.setCell ⟨gb1005, 0, none⟩ (.bool t1001)).setCell ⟨gb1005, 1, none⟩ (.slice Ao30 t1002.length co30)).heap[gb986]? = some (.cells #[.bool a1_0, .slice A1_1 l1_1.length c1_1] 27 (0, 0))) := ⟨by (with_reducible repeat (first | refine blk_drewN ?_ _ | refine blk_drew ?_ | refine blk_alloc ?_ _)); refine blk_far ?_ NB986_1005.out _; (with_reducible repeat (first | refine blk_drewN ?_ _ | refine blk_drew ?_ | refine blk_alloc ?_ _)); refine blk_far ?_ NB986_1005.out _; (with_reducible repeat (first | refine blk_drewN ?_ _ | refine blk_drew ?_ | refine blk_alloc ?_ _)); exact BK986.out⟩
    have n8_ : Aside0 (((w28.setCell ⟨gb1005, 0, none⟩ (.bool t1001)).setCell ⟨gb1005, 1, none⟩ (.slice Ao30 t1002.length co30)).heap[gb987]? = some (.cells #[.bool false, .slice none 0 0] 27 (0, 0))) := ⟨by (with_reducible repeat (first | refine blk_drewN ?_ _ | refine blk_drew ?_ | refine blk_alloc ?_ _)); refine blk_far ?_ NB987_1005.out _; (with_reducible repeat (first | refine blk_drewN ?_ _ | refine blk_drew ?_ | refine blk_alloc ?_ _)); refine blk_far ?_ NB987_1005.out _; (with_reducible repeat (first | refine blk_drewN ?_ _ | refine blk_drew ?_ | refine blk_alloc ?_ _)); exact BK987.out⟩
    have n9_ : Aside0 (((w28.setCell ⟨gb1005, 0, none⟩ (.bool t1001)).setCell ⟨gb1005, 1, none⟩ (.slice Ao30 t1002.length co30)).heap[gb1005]? = some (.cells #[.bool t1001, .slice Ao30 t1002.length co30] 64 (0, 0))) := ⟨by (with_reducible repeat (first | refine blk_drewN ?_ _ | refine blk_drew ?_ | refine blk_alloc ?_ _)); refine blk_put (cs := #[.bool t1001, .slice none 0 0]) ?_ 1 _ rfl; (with_reducible repeat (first | refine blk_drewN ?_ _ | refine blk_drew ?_ | refine blk_alloc ?_ _)); refine blk_put (cs := #[.bool false, .slice none 0 0]) ?_ 0 _ rfl; (with_reducible repeat (first | refine blk_drewN ?_ _ | refine blk_drew ?_ | refine blk_alloc ?_ _)); exact BK1005.out⟩
    have n10_ : Aside0 (Below w.heap.size w ((w28.setCell ⟨gb1005, 0, none⟩ (.bool t1001)).setCell ⟨gb1005, 1, none⟩ (.slice Ao30 t1002.length co30))) := ⟨zb⟩
    (try clear HO0_1)
    (try clear HO1_1)
    (try clear HO992)
    (try clear HO996)
    (try clear HO1000)
    (try clear HO1004)
    (try clear BK985)
    (try clear BK986)
    (try clear BK987)
    (try clear BK1005)
    (try clear HB)
    generalize ((w28.setCell ⟨gb1005, 0, none⟩ (.bool t1001)).setCell ⟨gb1005, 1, none⟩ (.slice Ao30 t1002.length co30)) = w32 at n0_ n1_ n2_ n3_ n4_ n5_ n6_ n7_ n8_ n9_ n10_ ⊢
    have HO0_1 := n0_
    have HO1_1 := n1_
    have HO992 := n2_
    have HO996 := n3_
    have HO1000 := n4_
    have HO1004 := n5_
    have BK985 := n6_
    have BK986 := n7_
    have BK987 := n8_
    have BK1005 := n9_
    have HB := n10_
    clear n0_ n1_ n2_ n3_ n4_ n5_ n6_ n7_ n8_ n9_ n10_
    have hnb33 := NB1005_985.out
    have hnc33 := NB985_1005.out
    have hnb34 := NB1005_986.out
    have hnc34 := NB986_1005.out
    have hnb35 := NB1005_987.out
    have hnc35 := NB987_1005.out
    have hcz36_0 : w32.cell? ⟨gb1005, 0, none⟩ = some (.bool t1001) := (blk_cell BK1005.out 0).trans rfl
    have hcz36_1 : w32.cell? ⟨gb1005, 1, none⟩ = some (.slice Ao30 t1002.length co30) := (blk_cell BK1005.out 1).trans rfl
    have hfz36_0 := blk_frozen BK1005.out 0
    have hfz36_1 := blk_frozen BK1005.out 1
    try go_wp2_with (first | ((with_reducible refine gate_callee (f := 55) rfl ?_); refine goesL_ (some 22) rfl rfl Try.func55 (by kernel_rfl) rfl #[.bool t1001, .slice Ao30 t1002.length co30] rfl za ?_; (with_reducible refine (impl_big.calls k t1001 (fun k_ => (((P0_1_ k_ ∨ P1_1_ k_) ∨ w.heap.size ≤ k_) ∧ (k_ ≠ gb985 ∧ (k_ ≠ gb986 ∧ (k_ ≠ gb987 ∧ k_ ≠ gb1005))))) _ _ t1002 t1006 t1007 t1010 _ ?side1 A9.out).mono ?_); (case side1 => exact HO1004.out); rintro e w37 ⟨v1008, rfl, ho0, hb⟩; refine ⟨_, rfl, ?_⟩; have n0_ := Aside0.mk (Kd.V_below (zV HO0_1.out) hb); have n1_ := Aside0.mk (Kd.V_below (zV HO1_1.out) hb); have n2_ := Aside0.mk (Kd.V_below (zV HO992.out) hb); have n3_ := Aside0.mk (Kd.V_below (zV HO996.out) hb); have n4_ := Aside0.mk (Kd.V_below (zV HO1000.out) hb); have n5_ := Aside0.mk (Kd.V_below (zV HO1004.out) hb); have n6_ := Aside0.mk (Kd.V_lower (Kd.V_mono (ok' := fun k_ => ((P0_1_ k_ ∨ P1_1_ k_) ∨ w.heap.size ≤ k_) ∧ k_ ≠ gb985 ∧ k_ ≠ gb986 ∧ k_ ≠ gb987 ∧ k_ ≠ gb1005) ho0 (fun k_ hk_ => ⟨Or.elim hk_ (fun hs_ => hs_.1) (fun hn_ => (.inr (Nat.le_trans (below_size zb) hn_))), Or.elim hk_ (fun hs_ => hs_.2.1) (fun hn_ => (Kd.freshB (g := gb985) (o := .cells #[.bool a0_0, .slice A0_1 l0_1.length c0_1] 27 (0, 0)) (zk BK985.out) k_ hn_)), Or.elim hk_ (fun hs_ => hs_.2.2.1) (fun hn_ => (Kd.freshB (g := gb986) (o := .cells #[.bool a1_0, .slice A1_1 l1_1.length c1_1] 27 (0, 0)) (zk BK986.out) k_ hn_)), Or.elim hk_ (fun hs_ => hs_.2.2.2.1) (fun hn_ => (Kd.freshB (g := gb987) (o := .cells #[.bool false, .slice none 0 0] 27 (0, 0)) (zk BK987.out) k_ hn_)), Or.elim hk_ (fun hs_ => hs_.2.2.2.2) (fun hn_ => (Kd.freshB (g := gb1005) (o := .cells #[.bool t1001, .slice Ao30 t1002.length co30] 64 (0, 0)) (zk BK1005.out) k_ hn_))⟩)) (below_size zb)); have n7_ := Aside0.mk (blk_below (g := gb985) (o := .cells #[.bool a0_0, .slice A0_1 l0_1.length c0_1] 27 (0, 0)) (zk BK985.out) hb); have n8_ := Aside0.mk (blk_below (g := gb986) (o := .cells #[.bool a1_0, .slice A1_1 l1_1.length c1_1] 27 (0, 0)) (zk BK986.out) hb); have n9_ := Aside0.mk (blk_below (g := gb987) (o := .cells #[.bool false, .slice none 0 0] 27 (0, 0)) (zk BK987.out) hb); have n10_ := Aside0.mk (blk_below (g := gb1005) (o := .cells #[.bool t1001, .slice Ao30 t1002.length co30] 64 (0, 0)) (zk BK1005.out) hb); have n11_ := Aside0.mk (below_step zb hb); clear HO0_1; clear HO1_1; clear HO992; clear HO996; clear HO1000; clear HO1004; clear BK985; clear BK986; clear BK987; clear BK1005; clear HB; have HO0_1 := n0_; have HO1_1 := n1_; have HO992 := n2_; have HO996 := n3_; have HO1000 := n4_; have HO1004 := n5_; have HO1009 := n6_; have BK985 := n7_; have BK986 := n8_; have BK987 := n9_; have BK1005 := n10_; have HB := n11_; clear n0_ n1_ n2_ n3_ n4_ n5_ n6_ n7_ n8_ n9_ n10_ n11_; (try clear hb); (try clear hb2); (try clear hk); (try clear hi); (try clear ho0); have hcz38_0 : w37.cell? ⟨gb987, 0, none⟩ = some (.bool false) := (blk_cell BK987.out 0).trans rfl; have hcz38_1 : w37.cell? ⟨gb987, 1, none⟩ = some (.slice none 0 0) := (blk_cell BK987.out 1).trans rfl; have hfz38_0 := blk_frozen BK987.out 0; have hfz38_1 := blk_frozen BK987.out 1; obtain ⟨Ao39, co39, eo39⟩ := Kd.V_slice HO1009.out; subst eo39))
    refine bodyPost_ret (results_ct rfl _ _ gb987 27 #[.bool t1006, .slice Ao39 t1007.length co39] (0, 0) _ rfl (by (with_reducible repeat (first | refine blk_drewN ?_ _ | refine blk_drew ?_ | refine blk_alloc ?_ _)); refine blk_put (cs := #[.bool t1006, .slice none 0 0]) ?_ 1 _ rfl; (with_reducible repeat (first | refine blk_drewN ?_ _ | refine blk_drew ?_ | refine blk_alloc ?_ _)); refine blk_put (cs := #[.bool false, .slice none 0 0]) ?_ 0 _ rfl; (with_reducible repeat (first | refine blk_drewN ?_ _ | refine blk_drew ?_ | refine blk_alloc ?_ _)); exact BK987.out) Try.underlying27 rfl (by kernel_rfl)) rfl ?_
    exact ⟨_, by first | rfl | (simp [errW_none, errW_some] <;> rfl) | (simp [*, errW_none, errW_some] <;> rfl), by (with_reducible repeat (first | apply Kd.V_alloc | apply Kd.V_drewN | apply Kd.V_drew)); exact Kd.V_mono (Kd.V_far (p := ⟨gb987, 1, none⟩) (Kd.V_far (p := ⟨gb987, 0, none⟩) (Kd.V_mono HO1009.out (fun k_ hk => (⟨hk, hk.2.2.2.1⟩ : _ ∧ k_ ≠ gb987))) (fun _ hk => hk.2) (.bool t1006)) (fun _ hk => hk.2) (.slice Ao39 t1007.length co39)) (fun _ hk => hk.1.1), zb⟩
  · replace c4 := Bool.eq_false_iff.mpr c4
    subst c4
    have H1 : (some (false, ([] : List Int), false)) = some (r1, r2, r3) := by rw [if_neg (show ¬ (false = true) by decide)] at H; exact H
    clear H
    have H := H1
    clear H1
    simp only [Option.some.injEq, Prod.mk.injEq] at H
    obtain ⟨rfl, rfl, rfl⟩ := H
    go_enter Try.func41, Try.ntmps41
    go_wp2_with (first | ((with_reducible refine gate_dst (N := 2) rfl ?_); refine box_event ?hg (N := 2) ?hd (cs := #[.bool a0_0, .slice A0_1 l0_1.length c0_1]) (t := 27) ?hr ?_; (case hd => rfl); (case hg => rfl); (case hr => first | (go_simp; done) | (go_simp; rfl)); intro gb985 hg w40 hbox hb; have n0_ := Aside0.mk (Kd.V_below (Kd.V_elderB (zV HO0_1.out) gb985 (Nat.le_of_eq hg.symm)) hb); have n1_ := Aside0.mk (Kd.V_below (Kd.V_elderB (zV HO1_1.out) gb985 (Nat.le_of_eq hg.symm)) hb); have n2_ := Aside0.mk (below_step zb hb); have n3_ := Aside0.mk (hbox); have n4_ := Aside0.mk ((by rw [hg]; exact (below_size zb) : w.heap.size ≤ gb985)); have n5_ := Aside0.mk ((by rw [hg]; exact (below_size zb) : w.heap.size ≤ gb985)); clear HO0_1; clear HO1_1; clear HB; have HO0_1 := n0_; have HO1_1 := n1_; have HB := n2_; have BK985 := n3_; have GW985 := n4_; have GE985 := n5_; clear n0_ n1_ n2_ n3_ n4_ n5_; clear hb hbox hg) | ((with_reducible refine gate_dst (N := 3) rfl ?_); refine box_event ?hg (N := 3) ?hd (cs := #[.bool a1_0, .slice A1_1 l1_1.length c1_1]) (t := 27) ?hr ?_; (case hd => rfl); (case hg => rfl); (case hr => first | (go_simp; done) | (go_simp; rfl)); intro gb986 hg w41 hbox hb; have n0_ := Aside0.mk (Kd.V_below (Kd.V_elderB (zV HO0_1.out) gb986 (Nat.le_of_eq hg.symm)) hb); have n1_ := Aside0.mk (Kd.V_below (Kd.V_elderB (zV HO1_1.out) gb986 (Nat.le_of_eq hg.symm)) hb); have n2_ := Aside0.mk (blk_below (g := gb985) (o := .cells #[.bool a0_0, .slice A0_1 l0_1.length c0_1] 27 (0, 0)) (zk BK985.out) hb); have n3_ := Aside0.mk (below_step zb hb); have n4_ := Aside0.mk (hbox); have n5_ := Aside0.mk ((by rw [hg]; exact (below_size zb) : w.heap.size ≤ gb986)); have n6_ := Aside0.mk ((by rw [hg]; exact (below_size zb) : w.heap.size ≤ gb986)); have n7_ := Aside0.mk ((by rw [hg]; exact Nat.ne_of_lt (blk_lt (g := gb985) (o := .cells #[.bool a0_0, .slice A0_1 l0_1.length c0_1] 27 (0, 0)) (zk BK985.out)) : gb985 ≠ gb986)); have n8_ := Aside0.mk ((by rw [hg]; exact Nat.ne_of_gt (blk_lt (g := gb985) (o := .cells #[.bool a0_0, .slice A0_1 l0_1.length c0_1] 27 (0, 0)) (zk BK985.out)) : gb986 ≠ gb985)); clear HO0_1; clear HO1_1; clear BK985; clear HB; have HO0_1 := n0_; have HO1_1 := n1_; have BK985 := n2_; have HB := n3_; have BK986 := n4_; have GW986 := n5_; have GE986 := n6_; have NB985_986 := n7_; have NB986_985 := n8_; clear n0_ n1_ n2_ n3_ n4_ n5_ n6_ n7_ n8_; clear hb hbox hg) | ((with_reducible refine gate_dst (N := 4) rfl ?_); refine box_event ?hg (N := 4) ?hd (cs := #[.bool false, .slice none 0 0]) (t := 27) ?hr ?_; (case hd => rfl); (case hg => rfl); (case hr => first | (go_simp; done) | (go_simp; rfl)); intro gb987 hg w42 hbox hb; have n0_ := Aside0.mk (Kd.V_below (Kd.V_elderB (zV HO0_1.out) gb987 (Nat.le_of_eq hg.symm)) hb); have n1_ := Aside0.mk (Kd.V_below (Kd.V_elderB (zV HO1_1.out) gb987 (Nat.le_of_eq hg.symm)) hb); have n2_ := Aside0.mk (blk_below (g := gb985) (o := .cells #[.bool a0_0, .slice A0_1 l0_1.length c0_1] 27 (0, 0)) (zk BK985.out) hb); have n3_ := Aside0.mk (blk_below (g := gb986) (o := .cells #[.bool a1_0, .slice A1_1 l1_1.length c1_1] 27 (0, 0)) (zk BK986.out) hb); have n4_ := Aside0.mk (below_step zb hb); have n5_ := Aside0.mk (hbox); have n6_ := Aside0.mk ((by rw [hg]; exact (below_size zb) : w.heap.size ≤ gb987)); have n7_ := Aside0.mk ((by rw [hg]; exact (below_size zb) : w.heap.size ≤ gb987)); have n8_ := Aside0.mk ((by rw [hg]; exact Nat.ne_of_lt (blk_lt (g := gb985) (o := .cells #[.bool a0_0, .slice A0_1 l0_1.length c0_1] 27 (0, 0)) (zk BK985.out)) : gb985 ≠ gb987)); have n9_ := Aside0.mk ((by rw [hg]; exact Nat.ne_of_gt (blk_lt (g := gb985) (o := .cells #[.bool a0_0, .slice A0_1 l0_1.length c0_1] 27 (0, 0)) (zk BK985.out)) : gb987 ≠ gb985)); have n10_ := Aside0.mk ((by rw [hg]; exact Nat.ne_of_lt (blk_lt (g := gb986) (o := .cells #[.bool a1_0, .slice A1_1 l1_1.length c1_1] 27 (0, 0)) (zk BK986.out)) : gb986 ≠ gb987)); have n11_ := Aside0.mk ((by rw [hg]; exact Nat.ne_of_gt (blk_lt (g := gb986) (o := .cells #[.bool a1_0, .slice A1_1 l1_1.length c1_1] 27 (0, 0)) (zk BK986.out)) : gb987 ≠ gb986)); clear HO0_1; clear HO1_1; clear BK985; clear BK986; clear HB; have HO0_1 := n0_; have HO1_1 := n1_; have BK985 := n2_; have BK986 := n3_; have HB := n4_; have BK987 := n5_; have GW987 := n6_; have GE987 := n7_; have NB985_987 := n8_; have NB987_985 := n9_; have NB986_987 := n10_; have NB987_986 := n11_; clear n0_ n1_ n2_ n3_ n4_ n5_ n6_ n7_ n8_ n9_ n10_ n11_; clear hb hbox hg; have hnb43 := NB985_986.out; have hnc43 := NB986_985.out; have hnb44 := NB985_987.out; have hnc44 := NB987_985.out; have hcz45_0 : w42.cell? ⟨gb985, 0, none⟩ = some (.bool a0_0) := (blk_cell BK985.out 0).trans rfl; have hcz45_1 : w42.cell? ⟨gb985, 1, none⟩ = some (.slice A0_1 l0_1.length c0_1) := (blk_cell BK985.out 1).trans rfl; have hfz45_0 := blk_frozen BK985.out 0; have hfz45_1 := blk_frozen BK985.out 1; have hnb46 := NB986_987.out; have hnc46 := NB987_986.out; have hcz47_0 : w42.cell? ⟨gb986, 0, none⟩ = some (.bool a1_0) := (blk_cell BK986.out 0).trans rfl; have hcz47_1 : w42.cell? ⟨gb986, 1, none⟩ = some (.slice A1_1 l1_1.length c1_1) := (blk_cell BK986.out 1).trans rfl; have hfz47_0 := blk_frozen BK986.out 0; have hfz47_1 := blk_frozen BK986.out 1) | ((with_reducible refine gate_callee (f := 67) rfl ?_); refine goesL_ (some 9) rfl rfl Try.func67 (by kernel_rfl) rfl #[.agg #[.bool a0_0, .slice A0_1 l0_1.length c0_1], .agg #[.bool a1_0, .slice A1_1 l1_1.length c1_1]] rfl za ?_; (with_reducible refine (impl_bigs.calls a0_0 _ _ l0_1 a1_0 _ _ l1_1 false _ ?side1 ?side2 ?side3 ?side4 A3.out).mono ?_); (case side1 => repeat (first | exact (Kd.V_reads' HO0_1.out).2.2 | (with_reducible refine Kd.C_alloc ?_ _) | (with_reducible refine Kd.C_drewN ?_ _) | (with_reducible refine Kd.C_drew ?_))); (case side2 => exact (Kd.V_reads' HO0_1.out).2.1); (case side3 => repeat (first | exact (Kd.V_reads' HO1_1.out).2.2 | (with_reducible refine Kd.C_alloc ?_ _) | (with_reducible refine Kd.C_drewN ?_ _) | (with_reducible refine Kd.C_drew ?_))); (case side4 => exact (Kd.V_reads' HO1_1.out).2.1); rintro e w48 ⟨rfl, hb⟩; refine ⟨_, rfl, ?_⟩; have n0_ := Aside0.mk (Kd.V_below (zV HO0_1.out) hb); have n1_ := Aside0.mk (Kd.V_below (zV HO1_1.out) hb); have n2_ := Aside0.mk (blk_below (g := gb985) (o := .cells #[.bool a0_0, .slice A0_1 l0_1.length c0_1] 27 (0, 0)) (zk BK985.out) hb); have n3_ := Aside0.mk (blk_below (g := gb986) (o := .cells #[.bool a1_0, .slice A1_1 l1_1.length c1_1] 27 (0, 0)) (zk BK986.out) hb); have n4_ := Aside0.mk (blk_below (g := gb987) (o := .cells #[.bool false, .slice none 0 0] 27 (0, 0)) (zk BK987.out) hb); have n5_ := Aside0.mk (below_step zb hb); clear HO0_1; clear HO1_1; clear BK985; clear BK986; clear BK987; clear HB; have HO0_1 := n0_; have HO1_1 := n1_; have BK985 := n2_; have BK986 := n3_; have BK987 := n4_; have HB := n5_; clear n0_ n1_ n2_ n3_ n4_ n5_; (try clear hb); (try clear hb2); (try clear hk); (try clear hi); have hcz49_0 : w48.cell? ⟨gb987, 0, none⟩ = some (.bool false) := (blk_cell BK987.out 0).trans rfl; have hcz49_1 : w48.cell? ⟨gb987, 1, none⟩ = some (.slice none 0 0) := (blk_cell BK987.out 1).trans rfl; have hfz49_0 := blk_frozen BK987.out 0; have hfz49_1 := blk_frozen BK987.out 1))
    refine bodyPost_ret (results_ct rfl _ _ gb987 27 #[.bool false, .slice none 0 0] (0, 0) _ rfl (by (with_reducible repeat (first | refine blk_drewN ?_ _ | refine blk_drew ?_ | refine blk_alloc ?_ _)); refine blk_put (cs := #[.bool false, .slice none 0 0]) ?_ 1 _ rfl; (with_reducible repeat (first | refine blk_drewN ?_ _ | refine blk_drew ?_ | refine blk_alloc ?_ _)); refine blk_put (cs := #[.bool false, .slice none 0 0]) ?_ 0 _ rfl; (with_reducible repeat (first | refine blk_drewN ?_ _ | refine blk_drew ?_ | refine blk_alloc ?_ _)); exact BK987.out) Try.underlying27 rfl (by kernel_rfl)) rfl ?_
    exact ⟨_, by first | rfl | (simp [errW_none, errW_some] <;> rfl) | (simp [*, errW_none, errW_some] <;> rfl), Kd.V_nil _ _ _ _ _, zb⟩
end Go.Proofs.Ytdemeoncjcbojaa.Pr
end
section
namespace Go.Proofs.Ytdemeoncjcbojaa.Pr
open Go.RowKit Go.Proofs.YtdemeoncjcbojaaW.PrintWords Go.Proofs.YtdemeoncjcbojaaW.PrintLast Go.Proofs.Ytdemeoncjcbojaa.Ext Go.Proofs.YtdemeoncjcbojaaW.PrintMore
attribute [local go_sem] max2_int min2_int max_two min_two max_three min_three max_four min_four
set_option linter.unusedVariables false
set_option linter.unusedSimpArgs false
def laws_FnBigSub.f (k : Nat) (l0 : List Int) : Option (Bool) := if (l0.length : Int) > 1048576 then (some true) else ((spec_DrawBigSub.f k l0).bind fun bt1274 => ((impl_BigSub.f k bt1274.1 bt1274.2.1 bt1274.2.2.1 bt1274.2.2.2).bind fun bt1284 => ((spec_BigSub.f k bt1274.1 bt1274.2.1 bt1274.2.2.1 bt1274.2.2.2).bind fun bt1290 => (if (bt1284.2.2 != bt1290.2.2) = true then (none) else ((laws_jtBig.f k bt1284.1 bt1284.2.1 bt1290.1 bt1290.2.1).bind fun t1296 => (if t1296 = true then (if bt1284.2.2 = true then ((impl_BigSub.f k bt1274.2.2.1 bt1274.2.2.2 bt1274.1 bt1274.2.1).bind fun bt1298 => ((impl_BigAdd.f k bt1284.1 bt1284.2.1 bt1298.1 bt1298.2.1).bind fun bt1304 => ((impl_BigSub.f k bt1274.1 bt1274.2.1 bt1274.1 bt1274.2.1).bind fun bt1310 => (if bt1298.2.2 = true then (if bt1304.2.2 = true then (if bt1310.2.2 = true then ((laws_jtZero.f bt1304.1 bt1304.2.1).bind fun t1316 => (if t1316 = true then ((laws_jtZero.f bt1310.1 bt1310.2.1).bind fun t1317 => (some t1317)) else (none))) else (none)) else (none)) else (none))))) else (if (bt1284.2.2 == bt1290.2.2) = true then ((laws_jtBig.f k bt1284.1 bt1284.2.1 bt1290.1 bt1290.2.1).bind fun t1297 => (some t1297)) else (none))) else (none)))))))
set_option maxHeartbeats 8000000 in
set_option maxRecDepth 100000 in
theorem laws_FnBigSub.calls (k : Nat) (A0 : Option Addr) (c0 : Nat) (l0 : List Int) (r : Bool) (w : World) (hr0 : Kd.C (Kd.int .u8) w A0 l0.length l0) (hc0 : l0.length ≤ c0) (h : laws_FnBigSub.f k l0 = some r) :
    Calls Try.prog 17 #[.slice A0 l0.length c0] w fun e w' => e = .returned (.bool r) ∧ Below w.heap.size w w' := by
  have hu27 := Try.underlying27
  have HR0 := Aside0.mk hr0
  have HC0 := Aside0.mk hc0
  clear hr0 hc0
  have HB := Aside0.mk (Below.refl w.heap.size w)
  have H : (if (l0.length : Int) > 1048576 then (some true) else ((spec_DrawBigSub.f k l0).bind fun bt1274 => ((impl_BigSub.f k bt1274.1 bt1274.2.1 bt1274.2.2.1 bt1274.2.2.2).bind fun bt1284 => ((spec_BigSub.f k bt1274.1 bt1274.2.1 bt1274.2.2.1 bt1274.2.2.2).bind fun bt1290 => (if (bt1284.2.2 != bt1290.2.2) = true then (none) else ((laws_jtBig.f k bt1284.1 bt1284.2.1 bt1290.1 bt1290.2.1).bind fun t1296 => (if t1296 = true then (if bt1284.2.2 = true then ((impl_BigSub.f k bt1274.2.2.1 bt1274.2.2.2 bt1274.1 bt1274.2.1).bind fun bt1298 => ((impl_BigAdd.f k bt1284.1 bt1284.2.1 bt1298.1 bt1298.2.1).bind fun bt1304 => ((impl_BigSub.f k bt1274.1 bt1274.2.1 bt1274.1 bt1274.2.1).bind fun bt1310 => (if bt1298.2.2 = true then (if bt1304.2.2 = true then (if bt1310.2.2 = true then ((laws_jtZero.f bt1304.1 bt1304.2.1).bind fun t1316 => (if t1316 = true then ((laws_jtZero.f bt1310.1 bt1310.2.1).bind fun t1317 => (some t1317)) else (none))) else (none)) else (none)) else (none))))) else (if (bt1284.2.2 == bt1290.2.2) = true then ((laws_jtBig.f k bt1284.1 bt1284.2.1 bt1290.1 bt1290.2.1).bind fun t1297 => (some t1297)) else (none))) else (none)))))))) = some r := h
  clear h
  by_cases c2 : (l0.length : Int) > 1048576
  · rw [if_pos c2] at H
    have c2b0 : decide (1048576 < (l0.length : Int)) = true := decide_eq_true c2
    have c2b1 : decide (1048576 < l0.length) = true := decide_eq_true (by omega)
    clear c2
    obtain rfl := Option.some.inj H
    go_enter Try.func17, Try.ntmps17
    go_wp2
    go_ret
    exact ⟨by first | rfl | (simp [errW_none, errW_some] <;> rfl) | (simp [*, errW_none, errW_some] <;> rfl), zb⟩
  · rw [if_neg c2] at H
    have c2b0 : decide (1048576 < (l0.length : Int)) = false := decide_eq_false c2
    have c2b1 : decide (1048576 < l0.length) = false := decide_eq_false (by omega)
    clear c2
    replace H := Option.bind_eq_some_iff.mp H
    obtain ⟨⟨t1274, t1275, t1278, t1279⟩, A30, H⟩ := H
    replace H : ((impl_BigSub.f k t1274 t1275 t1278 t1279).bind fun bt1284 => ((spec_BigSub.f k t1274 t1275 t1278 t1279).bind fun bt1290 => (if (bt1284.2.2 != bt1290.2.2) = true then (none) else ((laws_jtBig.f k bt1284.1 bt1284.2.1 bt1290.1 bt1290.2.1).bind fun t1296 => (if t1296 = true then (if bt1284.2.2 = true then ((impl_BigSub.f k t1278 t1279 t1274 t1275).bind fun bt1298 => ((impl_BigAdd.f k bt1284.1 bt1284.2.1 bt1298.1 bt1298.2.1).bind fun bt1304 => ((impl_BigSub.f k t1274 t1275 t1274 t1275).bind fun bt1310 => (if bt1298.2.2 = true then (if bt1304.2.2 = true then (if bt1310.2.2 = true then ((laws_jtZero.f bt1304.1 bt1304.2.1).bind fun t1316 => (if t1316 = true then ((laws_jtZero.f bt1310.1 bt1310.2.1).bind fun t1317 => (some t1317)) else (none))) else (none)) else (none)) else (none))))) else (if (bt1284.2.2 == bt1290.2.2) = true then ((laws_jtBig.f k bt1284.1 bt1284.2.1 bt1290.1 bt1290.2.1).bind fun t1297 => (some t1297)) else (none))) else (none)))))) = some r := H
    have A3 := Aside0.mk A30
    clear A30
    replace H := Option.bind_eq_some_iff.mp H
    obtain ⟨⟨t1284, t1285, t1288⟩, A40, H⟩ := H
    replace H : ((spec_BigSub.f k t1274 t1275 t1278 t1279).bind fun bt1290 => (if (t1288 != bt1290.2.2) = true then (none) else ((laws_jtBig.f k t1284 t1285 bt1290.1 bt1290.2.1).bind fun t1296 => (if t1296 = true then (if t1288 = true then ((impl_BigSub.f k t1278 t1279 t1274 t1275).bind fun bt1298 => ((impl_BigAdd.f k t1284 t1285 bt1298.1 bt1298.2.1).bind fun bt1304 => ((impl_BigSub.f k t1274 t1275 t1274 t1275).bind fun bt1310 => (if bt1298.2.2 = true then (if bt1304.2.2 = true then (if bt1310.2.2 = true then ((laws_jtZero.f bt1304.1 bt1304.2.1).bind fun t1316 => (if t1316 = true then ((laws_jtZero.f bt1310.1 bt1310.2.1).bind fun t1317 => (some t1317)) else (none))) else (none)) else (none)) else (none))))) else (if (t1288 == bt1290.2.2) = true then ((laws_jtBig.f k t1284 t1285 bt1290.1 bt1290.2.1).bind fun t1297 => (some t1297)) else (none))) else (none))))) = some r := H
    have A4 := Aside0.mk A40
    clear A40
    replace H := Option.bind_eq_some_iff.mp H
    obtain ⟨⟨t1290, t1291, t1294⟩, A50, H⟩ := H
    replace H : (if (t1288 != t1294) = true then (none) else ((laws_jtBig.f k t1284 t1285 t1290 t1291).bind fun t1296 => (if t1296 = true then (if t1288 = true then ((impl_BigSub.f k t1278 t1279 t1274 t1275).bind fun bt1298 => ((impl_BigAdd.f k t1284 t1285 bt1298.1 bt1298.2.1).bind fun bt1304 => ((impl_BigSub.f k t1274 t1275 t1274 t1275).bind fun bt1310 => (if bt1298.2.2 = true then (if bt1304.2.2 = true then (if bt1310.2.2 = true then ((laws_jtZero.f bt1304.1 bt1304.2.1).bind fun t1316 => (if t1316 = true then ((laws_jtZero.f bt1310.1 bt1310.2.1).bind fun t1317 => (some t1317)) else (none))) else (none)) else (none)) else (none))))) else (if (t1288 == t1294) = true then ((laws_jtBig.f k t1284 t1285 t1290 t1291).bind fun t1297 => (some t1297)) else (none))) else (none)))) = some r := H
    have A5 := Aside0.mk A50
    clear A50
    by_cases c6 : (t1288 != t1294) = true
    · rw [if_pos c6] at H
      exact absurd H (by simp)
    · rw [if_neg c6] at H
      have c6b0 : (t1288 != t1294) = false := by simpa using c6
      (try (have c6b1 : decide (t1288 = t1294) = true := by simpa using c6))
      (try (have c6b2 : (t1288 == t1294) = true := by simpa using c6))
      clear c6
      replace H := Option.bind_eq_some_iff.mp H
      obtain ⟨t1296, A70, H⟩ := H
      replace H : (if t1296 = true then (if t1288 = true then ((impl_BigSub.f k t1278 t1279 t1274 t1275).bind fun bt1298 => ((impl_BigAdd.f k t1284 t1285 bt1298.1 bt1298.2.1).bind fun bt1304 => ((impl_BigSub.f k t1274 t1275 t1274 t1275).bind fun bt1310 => (if bt1298.2.2 = true then (if bt1304.2.2 = true then (if bt1310.2.2 = true then ((laws_jtZero.f bt1304.1 bt1304.2.1).bind fun t1316 => (if t1316 = true then ((laws_jtZero.f bt1310.1 bt1310.2.1).bind fun t1317 => (some t1317)) else (none))) else (none)) else (none)) else (none))))) else (if (t1288 == t1294) = true then ((laws_jtBig.f k t1284 t1285 t1290 t1291).bind fun t1297 => (some t1297)) else (none))) else (none)) = some r := H
      have A7 := Aside0.mk A70
      clear A70
      by_cases c8 : t1296 = true
      · subst c8
        have H1 : (if t1288 = true then ((impl_BigSub.f k t1278 t1279 t1274 t1275).bind fun bt1298 => ((impl_BigAdd.f k t1284 t1285 bt1298.1 bt1298.2.1).bind fun bt1304 => ((impl_BigSub.f k t1274 t1275 t1274 t1275).bind fun bt1310 => (if bt1298.2.2 = true then (if bt1304.2.2 = true then (if bt1310.2.2 = true then ((laws_jtZero.f bt1304.1 bt1304.2.1).bind fun t1316 => (if t1316 = true then ((laws_jtZero.f bt1310.1 bt1310.2.1).bind fun t1317 => (some t1317)) else (none))) else (none)) else (none)) else (none))))) else (if (t1288 == t1294) = true then ((laws_jtBig.f k t1284 t1285 t1290 t1291).bind fun t1297 => (some t1297)) else (none))) = some r := by rw [if_pos rfl] at H; exact H
        clear H
        have H := H1
        clear H1
        by_cases c9 : t1288 = true
        · subst c9
          have H1 : ((impl_BigSub.f k t1278 t1279 t1274 t1275).bind fun bt1298 => ((impl_BigAdd.f k t1284 t1285 bt1298.1 bt1298.2.1).bind fun bt1304 => ((impl_BigSub.f k t1274 t1275 t1274 t1275).bind fun bt1310 => (if bt1298.2.2 = true then (if bt1304.2.2 = true then (if bt1310.2.2 = true then ((laws_jtZero.f bt1304.1 bt1304.2.1).bind fun t1316 => (if t1316 = true then ((laws_jtZero.f bt1310.1 bt1310.2.1).bind fun t1317 => (some t1317)) else (none))) else (none)) else (none)) else (none))))) = some r := by rw [if_pos rfl] at H; exact H
          clear H
          have H := H1
          clear H1
          replace H := Option.bind_eq_some_iff.mp H
          obtain ⟨⟨t1298, t1299, t1302⟩, A100, H⟩ := H
          replace H : ((impl_BigAdd.f k t1284 t1285 t1298 t1299).bind fun bt1304 => ((impl_BigSub.f k t1274 t1275 t1274 t1275).bind fun bt1310 => (if t1302 = true then (if bt1304.2.2 = true then (if bt1310.2.2 = true then ((laws_jtZero.f bt1304.1 bt1304.2.1).bind fun t1316 => (if t1316 = true then ((laws_jtZero.f bt1310.1 bt1310.2.1).bind fun t1317 => (some t1317)) else (none))) else (none)) else (none)) else (none)))) = some r := H
          have A10 := Aside0.mk A100
          clear A100
          replace H := Option.bind_eq_some_iff.mp H
          obtain ⟨⟨t1304, t1305, t1308⟩, A110, H⟩ := H
          replace H : ((impl_BigSub.f k t1274 t1275 t1274 t1275).bind fun bt1310 => (if t1302 = true then (if t1308 = true then (if bt1310.2.2 = true then ((laws_jtZero.f t1304 t1305).bind fun t1316 => (if t1316 = true then ((laws_jtZero.f bt1310.1 bt1310.2.1).bind fun t1317 => (some t1317)) else (none))) else (none)) else (none)) else (none))) = some r := H
          have A11 := Aside0.mk A110
          clear A110
          replace H := Option.bind_eq_some_iff.mp H
          obtain ⟨⟨t1310, t1311, t1314⟩, A120, H⟩ := H
          replace H : (if t1302 = true then (if t1308 = true then (if t1314 = true then ((laws_jtZero.f t1304 t1305).bind fun t1316 => (if t1316 = true then ((laws_jtZero.f t1310 t1311).bind fun t1317 => (some t1317)) else (none))) else (none)) else (none)) else (none)) = some r := H
          have A12 := Aside0.mk A120
          clear A120
          by_cases c13 : t1302 = true
          · subst c13
            have H1 : (if t1308 = true then (if t1314 = true then ((laws_jtZero.f t1304 t1305).bind fun t1316 => (if t1316 = true then ((laws_jtZero.f t1310 t1311).bind fun t1317 => (some t1317)) else (none))) else (none)) else (none)) = some r := by rw [if_pos rfl] at H; exact H
            clear H
            have H := H1
            clear H1
            by_cases c14 : t1308 = true
            · subst c14
              have H1 : (if t1314 = true then ((laws_jtZero.f t1304 t1305).bind fun t1316 => (if t1316 = true then ((laws_jtZero.f t1310 t1311).bind fun t1317 => (some t1317)) else (none))) else (none)) = some r := by rw [if_pos rfl] at H; exact H
              clear H
              have H := H1
              clear H1
              by_cases c15 : t1314 = true
              · subst c15
                have H1 : ((laws_jtZero.f t1304 t1305).bind fun t1316 => (if t1316 = true then ((laws_jtZero.f t1310 t1311).bind fun t1317 => (some t1317)) else (none))) = some r := by rw [if_pos rfl] at H; exact H
                clear H
                have H := H1
                clear H1
                replace H := Option.bind_eq_some_iff.mp H
                obtain ⟨t1316, A160, H⟩ := H
                replace H : (if t1316 = true then ((laws_jtZero.f t1310 t1311).bind fun t1317 => (some t1317)) else (none)) = some r := H
                have A16 := Aside0.mk A160
                clear A160
                by_cases c17 : t1316 = true
                · subst c17
                  have H1 : ((laws_jtZero.f t1310 t1311).bind fun t1317 => (some t1317)) = some r := by rw [if_pos rfl] at H; exact H
                  clear H
                  have H := H1
                  clear H1
                  replace H := Option.bind_eq_some_iff.mp H
                  obtain ⟨t1317, A180, H⟩ := H
                  replace H : (some t1317) = some r := H
                  have A18 := Aside0.mk A180
                  clear A180
                  obtain rfl := Option.some.inj H
                  go_enter Try.func17, Try.ntmps17
                  go_wp2_with (first | ((with_reducible refine gate_callee (f := 46) rfl ?_); refine goesL_ (some 20) rfl rfl Try.func46 (by kernel_rfl) rfl #[.slice A0 l0.length c0] rfl za ?_; (with_reducible refine (spec_DrawBigSub.calls k _ _ l0 t1274 t1275 t1278 t1279 _ ?side1 ?side2 A3.out).mono ?_); (case side1 => repeat (first | exact HR0.out | (with_reducible refine Kd.C_alloc ?_ _) | (with_reducible refine Kd.C_drewN ?_ _) | (with_reducible refine Kd.C_drew ?_))); (case side2 => exact HC0.out); rintro e w19 ⟨v1276, v1280, rfl, ho0, ho1, hb⟩; refine ⟨_, rfl, ?_⟩; have n0_ := Aside0.mk (Kd.R_lower ho0 (below_size zb)); have n1_ := Aside0.mk (Kd.R_lower ho1 (below_size zb)); have n2_ := Aside0.mk (below_step zb hb); clear HB; have HO1277 := n0_; have HO1281 := n1_; have HB := n2_; clear n0_ n1_ n2_; (try clear hb); (try clear hb2); (try clear hk); (try clear hi); (try clear ho0); (try clear ho1)) | ((with_reducible refine gate_dst (N := 3) rfl ?_); refine box_event ?hg (N := 3) ?hd (cs := #[.bool false, .slice none 0 0]) (t := 27) ?hr ?_; (case hd => rfl); (case hg => rfl); (case hr => first | (go_simp; done) | (go_simp; rfl)); intro gb1282 hg w20 hbox hb; have n0_ := Aside0.mk (Kd.R_below (zR HO1277.out) hb); have n1_ := Aside0.mk (Kd.R_below (zR HO1281.out) hb); have n2_ := Aside0.mk (below_step zb hb); have n3_ := Aside0.mk (hbox); have n4_ := Aside0.mk ((by rw [hg]; exact (below_size zb) : w.heap.size ≤ gb1282)); have n5_ := Aside0.mk ((by rw [hg]; exact (below_size zb) : w.heap.size ≤ gb1282)); clear HO1277; clear HO1281; clear HB; have HO1277 := n0_; have HO1281 := n1_; have HB := n2_; have BK1282 := n3_; have GW1282 := n4_; have GE1282 := n5_; clear n0_ n1_ n2_ n3_ n4_ n5_; clear hb hbox hg) | ((with_reducible refine gate_dst (N := 4) rfl ?_); refine box_event ?hg (N := 4) ?hd (cs := #[.bool false, .slice none 0 0]) (t := 27) ?hr ?_; (case hd => rfl); (case hg => rfl); (case hr => first | (go_simp; done) | (go_simp; rfl)); intro gb1283 hg w21 hbox hb; have n0_ := Aside0.mk (Kd.R_below (zR HO1277.out) hb); have n1_ := Aside0.mk (Kd.R_below (zR HO1281.out) hb); have n2_ := Aside0.mk (blk_below (g := gb1282) (o := .cells #[.bool false, .slice none 0 0] 27 (0, 0)) (zk BK1282.out) hb); have n3_ := Aside0.mk (below_step zb hb); have n4_ := Aside0.mk (hbox); have n5_ := Aside0.mk ((by rw [hg]; exact (below_size zb) : w.heap.size ≤ gb1283)); have n6_ := Aside0.mk ((by rw [hg]; exact (below_size zb) : w.heap.size ≤ gb1283)); have n7_ := Aside0.mk ((by rw [hg]; exact Nat.ne_of_lt (blk_lt (g := gb1282) (o := .cells #[.bool false, .slice none 0 0] 27 (0, 0)) (zk BK1282.out)) : gb1282 ≠ gb1283)); have n8_ := Aside0.mk ((by rw [hg]; exact Nat.ne_of_gt (blk_lt (g := gb1282) (o := .cells #[.bool false, .slice none 0 0] 27 (0, 0)) (zk BK1282.out)) : gb1283 ≠ gb1282)); clear HO1277; clear HO1281; clear BK1282; clear HB; have HO1277 := n0_; have HO1281 := n1_; have BK1282 := n2_; have HB := n3_; have BK1283 := n4_; have GW1283 := n5_; have GE1283 := n6_; have NB1282_1283 := n7_; have NB1283_1282 := n8_; clear n0_ n1_ n2_ n3_ n4_ n5_ n6_ n7_ n8_; clear hb hbox hg; have hnb22 := NB1282_1283.out; have hnc22 := NB1283_1282.out; have hcz23_0 : w21.cell? ⟨gb1282, 0, none⟩ = some (.bool false) := (blk_cell BK1282.out 0).trans rfl; have hcz23_1 : w21.cell? ⟨gb1282, 1, none⟩ = some (.slice none 0 0) := (blk_cell BK1282.out 1).trans rfl; have hfz23_0 := blk_frozen BK1282.out 0; have hfz23_1 := blk_frozen BK1282.out 1; obtain ⟨Ao24, co24, eo24⟩ := Kd.R_slice HO1277.out; subst eo24) | ((with_reducible refine gate_store (t := 27) (p := 3) rfl ?_); refine store_event (t := 27) (p := 3) (v := ?vo_w25) (w1 := ((w21.setCell ⟨gb1282, 0, none⟩ (.bool t1274)).setCell ⟨gb1282, 1, none⟩ (.slice Ao24 t1275.length co24))) ?hg ?ho ?hn ?hr ?_; (case ho => rfl); (case hg => rfl); (case hn => rfl); (case hr => first | (go_simp; done) | (go_simp; rfl)); intro w25 hw; have n0_ : Aside0 (Kd.R (Kd.int .i64) 3 w25 w.heap.size (fun k_ => some k_ ≠ (v1280 : Value).ownBlock) (.slice Ao24 t1275.length co24) t1275) := ⟨(by rw [hw]; exact (by (with_reducible repeat (first | apply Kd.R_alloc | apply Kd.R_drewN | apply Kd.R_drew)); exact Kd.R_mono (Kd.R_far (p := ⟨gb1282, 1, none⟩) (Kd.R_far (p := ⟨gb1282, 0, none⟩) (Kd.R_types HO1277.out BK1282.out (by decide)) (fun _ hk => hk.2) (.bool t1274)) (fun _ hk => hk.2) (.slice Ao24 t1275.length co24)) (fun _ hk => hk.1)))⟩; have n1_ : Aside0 (Kd.R (Kd.int .i64) 3 w25 w.heap.size (fun k_ => some k_ ≠ (.slice Ao24 t1275.length co24 : Value).ownBlock) v1280 t1279) := ⟨(by rw [hw]; exact (by (with_reducible repeat (first | apply Kd.R_alloc | apply Kd.R_drewN | apply Kd.R_drew)); exact Kd.R_mono (Kd.R_far (p := ⟨gb1282, 1, none⟩) (Kd.R_far (p := ⟨gb1282, 0, none⟩) (Kd.R_types HO1281.out BK1282.out (by decide)) (fun _ hk => hk.2) (.bool t1274)) (fun _ hk => hk.2) (.slice Ao24 t1275.length co24)) (fun _ hk => hk.1)))⟩; have n2_ : Aside0 (w25.heap[gb1282]? = some (.cells #[.bool t1274, .slice Ao24 t1275.length co24] 27 (0, 0))) := ⟨(by rw [hw]; exact (by (with_reducible repeat (first | refine blk_drewN ?_ _ | refine blk_drew ?_ | refine blk_alloc ?_ _)); refine blk_put (cs := #[.bool t1274, .slice none 0 0]) ?_ 1 _ rfl; (with_reducible repeat (first | refine blk_drewN ?_ _ | refine blk_drew ?_ | refine blk_alloc ?_ _)); refine blk_put (cs := #[.bool false, .slice none 0 0]) ?_ 0 _ rfl; (with_reducible repeat (first | refine blk_drewN ?_ _ | refine blk_drew ?_ | refine blk_alloc ?_ _)); exact BK1282.out))⟩; have n3_ : Aside0 (w25.heap[gb1283]? = some (.cells #[.bool false, .slice none 0 0] 27 (0, 0))) := ⟨(by rw [hw]; exact (zk BK1283.out))⟩; have n4_ : Aside0 (Below w.heap.size w w25) := ⟨(by rw [hw]; exact zb)⟩; clear hw; clear HO1277; clear HO1281; clear BK1282; clear BK1283; clear HB; have HO1277 := n0_; have HO1281 := n1_; have BK1282 := n2_; have BK1283 := n3_; have HB := n4_; clear n0_ n1_ n2_ n3_ n4_; have hcz26_0 : w25.cell? ⟨gb1283, 0, none⟩ = some (.bool false) := (blk_cell BK1283.out 0).trans rfl; have hcz26_1 : w25.cell? ⟨gb1283, 1, none⟩ = some (.slice none 0 0) := (blk_cell BK1283.out 1).trans rfl; have hfz26_0 := blk_frozen BK1283.out 0; have hfz26_1 := blk_frozen BK1283.out 1; obtain ⟨Ao27, co27, eo27⟩ := Kd.R_slice HO1281.out; subst eo27) | ((with_reducible refine gate_store (t := 27) (p := 4) rfl ?_); refine store_event (t := 27) (p := 4) (v := ?vo_w28) (w1 := ((w25.setCell ⟨gb1283, 0, none⟩ (.bool t1278)).setCell ⟨gb1283, 1, none⟩ (.slice Ao27 t1279.length co27))) ?hg ?ho ?hn ?hr ?_; (case ho => rfl); (case hg => rfl); (case hn => rfl); (case hr => first | (go_simp; done) | (go_simp; rfl)); intro w28 hw; have n0_ : Aside0 (Kd.R (Kd.int .i64) 3 w28 w.heap.size (fun k_ => some k_ ≠ (.slice Ao27 t1279.length co27 : Value).ownBlock) (.slice Ao24 t1275.length co24) t1275) := ⟨(by rw [hw]; exact (by (with_reducible repeat (first | apply Kd.R_alloc | apply Kd.R_drewN | apply Kd.R_drew)); exact Kd.R_mono (Kd.R_far (p := ⟨gb1283, 1, none⟩) (Kd.R_far (p := ⟨gb1283, 0, none⟩) (Kd.R_types HO1277.out BK1283.out (by decide)) (fun _ hk => hk.2) (.bool t1278)) (fun _ hk => hk.2) (.slice Ao27 t1279.length co27)) (fun _ hk => hk.1)))⟩; have n1_ : Aside0 (Kd.R (Kd.int .i64) 3 w28 w.heap.size (fun k_ => some k_ ≠ (.slice Ao24 t1275.length co24 : Value).ownBlock) (.slice Ao27 t1279.length co27) t1279) := ⟨(by rw [hw]; exact (by (with_reducible repeat (first | apply Kd.R_alloc | apply Kd.R_drewN | apply Kd.R_drew)); exact Kd.R_mono (Kd.R_far (p := ⟨gb1283, 1, none⟩) (Kd.R_far (p := ⟨gb1283, 0, none⟩) (Kd.R_types HO1281.out BK1283.out (by decide)) (fun _ hk => hk.2) (.bool t1278)) (fun _ hk => hk.2) (.slice Ao27 t1279.length co27)) (fun _ hk => hk.1)))⟩; have n2_ : Aside0 (w28.heap[gb1282]? = some (.cells #[.bool t1274, .slice Ao24 t1275.length co24] 27 (0, 0))) := ⟨(by rw [hw]; exact (zk BK1282.out))⟩; have n3_ : Aside0 (w28.heap[gb1283]? = some (.cells #[.bool t1278, .slice Ao27 t1279.length co27] 27 (0, 0))) := ⟨(by rw [hw]; exact (by (with_reducible repeat (first | refine blk_drewN ?_ _ | refine blk_drew ?_ | refine blk_alloc ?_ _)); refine blk_put (cs := #[.bool t1278, .slice none 0 0]) ?_ 1 _ rfl; (with_reducible repeat (first | refine blk_drewN ?_ _ | refine blk_drew ?_ | refine blk_alloc ?_ _)); refine blk_put (cs := #[.bool false, .slice none 0 0]) ?_ 0 _ rfl; (with_reducible repeat (first | refine blk_drewN ?_ _ | refine blk_drew ?_ | refine blk_alloc ?_ _)); exact BK1283.out))⟩; have n4_ : Aside0 (Below w.heap.size w w28) := ⟨(by rw [hw]; exact zb)⟩; clear hw; clear HO1277; clear HO1281; clear BK1282; clear BK1283; clear HB; have HO1277 := n0_; have HO1281 := n1_; have BK1282 := n2_; have BK1283 := n3_; have HB := n4_; clear n0_ n1_ n2_ n3_ n4_; have hcz29_0 : w28.cell? ⟨gb1282, 0, none⟩ = some (.bool t1274) := (blk_cell BK1282.out 0).trans rfl; have hcz29_1 : w28.cell? ⟨gb1282, 1, none⟩ = some (.slice Ao24 t1275.length co24) := (blk_cell BK1282.out 1).trans rfl; have hfz29_0 := blk_frozen BK1282.out 0; have hfz29_1 := blk_frozen BK1282.out 1; have hcz30_0 : w28.cell? ⟨gb1283, 0, none⟩ = some (.bool t1278) := (blk_cell BK1283.out 0).trans rfl; have hcz30_1 : w28.cell? ⟨gb1283, 1, none⟩ = some (.slice Ao27 t1279.length co27) := (blk_cell BK1283.out 1).trans rfl; have hfz30_0 := blk_frozen BK1283.out 0; have hfz30_1 := blk_frozen BK1283.out 1) | ((with_reducible refine gate_callee (f := 41) rfl ?_); refine goesL_ (some 26) rfl rfl Try.func41 (by kernel_rfl) rfl #[.agg #[.bool t1274, .slice Ao24 t1275.length co24], .agg #[.bool t1278, .slice Ao27 t1279.length co27]] rfl za ?_; (with_reducible refine (impl_BigSub.calls k t1274 (fun k_ => some k_ = (.slice Ao24 t1275.length co24 : Value).ownBlock) _ _ t1275 t1278 (fun k_ => some k_ = (.slice Ao27 t1279.length co27 : Value).ownBlock) _ _ t1279 t1284 t1285 true _ ?side1 ?side2 A4.out).mono ?_); (case side1 => exact Kd.R_V (Kd.R_tight rfl (Kd.R_types (Kd.R_types (HO1277.out) BK1282.out (by decide)) BK1283.out (by decide)))); (case side2 => exact Kd.R_V (Kd.R_tight rfl (Kd.R_types (Kd.R_types (HO1281.out) BK1282.out (by decide)) BK1283.out (by decide)))); rintro e w31 ⟨v1286, rfl, ho0, hb⟩; refine ⟨_, rfl, ?_⟩; have n0_ := Aside0.mk (Kd.R_below (zR HO1277.out) hb); have n1_ := Aside0.mk (Kd.R_below (zR HO1281.out) hb); have n2_ := Aside0.mk (Kd.V_lower (Kd.V_mono (ok' := fun k_ => k_ ≠ gb1282 ∧ k_ ≠ gb1283) ho0 (fun k_ hk_ => ⟨Or.elim hk_ (fun hs_ => Or.elim hs_ (fun hs_ => ((Kd.R_types (Kd.R_types (HO1277.out) BK1282.out (by decide)) BK1283.out (by decide)).1 k_ hs_.symm).1.2) (fun hs_ => ((Kd.R_types (Kd.R_types (HO1281.out) BK1282.out (by decide)) BK1283.out (by decide)).1 k_ hs_.symm).1.2)) (fun hn_ => (Kd.freshB (g := gb1282) (o := .cells #[.bool t1274, .slice Ao24 t1275.length co24] 27 (0, 0)) (zk BK1282.out) k_ hn_)), Or.elim hk_ (fun hs_ => Or.elim hs_ (fun hs_ => ((Kd.R_types (Kd.R_types (HO1277.out) BK1282.out (by decide)) BK1283.out (by decide)).1 k_ hs_.symm).2) (fun hs_ => ((Kd.R_types (Kd.R_types (HO1281.out) BK1282.out (by decide)) BK1283.out (by decide)).1 k_ hs_.symm).2)) (fun hn_ => (Kd.freshB (g := gb1283) (o := .cells #[.bool t1278, .slice Ao27 t1279.length co27] 27 (0, 0)) (zk BK1283.out) k_ hn_))⟩)) (below_size zb)); have n3_ := Aside0.mk (blk_below (g := gb1282) (o := .cells #[.bool t1274, .slice Ao24 t1275.length co24] 27 (0, 0)) (zk BK1282.out) hb); have n4_ := Aside0.mk (blk_below (g := gb1283) (o := .cells #[.bool t1278, .slice Ao27 t1279.length co27] 27 (0, 0)) (zk BK1283.out) hb); have n5_ := Aside0.mk (below_step zb hb); clear HO1277; clear HO1281; clear BK1282; clear BK1283; clear HB; have HO1277 := n0_; have HO1281 := n1_; have HO1287 := n2_; have BK1282 := n3_; have BK1283 := n4_; have HB := n5_; clear n0_ n1_ n2_ n3_ n4_ n5_; (try clear hb); (try clear hb2); (try clear hk); (try clear hi); (try clear ho0)) | ((with_reducible refine gate_dst (N := 5) rfl ?_); refine box_event ?hg (N := 5) ?hd (cs := #[.bool false, .slice none 0 0]) (t := 27) ?hr ?_; (case hd => rfl); (case hg => rfl); (case hr => first | (go_simp; done) | (go_simp; rfl)); intro gb1289 hg w32 hbox hb; have n0_ := Aside0.mk (Kd.R_below (zR HO1277.out) hb); have n1_ := Aside0.mk (Kd.R_below (zR HO1281.out) hb); have n2_ := Aside0.mk (Kd.V_below (Kd.V_elderB (zV HO1287.out) gb1289 (Nat.le_of_eq hg.symm)) hb); have n3_ := Aside0.mk (blk_below (g := gb1282) (o := .cells #[.bool t1274, .slice Ao24 t1275.length co24] 27 (0, 0)) (zk BK1282.out) hb); have n4_ := Aside0.mk (blk_below (g := gb1283) (o := .cells #[.bool t1278, .slice Ao27 t1279.length co27] 27 (0, 0)) (zk BK1283.out) hb); have n5_ := Aside0.mk (below_step zb hb); have n6_ := Aside0.mk (hbox); have n7_ := Aside0.mk ((by rw [hg]; exact (below_size zb) : w.heap.size ≤ gb1289)); have n8_ := Aside0.mk ((by rw [hg]; exact (below_size zb) : w.heap.size ≤ gb1289)); have n9_ := Aside0.mk ((by rw [hg]; exact Nat.ne_of_lt (blk_lt (g := gb1282) (o := .cells #[.bool t1274, .slice Ao24 t1275.length co24] 27 (0, 0)) (zk BK1282.out)) : gb1282 ≠ gb1289)); have n10_ := Aside0.mk ((by rw [hg]; exact Nat.ne_of_gt (blk_lt (g := gb1282) (o := .cells #[.bool t1274, .slice Ao24 t1275.length co24] 27 (0, 0)) (zk BK1282.out)) : gb1289 ≠ gb1282)); have n11_ := Aside0.mk ((by rw [hg]; exact Nat.ne_of_lt (blk_lt (g := gb1283) (o := .cells #[.bool t1278, .slice Ao27 t1279.length co27] 27 (0, 0)) (zk BK1283.out)) : gb1283 ≠ gb1289)); have n12_ := Aside0.mk ((by rw [hg]; exact Nat.ne_of_gt (blk_lt (g := gb1283) (o := .cells #[.bool t1278, .slice Ao27 t1279.length co27] 27 (0, 0)) (zk BK1283.out)) : gb1289 ≠ gb1283)); clear HO1277; clear HO1281; clear HO1287; clear BK1282; clear BK1283; clear HB; have HO1277 := n0_; have HO1281 := n1_; have HO1287 := n2_; have BK1282 := n3_; have BK1283 := n4_; have HB := n5_; have BK1289 := n6_; have GW1289 := n7_; have GE1289 := n8_; have NB1282_1289 := n9_; have NB1289_1282 := n10_; have NB1283_1289 := n11_; have NB1289_1283 := n12_; clear n0_ n1_ n2_ n3_ n4_ n5_ n6_ n7_ n8_ n9_ n10_ n11_ n12_; clear hb hbox hg; have hnb33 := NB1289_1282.out; have hnc33 := NB1282_1289.out; have hnb34 := NB1289_1283.out; have hnc34 := NB1283_1289.out; have hcz35_0 : w32.cell? ⟨gb1289, 0, none⟩ = some (.bool false) := (blk_cell BK1289.out 0).trans rfl; have hcz35_1 : w32.cell? ⟨gb1289, 1, none⟩ = some (.slice none 0 0) := (blk_cell BK1289.out 1).trans rfl; have hfz35_0 := blk_frozen BK1289.out 0; have hfz35_1 := blk_frozen BK1289.out 1; obtain ⟨Ao36, co36, eo36⟩ := Kd.V_slice HO1287.out; subst eo36; have hcz37_0 : w32.cell? ⟨gb1282, 0, none⟩ = some (.bool t1274) := (blk_cell BK1282.out 0).trans rfl; have hcz37_1 : w32.cell? ⟨gb1282, 1, none⟩ = some (.slice Ao24 t1275.length co24) := (blk_cell BK1282.out 1).trans rfl; have hfz37_0 := blk_frozen BK1282.out 0; have hfz37_1 := blk_frozen BK1282.out 1; have hcz38_0 : w32.cell? ⟨gb1283, 0, none⟩ = some (.bool t1278) := (blk_cell BK1283.out 0).trans rfl; have hcz38_1 : w32.cell? ⟨gb1283, 1, none⟩ = some (.slice Ao27 t1279.length co27) := (blk_cell BK1283.out 1).trans rfl; have hfz38_0 := blk_frozen BK1283.out 0; have hfz38_1 := blk_frozen BK1283.out 1) | ((with_reducible refine gate_callee (f := 40) rfl ?_); refine goesL_ (some 32) rfl rfl Try.func40 (by kernel_rfl) rfl #[.agg #[.bool t1274, .slice Ao24 t1275.length co24], .agg #[.bool t1278, .slice Ao27 t1279.length co27]] rfl za ?_; (with_reducible refine (spec_BigSub.calls k t1274 _ _ t1275 t1278 _ _ t1279 t1290 t1291 t1294 _ ?side1 ?side2 ?side3 ?side4 A5.out).mono ?_); (case side1 => refine (Kd.R_reads' (e := 3) (base := w.heap.size) (ok := fun k_ => some k_ ≠ (.slice Ao27 t1279.length co27 : Value).ownBlock) (n := t1275.length) (c := co24) ?_).2.2; exact (by (with_reducible repeat (first | apply Kd.R_alloc | apply Kd.R_drewN | apply Kd.R_drew)); exact (Kd.R_mono (Kd.R_far (p := ⟨gb1289, 1, none⟩) (Kd.R_far (p := ⟨gb1289, 0, none⟩) (Kd.R_types HO1277.out BK1289.out (by decide)) (fun _ hk => hk.2) (.bool t1284)) (fun _ hk => hk.2) (.slice Ao36 t1285.length co36)) (fun _ h_ => h_.1)))); (case side2 => exact (Kd.R_reads' HO1277.out).2.1); (case side3 => refine (Kd.R_reads' (e := 3) (base := w.heap.size) (ok := fun k_ => some k_ ≠ (.slice Ao24 t1275.length co24 : Value).ownBlock) (n := t1279.length) (c := co27) ?_).2.2; exact (by (with_reducible repeat (first | apply Kd.R_alloc | apply Kd.R_drewN | apply Kd.R_drew)); exact (Kd.R_mono (Kd.R_far (p := ⟨gb1289, 1, none⟩) (Kd.R_far (p := ⟨gb1289, 0, none⟩) (Kd.R_types HO1281.out BK1289.out (by decide)) (fun _ hk => hk.2) (.bool t1284)) (fun _ hk => hk.2) (.slice Ao36 t1285.length co36)) (fun _ h_ => h_.1)))); (case side4 => exact (Kd.R_reads' HO1281.out).2.1); rintro e w39 ⟨v1292, rfl, ho0, hb⟩; refine ⟨_, rfl, ?_⟩; have n0_ := Aside0.mk (Kd.R_elder' (by (with_reducible repeat (first | apply Kd.R_alloc | apply Kd.R_drewN | apply Kd.R_drew)); exact (Kd.R_mono (Kd.R_far (p := ⟨gb1289, 1, none⟩) (Kd.R_far (p := ⟨gb1289, 0, none⟩) (Kd.R_types HO1277.out BK1289.out (by decide)) (fun _ hk => hk.2) (.bool t1284)) (fun _ hk => hk.2) (.slice Ao36 t1285.length co36)) (fun _ h_ => h_.1))) (Kd.R_base ho0) hb); have n1_ := Aside0.mk (Kd.R_elder' (by (with_reducible repeat (first | apply Kd.R_alloc | apply Kd.R_drewN | apply Kd.R_drew)); exact (Kd.R_mono (Kd.R_far (p := ⟨gb1289, 1, none⟩) (Kd.R_far (p := ⟨gb1289, 0, none⟩) (Kd.R_types HO1281.out BK1289.out (by decide)) (fun _ hk => hk.2) (.bool t1284)) (fun _ hk => hk.2) (.slice Ao36 t1285.length co36)) (fun _ h_ => h_.1))) (Kd.R_base ho0) hb); have n2_ := Aside0.mk (Kd.V_elder' (by (with_reducible repeat (first | apply Kd.V_alloc | apply Kd.V_drewN | apply Kd.V_drew)); exact (Kd.V_mono (Kd.V_far (p := ⟨gb1289, 1, none⟩) (Kd.V_far (p := ⟨gb1289, 0, none⟩) (Kd.V_mono HO1287.out (fun k_ hk => (⟨hk, hk.2⟩ : _ ∧ k_ ≠ gb1289))) (fun _ hk => hk.2) (.bool t1284)) (fun _ hk => hk.2) (.slice Ao36 t1285.length co36)) (fun _ h_ => h_.1))) (Kd.R_base ho0) hb); have n3_ := Aside0.mk (Kd.R_lower (Kd.R_new' (Kd.R_new' ho0 (Kd.R_lt (by (with_reducible repeat (first | apply Kd.R_alloc | apply Kd.R_drewN | apply Kd.R_drew)); exact (Kd.R_mono (Kd.R_far (p := ⟨gb1289, 1, none⟩) (Kd.R_far (p := ⟨gb1289, 0, none⟩) (Kd.R_types HO1277.out BK1289.out (by decide)) (fun _ hk => hk.2) (.bool t1284)) (fun _ hk => hk.2) (.slice Ao36 t1285.length co36)) (fun _ h_ => h_.1))))) (Kd.R_lt (by (with_reducible repeat (first | apply Kd.R_alloc | apply Kd.R_drewN | apply Kd.R_drew)); exact (Kd.R_mono (Kd.R_far (p := ⟨gb1289, 1, none⟩) (Kd.R_far (p := ⟨gb1289, 0, none⟩) (Kd.R_types HO1281.out BK1289.out (by decide)) (fun _ hk => hk.2) (.bool t1284)) (fun _ hk => hk.2) (.slice Ao36 t1285.length co36)) (fun _ h_ => h_.1))))) (below_size zb)); have n4_ := Aside0.mk (blk_below (g := gb1282) (o := .cells #[.bool t1274, .slice Ao24 t1275.length co24] 27 (0, 0)) (zk BK1282.out) hb); have n5_ := Aside0.mk (blk_below (g := gb1283) (o := .cells #[.bool t1278, .slice Ao27 t1279.length co27] 27 (0, 0)) (zk BK1283.out) hb); have n6_ := Aside0.mk (blk_below (g := gb1289) (o := .cells #[.bool t1284, .slice Ao36 t1285.length co36] 27 (0, 0)) (by (with_reducible repeat (first | refine blk_drewN ?_ _ | refine blk_drew ?_ | refine blk_alloc ?_ _)); refine blk_put (cs := #[.bool t1284, .slice none 0 0]) ?_ 1 _ rfl; (with_reducible repeat (first | refine blk_drewN ?_ _ | refine blk_drew ?_ | refine blk_alloc ?_ _)); refine blk_put (cs := #[.bool false, .slice none 0 0]) ?_ 0 _ rfl; (with_reducible repeat (first | refine blk_drewN ?_ _ | refine blk_drew ?_ | refine blk_alloc ?_ _)); exact BK1289.out) hb); have n7_ := Aside0.mk (below_step zb hb); clear HO1277; clear HO1281; clear HO1287; clear BK1282; clear BK1283; clear BK1289; clear HB; have HO1277 := n0_; have HO1281 := n1_; have HO1287 := n2_; have HO1293 := n3_; have BK1282 := n4_; have BK1283 := n5_; have BK1289 := n6_; have HB := n7_; clear n0_ n1_ n2_ n3_ n4_ n5_ n6_ n7_; (try clear hb); (try clear hb2); (try clear hk); (try clear hi); (try clear ho0)) | ((with_reducible refine gate_dst (N := 7) rfl ?_); refine box_event ?hg (N := 7) ?hd (cs := #[.bool false, .slice none 0 0]) (t := 27) ?hr ?_; (case hd => rfl); (case hg => rfl); (case hr => first | (go_simp; done) | (go_simp; rfl)); intro gb1295 hg w40 hbox hb; have n0_ := Aside0.mk (Kd.R_below (zR HO1277.out) hb); have n1_ := Aside0.mk (Kd.R_below (zR HO1281.out) hb); have n2_ := Aside0.mk (Kd.V_below (Kd.V_elderB (zV HO1287.out) gb1295 (Nat.le_of_eq hg.symm)) hb); have n3_ := Aside0.mk (Kd.R_below (zR HO1293.out) hb); have n4_ := Aside0.mk (blk_below (g := gb1282) (o := .cells #[.bool t1274, .slice Ao24 t1275.length co24] 27 (0, 0)) (zk BK1282.out) hb); have n5_ := Aside0.mk (blk_below (g := gb1283) (o := .cells #[.bool t1278, .slice Ao27 t1279.length co27] 27 (0, 0)) (zk BK1283.out) hb); have n6_ := Aside0.mk (blk_below (g := gb1289) (o := .cells #[.bool t1284, .slice Ao36 t1285.length co36] 27 (0, 0)) (zk BK1289.out) hb); have n7_ := Aside0.mk (below_step zb hb); have n8_ := Aside0.mk (hbox); have n9_ := Aside0.mk ((by rw [hg]; exact (below_size zb) : w.heap.size ≤ gb1295)); have n10_ := Aside0.mk ((by rw [hg]; exact (below_size zb) : w.heap.size ≤ gb1295)); have n11_ := Aside0.mk ((by rw [hg]; exact Nat.ne_of_lt (blk_lt (g := gb1282) (o := .cells #[.bool t1274, .slice Ao24 t1275.length co24] 27 (0, 0)) (zk BK1282.out)) : gb1282 ≠ gb1295)); have n12_ := Aside0.mk ((by rw [hg]; exact Nat.ne_of_gt (blk_lt (g := gb1282) (o := .cells #[.bool t1274, .slice Ao24 t1275.length co24] 27 (0, 0)) (zk BK1282.out)) : gb1295 ≠ gb1282)); have n13_ := Aside0.mk ((by rw [hg]; exact Nat.ne_of_lt (blk_lt (g := gb1283) (o := .cells #[.bool t1278, .slice Ao27 t1279.length co27] 27 (0, 0)) (zk BK1283.out)) : gb1283 ≠ gb1295)); have n14_ := Aside0.mk ((by rw [hg]; exact Nat.ne_of_gt (blk_lt (g := gb1283) (o := .cells #[.bool t1278, .slice Ao27 t1279.length co27] 27 (0, 0)) (zk BK1283.out)) : gb1295 ≠ gb1283)); have n15_ := Aside0.mk ((by rw [hg]; exact Nat.ne_of_lt (blk_lt (g := gb1289) (o := .cells #[.bool t1284, .slice Ao36 t1285.length co36] 27 (0, 0)) (zk BK1289.out)) : gb1289 ≠ gb1295)); have n16_ := Aside0.mk ((by rw [hg]; exact Nat.ne_of_gt (blk_lt (g := gb1289) (o := .cells #[.bool t1284, .slice Ao36 t1285.length co36] 27 (0, 0)) (zk BK1289.out)) : gb1295 ≠ gb1289)); clear HO1277; clear HO1281; clear HO1287; clear HO1293; clear BK1282; clear BK1283; clear BK1289; clear HB; have HO1277 := n0_; have HO1281 := n1_; have HO1287 := n2_; have HO1293 := n3_; have BK1282 := n4_; have BK1283 := n5_; have BK1289 := n6_; have HB := n7_; have BK1295 := n8_; have GW1295 := n9_; have GE1295 := n10_; have NB1282_1295 := n11_; have NB1295_1282 := n12_; have NB1283_1295 := n13_; have NB1295_1283 := n14_; have NB1289_1295 := n15_; have NB1295_1289 := n16_; clear n0_ n1_ n2_ n3_ n4_ n5_ n6_ n7_ n8_ n9_ n10_ n11_ n12_ n13_ n14_ n15_ n16_; clear hb hbox hg; have hnb41 := NB1295_1282.out; have hnc41 := NB1282_1295.out; have hnb42 := NB1295_1283.out; have hnc42 := NB1283_1295.out; have hnb43 := NB1295_1289.out; have hnc43 := NB1289_1295.out; have hcz44_0 : w40.cell? ⟨gb1295, 0, none⟩ = some (.bool false) := (blk_cell BK1295.out 0).trans rfl; have hcz44_1 : w40.cell? ⟨gb1295, 1, none⟩ = some (.slice none 0 0) := (blk_cell BK1295.out 1).trans rfl; have hfz44_0 := blk_frozen BK1295.out 0; have hfz44_1 := blk_frozen BK1295.out 1; obtain ⟨Ao45, co45, eo45⟩ := Kd.R_slice HO1293.out; subst eo45; have hcz46_0 : w40.cell? ⟨gb1289, 0, none⟩ = some (.bool t1284) := (blk_cell BK1289.out 0).trans rfl; have hcz46_1 : w40.cell? ⟨gb1289, 1, none⟩ = some (.slice Ao36 t1285.length co36) := (blk_cell BK1289.out 1).trans rfl; have hfz46_0 := blk_frozen BK1289.out 0; have hfz46_1 := blk_frozen BK1289.out 1) | (go_at_call 31; (with_reducible refine (laws_jtBig.calls k t1284 _ _ t1285 t1290 _ _ t1291 true _ ?side1 ?side2 ?side3 ?side4 A7.out).mono ?_); (case side1 => refine (Kd.V_reads' (e := 3) (base := w.heap.size) (ok := fun k_ => ((((k_ ≠ gb1282 ∧ k_ ≠ gb1283) ∧ k_ ≠ gb1289) ∧ some k_ ≠ (.slice Ao45 t1291.length co45 : Value).ownBlock) ∧ k_ ≠ gb1295)) (n := t1285.length) (c := co36) ?_).2.2; exact (by (with_reducible repeat (first | apply Kd.V_alloc | apply Kd.V_drewN | apply Kd.V_drew)); exact (Kd.V_mono (Kd.V_far (p := ⟨gb1295, 1, none⟩) (Kd.V_far (p := ⟨gb1295, 0, none⟩) (Kd.V_mono HO1287.out (fun k_ hk => (⟨hk, hk.2⟩ : _ ∧ k_ ≠ gb1295))) (fun _ hk => hk.2) (.bool t1290)) (fun _ hk => hk.2) (.slice Ao45 t1291.length co45)) (fun _ h_ => h_.1)))); (case side2 => exact (Kd.V_reads' HO1287.out).2.1); (case side3 => refine (Kd.R_reads' (e := 3) (base := w.heap.size) (ok := fun k_ => ((True ∧ some k_ ≠ (.slice Ao24 t1275.length co24 : Value).ownBlock) ∧ some k_ ≠ (.slice Ao27 t1279.length co27 : Value).ownBlock)) (n := t1291.length) (c := co45) ?_).2.2; exact (by (with_reducible repeat (first | apply Kd.R_alloc | apply Kd.R_drewN | apply Kd.R_drew)); exact (Kd.R_mono (Kd.R_far (p := ⟨gb1295, 1, none⟩) (Kd.R_far (p := ⟨gb1295, 0, none⟩) (Kd.R_types HO1293.out BK1295.out (by decide)) (fun _ hk => hk.2) (.bool t1290)) (fun _ hk => hk.2) (.slice Ao45 t1291.length co45)) (fun _ h_ => h_.1)))); (case side4 => exact (Kd.R_reads' HO1293.out).2.1); rintro e w47 ⟨rfl, hb⟩; have n0_ := Aside0.mk (Kd.R_below (by (with_reducible repeat (first | apply Kd.R_alloc | apply Kd.R_drewN | apply Kd.R_drew)); exact (Kd.R_mono (Kd.R_far (p := ⟨gb1295, 1, none⟩) (Kd.R_far (p := ⟨gb1295, 0, none⟩) (Kd.R_types HO1277.out BK1295.out (by decide)) (fun _ hk => hk.2) (.bool t1290)) (fun _ hk => hk.2) (.slice Ao45 t1291.length co45)) (fun _ h_ => h_.1))) hb); have n1_ := Aside0.mk (Kd.R_below (by (with_reducible repeat (first | apply Kd.R_alloc | apply Kd.R_drewN | apply Kd.R_drew)); exact (Kd.R_mono (Kd.R_far (p := ⟨gb1295, 1, none⟩) (Kd.R_far (p := ⟨gb1295, 0, none⟩) (Kd.R_types HO1281.out BK1295.out (by decide)) (fun _ hk => hk.2) (.bool t1290)) (fun _ hk => hk.2) (.slice Ao45 t1291.length co45)) (fun _ h_ => h_.1))) hb); have n2_ := Aside0.mk (Kd.V_below (by (with_reducible repeat (first | apply Kd.V_alloc | apply Kd.V_drewN | apply Kd.V_drew)); exact (Kd.V_mono (Kd.V_far (p := ⟨gb1295, 1, none⟩) (Kd.V_far (p := ⟨gb1295, 0, none⟩) (Kd.V_mono HO1287.out (fun k_ hk => (⟨hk, hk.2⟩ : _ ∧ k_ ≠ gb1295))) (fun _ hk => hk.2) (.bool t1290)) (fun _ hk => hk.2) (.slice Ao45 t1291.length co45)) (fun _ h_ => h_.1))) hb); have n3_ := Aside0.mk (Kd.R_below (by (with_reducible repeat (first | apply Kd.R_alloc | apply Kd.R_drewN | apply Kd.R_drew)); exact (Kd.R_mono (Kd.R_far (p := ⟨gb1295, 1, none⟩) (Kd.R_far (p := ⟨gb1295, 0, none⟩) (Kd.R_types HO1293.out BK1295.out (by decide)) (fun _ hk => hk.2) (.bool t1290)) (fun _ hk => hk.2) (.slice Ao45 t1291.length co45)) (fun _ h_ => h_.1))) hb); have n4_ := Aside0.mk (blk_below (g := gb1282) (o := .cells #[.bool t1274, .slice Ao24 t1275.length co24] 27 (0, 0)) (zk BK1282.out) hb); have n5_ := Aside0.mk (blk_below (g := gb1283) (o := .cells #[.bool t1278, .slice Ao27 t1279.length co27] 27 (0, 0)) (zk BK1283.out) hb); have n6_ := Aside0.mk (blk_below (g := gb1289) (o := .cells #[.bool t1284, .slice Ao36 t1285.length co36] 27 (0, 0)) (zk BK1289.out) hb); have n7_ := Aside0.mk (blk_below (g := gb1295) (o := .cells #[.bool t1290, .slice Ao45 t1291.length co45] 27 (0, 0)) (by (with_reducible repeat (first | refine blk_drewN ?_ _ | refine blk_drew ?_ | refine blk_alloc ?_ _)); refine blk_put (cs := #[.bool t1290, .slice none 0 0]) ?_ 1 _ rfl; (with_reducible repeat (first | refine blk_drewN ?_ _ | refine blk_drew ?_ | refine blk_alloc ?_ _)); refine blk_put (cs := #[.bool false, .slice none 0 0]) ?_ 0 _ rfl; (with_reducible repeat (first | refine blk_drewN ?_ _ | refine blk_drew ?_ | refine blk_alloc ?_ _)); exact BK1295.out) hb); have n8_ := Aside0.mk (below_step zb hb); clear HO1277; clear HO1281; clear HO1287; clear HO1293; clear BK1282; clear BK1283; clear BK1289; clear BK1295; clear HB; have HO1277 := n0_; have HO1281 := n1_; have HO1287 := n2_; have HO1293 := n3_; have BK1282 := n4_; have BK1283 := n5_; have BK1289 := n6_; have BK1295 := n7_; have HB := n8_; clear n0_ n1_ n2_ n3_ n4_ n5_ n6_ n7_ n8_; (try clear hb); (try clear hb2); (try clear hk); (try clear hi); have hcz48_0 : w47.cell? ⟨gb1283, 0, none⟩ = some (.bool t1278) := (blk_cell BK1283.out 0).trans rfl; have hcz48_1 : w47.cell? ⟨gb1283, 1, none⟩ = some (.slice Ao27 t1279.length co27) := (blk_cell BK1283.out 1).trans rfl; have hfz48_0 := blk_frozen BK1283.out 0; have hfz48_1 := blk_frozen BK1283.out 1; have hcz49_0 : w47.cell? ⟨gb1282, 0, none⟩ = some (.bool t1274) := (blk_cell BK1282.out 0).trans rfl; have hcz49_1 : w47.cell? ⟨gb1282, 1, none⟩ = some (.slice Ao24 t1275.length co24) := (blk_cell BK1282.out 1).trans rfl; have hfz49_0 := blk_frozen BK1282.out 0; have hfz49_1 := blk_frozen BK1282.out 1) | ((with_reducible refine gate_callee (f := 41) rfl ?_); refine goesL_ (some 59) rfl rfl Try.func41 (by kernel_rfl) rfl #[.agg #[.bool t1278, .slice Ao27 t1279.length co27], .agg #[.bool t1274, .slice Ao24 t1275.length co24]] rfl za ?_; (with_reducible refine (impl_BigSub.calls k t1278 (fun k_ => some k_ = (.slice Ao27 t1279.length co27 : Value).ownBlock) _ _ t1279 t1274 (fun k_ => some k_ = (.slice Ao24 t1275.length co24 : Value).ownBlock) _ _ t1275 t1298 t1299 true _ ?side1 ?side2 A10.out).mono ?_); (case side1 => exact Kd.R_V (Kd.R_tight rfl (Kd.R_types (Kd.R_types (Kd.R_types (Kd.R_types (HO1281.out) BK1282.out (by decide)) BK1283.out (by decide)) BK1289.out (by decide)) BK1295.out (by decide)))); (case side2 => exact Kd.R_V (Kd.R_tight rfl (Kd.R_types (Kd.R_types (Kd.R_types (Kd.R_types (HO1277.out) BK1282.out (by decide)) BK1283.out (by decide)) BK1289.out (by decide)) BK1295.out (by decide)))); rintro e w50 ⟨v1300, rfl, ho0, hb⟩; refine ⟨_, rfl, ?_⟩; have n0_ := Aside0.mk (Kd.R_below (zR HO1277.out) hb); have n1_ := Aside0.mk (Kd.R_below (zR HO1281.out) hb); have n2_ := Aside0.mk (Kd.V_below (zV HO1287.out) hb); have n3_ := Aside0.mk (Kd.R_below (zR HO1293.out) hb); have n4_ := Aside0.mk (Kd.V_lower (Kd.V_mono (ok' := fun k_ => some k_ ≠ (.slice Ao45 t1291.length co45 : Value).ownBlock ∧ k_ ≠ gb1282 ∧ k_ ≠ gb1283 ∧ k_ ≠ gb1289 ∧ k_ ≠ gb1295) ho0 (fun k_ hk_ => ⟨Or.elim hk_ (fun hs_ => Or.elim hs_ (fun hs_ => ((Kd.R_types (Kd.R_types (Kd.R_types (Kd.R_types (HO1281.out) BK1282.out (by decide)) BK1283.out (by decide)) BK1289.out (by decide)) BK1295.out (by decide)).1 k_ hs_.symm).1.1.1.1.2) (fun hs_ => ((Kd.R_types (Kd.R_types (Kd.R_types (Kd.R_types (HO1277.out) BK1282.out (by decide)) BK1283.out (by decide)) BK1289.out (by decide)) BK1295.out (by decide)).1 k_ hs_.symm).1.1.1.1.2)) (fun hn_ => (Kd.fresh' (Kd.R_lt (zR HO1293.out)) k_ hn_)), Or.elim hk_ (fun hs_ => Or.elim hs_ (fun hs_ => ((Kd.R_types (Kd.R_types (Kd.R_types (Kd.R_types (HO1281.out) BK1282.out (by decide)) BK1283.out (by decide)) BK1289.out (by decide)) BK1295.out (by decide)).1 k_ hs_.symm).1.1.1.2) (fun hs_ => ((Kd.R_types (Kd.R_types (Kd.R_types (Kd.R_types (HO1277.out) BK1282.out (by decide)) BK1283.out (by decide)) BK1289.out (by decide)) BK1295.out (by decide)).1 k_ hs_.symm).1.1.1.2)) (fun hn_ => (Kd.freshB (g := gb1282) (o := .cells #[.bool t1274, .slice Ao24 t1275.length co24] 27 (0, 0)) (zk BK1282.out) k_ hn_)), Or.elim hk_ (fun hs_ => Or.elim hs_ (fun hs_ => ((Kd.R_types (Kd.R_types (Kd.R_types (Kd.R_types (HO1281.out) BK1282.out (by decide)) BK1283.out (by decide)) BK1289.out (by decide)) BK1295.out (by decide)).1 k_ hs_.symm).1.1.2) (fun hs_ => ((Kd.R_types (Kd.R_types (Kd.R_types (Kd.R_types (HO1277.out) BK1282.out (by decide)) BK1283.out (by decide)) BK1289.out (by decide)) BK1295.out (by decide)).1 k_ hs_.symm).1.1.2)) (fun hn_ => (Kd.freshB (g := gb1283) (o := .cells #[.bool t1278, .slice Ao27 t1279.length co27] 27 (0, 0)) (zk BK1283.out) k_ hn_)), Or.elim hk_ (fun hs_ => Or.elim hs_ (fun hs_ => ((Kd.R_types (Kd.R_types (Kd.R_types (Kd.R_types (HO1281.out) BK1282.out (by decide)) BK1283.out (by decide)) BK1289.out (by decide)) BK1295.out (by decide)).1 k_ hs_.symm).1.2) (fun hs_ => ((Kd.R_types (Kd.R_types (Kd.R_types (Kd.R_types (HO1277.out) BK1282.out (by decide)) BK1283.out (by decide)) BK1289.out (by decide)) BK1295.out (by decide)).1 k_ hs_.symm).1.2)) (fun hn_ => (Kd.freshB (g := gb1289) (o := .cells #[.bool t1284, .slice Ao36 t1285.length co36] 27 (0, 0)) (zk BK1289.out) k_ hn_)), Or.elim hk_ (fun hs_ => Or.elim hs_ (fun hs_ => ((Kd.R_types (Kd.R_types (Kd.R_types (Kd.R_types (HO1281.out) BK1282.out (by decide)) BK1283.out (by decide)) BK1289.out (by decide)) BK1295.out (by decide)).1 k_ hs_.symm).2) (fun hs_ => ((Kd.R_types (Kd.R_types (Kd.R_types (Kd.R_types (HO1277.out) BK1282.out (by decide)) BK1283.out (by decide)) BK1289.out (by decide)) BK1295.out (by decide)).1 k_ hs_.symm).2)) (fun hn_ => (Kd.freshB (g := gb1295) (o := .cells #[.bool t1290, .slice Ao45 t1291.length co45] 27 (0, 0)) (zk BK1295.out) k_ hn_))⟩)) (below_size zb)); have n5_ := Aside0.mk (blk_below (g := gb1282) (o := .cells #[.bool t1274, .slice Ao24 t1275.length co24] 27 (0, 0)) (zk BK1282.out) hb); have n6_ := Aside0.mk (blk_below (g := gb1283) (o := .cells #[.bool t1278, .slice Ao27 t1279.length co27] 27 (0, 0)) (zk BK1283.out) hb); have n7_ := Aside0.mk (blk_below (g := gb1289) (o := .cells #[.bool t1284, .slice Ao36 t1285.length co36] 27 (0, 0)) (zk BK1289.out) hb); have n8_ := Aside0.mk (blk_below (g := gb1295) (o := .cells #[.bool t1290, .slice Ao45 t1291.length co45] 27 (0, 0)) (zk BK1295.out) hb); have n9_ := Aside0.mk (below_step zb hb); clear HO1277; clear HO1281; clear HO1287; clear HO1293; clear BK1282; clear BK1283; clear BK1289; clear BK1295; clear HB; have HO1277 := n0_; have HO1281 := n1_; have HO1287 := n2_; have HO1293 := n3_; have HO1301 := n4_; have BK1282 := n5_; have BK1283 := n6_; have BK1289 := n7_; have BK1295 := n8_; have HB := n9_; clear n0_ n1_ n2_ n3_ n4_ n5_ n6_ n7_ n8_ n9_; (try clear hb); (try clear hb2); (try clear hk); (try clear hi); (try clear ho0)) | ((with_reducible refine gate_dst (N := 9) rfl ?_); refine box_event ?hg (N := 9) ?hd (cs := #[.bool false, .slice none 0 0]) (t := 27) ?hr ?_; (case hd => rfl); (case hg => rfl); (case hr => first | (go_simp; done) | (go_simp; rfl)); intro gb1303 hg w51 hbox hb; have n0_ := Aside0.mk (Kd.R_below (zR HO1277.out) hb); have n1_ := Aside0.mk (Kd.R_below (zR HO1281.out) hb); have n2_ := Aside0.mk (Kd.V_below (Kd.V_elderB (zV HO1287.out) gb1303 (Nat.le_of_eq hg.symm)) hb); have n3_ := Aside0.mk (Kd.R_below (zR HO1293.out) hb); have n4_ := Aside0.mk (Kd.V_below (Kd.V_elderB (zV HO1301.out) gb1303 (Nat.le_of_eq hg.symm)) hb); have n5_ := Aside0.mk (blk_below (g := gb1282) (o := .cells #[.bool t1274, .slice Ao24 t1275.length co24] 27 (0, 0)) (zk BK1282.out) hb); have n6_ := Aside0.mk (blk_below (g := gb1283) (o := .cells #[.bool t1278, .slice Ao27 t1279.length co27] 27 (0, 0)) (zk BK1283.out) hb); have n7_ := Aside0.mk (blk_below (g := gb1289) (o := .cells #[.bool t1284, .slice Ao36 t1285.length co36] 27 (0, 0)) (zk BK1289.out) hb); have n8_ := Aside0.mk (blk_below (g := gb1295) (o := .cells #[.bool t1290, .slice Ao45 t1291.length co45] 27 (0, 0)) (zk BK1295.out) hb); have n9_ := Aside0.mk (below_step zb hb); have n10_ := Aside0.mk (hbox); have n11_ := Aside0.mk ((by rw [hg]; exact (below_size zb) : w.heap.size ≤ gb1303)); have n12_ := Aside0.mk ((by rw [hg]; exact (below_size zb) : w.heap.size ≤ gb1303)); have n13_ := Aside0.mk ((by rw [hg]; exact Nat.ne_of_lt (blk_lt (g := gb1282) (o := .cells #[.bool t1274, .slice Ao24 t1275.length co24] 27 (0, 0)) (zk BK1282.out)) : gb1282 ≠ gb1303)); have n14_ := Aside0.mk ((by rw [hg]; exact Nat.ne_of_gt (blk_lt (g := gb1282) (o := .cells #[.bool t1274, .slice Ao24 t1275.length co24] 27 (0, 0)) (zk BK1282.out)) : gb1303 ≠ gb1282)); have n15_ := Aside0.mk ((by rw [hg]; exact Nat.ne_of_lt (blk_lt (g := gb1283) (o := .cells #[.bool t1278, .slice Ao27 t1279.length co27] 27 (0, 0)) (zk BK1283.out)) : gb1283 ≠ gb1303)); have n16_ := Aside0.mk ((by rw [hg]; exact Nat.ne_of_gt (blk_lt (g := gb1283) (o := .cells #[.bool t1278, .slice Ao27 t1279.length co27] 27 (0, 0)) (zk BK1283.out)) : gb1303 ≠ gb1283)); have n17_ := Aside0.mk ((by rw [hg]; exact Nat.ne_of_lt (blk_lt (g := gb1289) (o := .cells #[.bool t1284, .slice Ao36 t1285.length co36] 27 (0, 0)) (zk BK1289.out)) : gb1289 ≠ gb1303)); have n18_ := Aside0.mk ((by rw [hg]; exact Nat.ne_of_gt (blk_lt (g := gb1289) (o := .cells #[.bool t1284, .slice Ao36 t1285.length co36] 27 (0, 0)) (zk BK1289.out)) : gb1303 ≠ gb1289)); have n19_ := Aside0.mk ((by rw [hg]; exact Nat.ne_of_lt (blk_lt (g := gb1295) (o := .cells #[.bool t1290, .slice Ao45 t1291.length co45] 27 (0, 0)) (zk BK1295.out)) : gb1295 ≠ gb1303)); have n20_ := Aside0.mk ((by rw [hg]; exact Nat.ne_of_gt (blk_lt (g := gb1295) (o := .cells #[.bool t1290, .slice Ao45 t1291.length co45] 27 (0, 0)) (zk BK1295.out)) : gb1303 ≠ gb1295)); clear HO1277; clear HO1281; clear HO1287; clear HO1293; clear HO1301; clear BK1282; clear BK1283; clear BK1289; clear BK1295; clear HB; have HO1277 := n0_; have HO1281 := n1_; have HO1287 := n2_; have HO1293 := n3_; have HO1301 := n4_; have BK1282 := n5_; have BK1283 := n6_; have BK1289 := n7_; have BK1295 := n8_; have HB := n9_; have BK1303 := n10_; have GW1303 := n11_; have GE1303 := n12_; have NB1282_1303 := n13_; have NB1303_1282 := n14_; have NB1283_1303 := n15_; have NB1303_1283 := n16_; have NB1289_1303 := n17_; have NB1303_1289 := n18_; have NB1295_1303 := n19_; have NB1303_1295 := n20_; clear n0_ n1_ n2_ n3_ n4_ n5_ n6_ n7_ n8_ n9_ n10_ n11_ n12_ n13_ n14_ n15_ n16_ n17_ n18_ n19_ n20_; clear hb hbox hg; have hnb52 := NB1303_1282.out; have hnc52 := NB1282_1303.out; have hnb53 := NB1303_1283.out; have hnc53 := NB1283_1303.out; have hnb54 := NB1303_1289.out; have hnc54 := NB1289_1303.out; have hnb55 := NB1303_1295.out; have hnc55 := NB1295_1303.out; have hcz56_0 : w51.cell? ⟨gb1303, 0, none⟩ = some (.bool false) := (blk_cell BK1303.out 0).trans rfl; have hcz56_1 : w51.cell? ⟨gb1303, 1, none⟩ = some (.slice none 0 0) := (blk_cell BK1303.out 1).trans rfl; have hfz56_0 := blk_frozen BK1303.out 0; have hfz56_1 := blk_frozen BK1303.out 1; obtain ⟨Ao57, co57, eo57⟩ := Kd.V_slice HO1301.out; subst eo57) | ((with_reducible refine gate_store (t := 27) (p := 9) rfl ?_); refine store_event (t := 27) (p := 9) (v := ?vo_w58) (w1 := ((w51.setCell ⟨gb1303, 0, none⟩ (.bool t1298)).setCell ⟨gb1303, 1, none⟩ (.slice Ao57 t1299.length co57))) ?hg ?ho ?hn ?hr ?_; (case ho => rfl); (case hg => rfl); (case hn => rfl); (case hr => first | (go_simp; done) | (go_simp; rfl)); intro w58 hw; have n0_ : Aside0 (Kd.R (Kd.int .i64) 3 w58 w.heap.size (fun k_ => some k_ ≠ (.slice Ao27 t1279.length co27 : Value).ownBlock ∧ some k_ ≠ (.slice Ao45 t1291.length co45 : Value).ownBlock) (.slice Ao24 t1275.length co24) t1275) := ⟨(by rw [hw]; exact (by (with_reducible repeat (first | apply Kd.R_alloc | apply Kd.R_drewN | apply Kd.R_drew)); exact Kd.R_mono (Kd.R_far (p := ⟨gb1303, 1, none⟩) (Kd.R_far (p := ⟨gb1303, 0, none⟩) (Kd.R_types HO1277.out BK1303.out (by decide)) (fun _ hk => hk.2) (.bool t1298)) (fun _ hk => hk.2) (.slice Ao57 t1299.length co57)) (fun _ hk => ⟨hk.1.1, hk.1.2⟩)))⟩; have n1_ : Aside0 (Kd.R (Kd.int .i64) 3 w58 w.heap.size (fun k_ => some k_ ≠ (.slice Ao24 t1275.length co24 : Value).ownBlock ∧ some k_ ≠ (.slice Ao45 t1291.length co45 : Value).ownBlock) (.slice Ao27 t1279.length co27) t1279) := ⟨(by rw [hw]; exact (by (with_reducible repeat (first | apply Kd.R_alloc | apply Kd.R_drewN | apply Kd.R_drew)); exact Kd.R_mono (Kd.R_far (p := ⟨gb1303, 1, none⟩) (Kd.R_far (p := ⟨gb1303, 0, none⟩) (Kd.R_types HO1281.out BK1303.out (by decide)) (fun _ hk => hk.2) (.bool t1298)) (fun _ hk => hk.2) (.slice Ao57 t1299.length co57)) (fun _ hk => ⟨hk.1.1, hk.1.2⟩)))⟩; have n2_ : Aside0 (Kd.V (Kd.int .i64) 3 w58 w.heap.size (fun k_ => some k_ ≠ (.slice Ao45 t1291.length co45 : Value).ownBlock ∧ k_ ≠ gb1282 ∧ k_ ≠ gb1283 ∧ k_ ≠ gb1289 ∧ k_ ≠ gb1295 ∧ k_ ≠ gb1303) (.slice Ao36 t1285.length co36) t1285) := ⟨(by rw [hw]; exact (by (with_reducible repeat (first | apply Kd.V_alloc | apply Kd.V_drewN | apply Kd.V_drew)); exact Kd.V_mono (Kd.V_far (p := ⟨gb1303, 1, none⟩) (Kd.V_far (p := ⟨gb1303, 0, none⟩) (Kd.V_mono HO1287.out (fun k_ hk => (⟨hk, hk.2⟩ : _ ∧ k_ ≠ gb1303))) (fun _ hk => hk.2) (.bool t1298)) (fun _ hk => hk.2) (.slice Ao57 t1299.length co57)) (fun _ hk => ⟨hk.1.1.1.2, ⟨hk.1.1.1.1.1.1, ⟨hk.1.1.1.1.1.2, ⟨hk.1.1.1.1.2, ⟨hk.1.1.2, hk.1.2⟩⟩⟩⟩⟩)))⟩; have n3_ : Aside0 (Kd.R (Kd.int .i64) 3 w58 w.heap.size (fun k_ => some k_ ≠ (.slice Ao24 t1275.length co24 : Value).ownBlock ∧ some k_ ≠ (.slice Ao27 t1279.length co27 : Value).ownBlock) (.slice Ao45 t1291.length co45) t1291) := ⟨(by rw [hw]; exact (by (with_reducible repeat (first | apply Kd.R_alloc | apply Kd.R_drewN | apply Kd.R_drew)); exact Kd.R_mono (Kd.R_far (p := ⟨gb1303, 1, none⟩) (Kd.R_far (p := ⟨gb1303, 0, none⟩) (Kd.R_types HO1293.out BK1303.out (by decide)) (fun _ hk => hk.2) (.bool t1298)) (fun _ hk => hk.2) (.slice Ao57 t1299.length co57)) (fun _ hk => ⟨hk.1.1.2, hk.1.2⟩)))⟩; have n4_ : Aside0 (Kd.V (Kd.int .i64) 3 w58 w.heap.size (fun k_ => some k_ ≠ (.slice Ao45 t1291.length co45 : Value).ownBlock ∧ k_ ≠ gb1282 ∧ k_ ≠ gb1283 ∧ k_ ≠ gb1289 ∧ k_ ≠ gb1295 ∧ k_ ≠ gb1303) (.slice Ao57 t1299.length co57) t1299) := ⟨(by rw [hw]; exact (by (with_reducible repeat (first | apply Kd.V_alloc | apply Kd.V_drewN | apply Kd.V_drew)); exact Kd.V_mono (Kd.V_far (p := ⟨gb1303, 1, none⟩) (Kd.V_far (p := ⟨gb1303, 0, none⟩) (Kd.V_mono HO1301.out (fun k_ hk => (⟨hk, hk.2⟩ : _ ∧ k_ ≠ gb1303))) (fun _ hk => hk.2) (.bool t1298)) (fun _ hk => hk.2) (.slice Ao57 t1299.length co57)) (fun _ hk => ⟨hk.1.1.1, ⟨hk.1.1.2.1, ⟨hk.1.1.2.2.1, ⟨hk.1.1.2.2.2.1, ⟨hk.1.1.2.2.2.2, hk.1.2⟩⟩⟩⟩⟩)))⟩; have n5_ : Aside0 (w58.heap[gb1282]? = some (.cells #[.bool t1274, .slice Ao24 t1275.length co24] 27 (0, 0))) := ⟨(by rw [hw]; exact (zk BK1282.out))⟩; have n6_ : Aside0 (w58.heap[gb1283]? = some (.cells #[.bool t1278, .slice Ao27 t1279.length co27] 27 (0, 0))) := ⟨(by rw [hw]; exact (zk BK1283.out))⟩; have n7_ : Aside0 (w58.heap[gb1289]? = some (.cells #[.bool t1284, .slice Ao36 t1285.length co36] 27 (0, 0))) := ⟨(by rw [hw]; exact (zk BK1289.out))⟩; have n8_ : Aside0 (w58.heap[gb1295]? = some (.cells #[.bool t1290, .slice Ao45 t1291.length co45] 27 (0, 0))) := ⟨(by rw [hw]; exact (zk BK1295.out))⟩; have n9_ : Aside0 (w58.heap[gb1303]? = some (.cells #[.bool t1298, .slice Ao57 t1299.length co57] 27 (0, 0))) := ⟨(by rw [hw]; exact (by (with_reducible repeat (first | refine blk_drewN ?_ _ | refine blk_drew ?_ | refine blk_alloc ?_ _)); refine blk_put (cs := #[.bool t1298, .slice none 0 0]) ?_ 1 _ rfl; (with_reducible repeat (first | refine blk_drewN ?_ _ | refine blk_drew ?_ | refine blk_alloc ?_ _)); refine blk_put (cs := #[.bool false, .slice none 0 0]) ?_ 0 _ rfl; (with_reducible repeat (first | refine blk_drewN ?_ _ | refine blk_drew ?_ | refine blk_alloc ?_ _)); exact BK1303.out))⟩; have n10_ : Aside0 (Below w.heap.size w w58) := ⟨(by rw [hw]; exact zb)⟩; clear hw; clear HO1277; clear HO1281; clear HO1287; clear HO1293; clear HO1301; clear BK1282; clear BK1283; clear BK1289; clear BK1295; clear BK1303; clear HB; have HO1277 := n0_; have HO1281 := n1_; have HO1287 := n2_; have HO1293 := n3_; have HO1301 := n4_; have BK1282 := n5_; have BK1283 := n6_; have BK1289 := n7_; have BK1295 := n8_; have BK1303 := n9_; have HB := n10_; clear n0_ n1_ n2_ n3_ n4_ n5_ n6_ n7_ n8_ n9_ n10_; have hcz59_0 : w58.cell? ⟨gb1289, 0, none⟩ = some (.bool t1284) := (blk_cell BK1289.out 0).trans rfl; have hcz59_1 : w58.cell? ⟨gb1289, 1, none⟩ = some (.slice Ao36 t1285.length co36) := (blk_cell BK1289.out 1).trans rfl; have hfz59_0 := blk_frozen BK1289.out 0; have hfz59_1 := blk_frozen BK1289.out 1; have hcz60_0 : w58.cell? ⟨gb1303, 0, none⟩ = some (.bool t1298) := (blk_cell BK1303.out 0).trans rfl; have hcz60_1 : w58.cell? ⟨gb1303, 1, none⟩ = some (.slice Ao57 t1299.length co57) := (blk_cell BK1303.out 1).trans rfl; have hfz60_0 := blk_frozen BK1303.out 0; have hfz60_1 := blk_frozen BK1303.out 1) | ((with_reducible refine gate_callee (f := 32) rfl ?_); refine goesL_ (some 65) rfl rfl Try.func32 (by kernel_rfl) rfl #[.agg #[.bool t1284, .slice Ao36 t1285.length co36], .agg #[.bool t1298, .slice Ao57 t1299.length co57]] rfl za ?_; (with_reducible refine (impl_BigAdd.calls k t1284 (fun k_ => (some k_ ≠ (.slice Ao45 t1291.length co45 : Value).ownBlock ∧ (k_ ≠ gb1282 ∧ (k_ ≠ gb1283 ∧ (k_ ≠ gb1289 ∧ (k_ ≠ gb1295 ∧ k_ ≠ gb1303)))))) _ _ t1285 t1298 (fun k_ => (some k_ ≠ (.slice Ao45 t1291.length co45 : Value).ownBlock ∧ (k_ ≠ gb1282 ∧ (k_ ≠ gb1283 ∧ (k_ ≠ gb1289 ∧ (k_ ≠ gb1295 ∧ k_ ≠ gb1303)))))) _ _ t1299 t1304 t1305 true _ ?side1 ?side2 A11.out).mono ?_); (case side1 => exact HO1287.out); (case side2 => exact HO1301.out); rintro e w61 ⟨v1306, rfl, ho0, hb⟩; refine ⟨_, rfl, ?_⟩; have n0_ := Aside0.mk (Kd.R_below (zR HO1277.out) hb); have n1_ := Aside0.mk (Kd.R_below (zR HO1281.out) hb); have n2_ := Aside0.mk (Kd.V_below (zV HO1287.out) hb); have n3_ := Aside0.mk (Kd.R_below (zR HO1293.out) hb); have n4_ := Aside0.mk (Kd.V_below (zV HO1301.out) hb); have n5_ := Aside0.mk (Kd.V_lower (Kd.V_mono (ok' := fun k_ => some k_ ≠ (.slice Ao45 t1291.length co45 : Value).ownBlock ∧ k_ ≠ gb1282 ∧ k_ ≠ gb1283 ∧ k_ ≠ gb1289 ∧ k_ ≠ gb1295 ∧ k_ ≠ gb1303) ho0 (fun k_ hk_ => ⟨Or.elim hk_ (fun hs_ => Or.elim hs_ (fun hs_ => hs_.1) (fun hs_ => hs_.1)) (fun hn_ => (Kd.fresh' (Kd.R_lt (zR HO1293.out)) k_ hn_)), Or.elim hk_ (fun hs_ => Or.elim hs_ (fun hs_ => hs_.2.1) (fun hs_ => hs_.2.1)) (fun hn_ => (Kd.freshB (g := gb1282) (o := .cells #[.bool t1274, .slice Ao24 t1275.length co24] 27 (0, 0)) (zk BK1282.out) k_ hn_)), Or.elim hk_ (fun hs_ => Or.elim hs_ (fun hs_ => hs_.2.2.1) (fun hs_ => hs_.2.2.1)) (fun hn_ => (Kd.freshB (g := gb1283) (o := .cells #[.bool t1278, .slice Ao27 t1279.length co27] 27 (0, 0)) (zk BK1283.out) k_ hn_)), Or.elim hk_ (fun hs_ => Or.elim hs_ (fun hs_ => hs_.2.2.2.1) (fun hs_ => hs_.2.2.2.1)) (fun hn_ => (Kd.freshB (g := gb1289) (o := .cells #[.bool t1284, .slice Ao36 t1285.length co36] 27 (0, 0)) (zk BK1289.out) k_ hn_)), Or.elim hk_ (fun hs_ => Or.elim hs_ (fun hs_ => hs_.2.2.2.2.1) (fun hs_ => hs_.2.2.2.2.1)) (fun hn_ => (Kd.freshB (g := gb1295) (o := .cells #[.bool t1290, .slice Ao45 t1291.length co45] 27 (0, 0)) (zk BK1295.out) k_ hn_)), Or.elim hk_ (fun hs_ => Or.elim hs_ (fun hs_ => hs_.2.2.2.2.2) (fun hs_ => hs_.2.2.2.2.2)) (fun hn_ => (Kd.freshB (g := gb1303) (o := .cells #[.bool t1298, .slice Ao57 t1299.length co57] 27 (0, 0)) (zk BK1303.out) k_ hn_))⟩)) (below_size zb)); have n6_ := Aside0.mk (blk_below (g := gb1282) (o := .cells #[.bool t1274, .slice Ao24 t1275.length co24] 27 (0, 0)) (zk BK1282.out) hb); have n7_ := Aside0.mk (blk_below (g := gb1283) (o := .cells #[.bool t1278, .slice Ao27 t1279.length co27] 27 (0, 0)) (zk BK1283.out) hb); have n8_ := Aside0.mk (blk_below (g := gb1289) (o := .cells #[.bool t1284, .slice Ao36 t1285.length co36] 27 (0, 0)) (zk BK1289.out) hb); have n9_ := Aside0.mk (blk_below (g := gb1295) (o := .cells #[.bool t1290, .slice Ao45 t1291.length co45] 27 (0, 0)) (zk BK1295.out) hb); have n10_ := Aside0.mk (blk_below (g := gb1303) (o := .cells #[.bool t1298, .slice Ao57 t1299.length co57] 27 (0, 0)) (zk BK1303.out) hb); have n11_ := Aside0.mk (below_step zb hb); clear HO1277; clear HO1281; clear HO1287; clear HO1293; clear HO1301; clear BK1282; clear BK1283; clear BK1289; clear BK1295; clear BK1303; clear HB; have HO1277 := n0_; have HO1281 := n1_; have HO1287 := n2_; have HO1293 := n3_; have HO1301 := n4_; have HO1307 := n5_; have BK1282 := n6_; have BK1283 := n7_; have BK1289 := n8_; have BK1295 := n9_; have BK1303 := n10_; have HB := n11_; clear n0_ n1_ n2_ n3_ n4_ n5_ n6_ n7_ n8_ n9_ n10_ n11_; (try clear hb); (try clear hb2); (try clear hk); (try clear hi); (try clear ho0)) | ((with_reducible refine gate_dst (N := 11) rfl ?_); refine box_event ?hg (N := 11) ?hd (cs := #[.bool false, .slice none 0 0]) (t := 27) ?hr ?_; (case hd => rfl); (case hg => rfl); (case hr => first | (go_simp; done) | (go_simp; rfl)); intro gb1309 hg w62 hbox hb; have n0_ := Aside0.mk (Kd.R_below (zR HO1277.out) hb); have n1_ := Aside0.mk (Kd.R_below (zR HO1281.out) hb); have n2_ := Aside0.mk (Kd.V_below (Kd.V_elderB (zV HO1287.out) gb1309 (Nat.le_of_eq hg.symm)) hb); have n3_ := Aside0.mk (Kd.R_below (zR HO1293.out) hb); have n4_ := Aside0.mk (Kd.V_below (Kd.V_elderB (zV HO1301.out) gb1309 (Nat.le_of_eq hg.symm)) hb); have n5_ := Aside0.mk (Kd.V_below (Kd.V_elderB (zV HO1307.out) gb1309 (Nat.le_of_eq hg.symm)) hb); have n6_ := Aside0.mk (blk_below (g := gb1282) (o := .cells #[.bool t1274, .slice Ao24 t1275.length co24] 27 (0, 0)) (zk BK1282.out) hb); have n7_ := Aside0.mk (blk_below (g := gb1283) (o := .cells #[.bool t1278, .slice Ao27 t1279.length co27] 27 (0, 0)) (zk BK1283.out) hb); have n8_ := Aside0.mk (blk_below (g := gb1289) (o := .cells #[.bool t1284, .slice Ao36 t1285.length co36] 27 (0, 0)) (zk BK1289.out) hb); have n9_ := Aside0.mk (blk_below (g := gb1295) (o := .cells #[.bool t1290, .slice Ao45 t1291.length co45] 27 (0, 0)) (zk BK1295.out) hb); have n10_ := Aside0.mk (blk_below (g := gb1303) (o := .cells #[.bool t1298, .slice Ao57 t1299.length co57] 27 (0, 0)) (zk BK1303.out) hb); have n11_ := Aside0.mk (below_step zb hb); have n12_ := Aside0.mk (hbox); have n13_ := Aside0.mk ((by rw [hg]; exact (below_size zb) : w.heap.size ≤ gb1309)); have n14_ := Aside0.mk ((by rw [hg]; exact (below_size zb) : w.heap.size ≤ gb1309)); have n15_ := Aside0.mk ((by rw [hg]; exact Nat.ne_of_lt (blk_lt (g := gb1282) (o := .cells #[.bool t1274, .slice Ao24 t1275.length co24] 27 (0, 0)) (zk BK1282.out)) : gb1282 ≠ gb1309)); have n16_ := Aside0.mk ((by rw [hg]; exact Nat.ne_of_gt (blk_lt (g := gb1282) (o := .cells #[.bool t1274, .slice Ao24 t1275.length co24] 27 (0, 0)) (zk BK1282.out)) : gb1309 ≠ gb1282)); have n17_ := Aside0.mk ((by rw [hg]; exact Nat.ne_of_lt (blk_lt (g := gb1283) (o := .cells #[.bool t1278, .slice Ao27 t1279.length co27] 27 (0, 0)) (zk BK1283.out)) : gb1283 ≠ gb1309)); have n18_ := Aside0.mk ((by rw [hg]; exact Nat.ne_of_gt (blk_lt (g := gb1283) (o := .cells #[.bool t1278, .slice Ao27 t1279.length co27] 27 (0, 0)) (zk BK1283.out)) : gb1309 ≠ gb1283)); have n19_ := Aside0.mk ((by rw [hg]; exact Nat.ne_of_lt (blk_lt (g := gb1289) (o := .cells #[.bool t1284, .slice Ao36 t1285.length co36] 27 (0, 0)) (zk BK1289.out)) : gb1289 ≠ gb1309)); have n20_ := Aside0.mk ((by rw [hg]; exact Nat.ne_of_gt (blk_lt (g := gb1289) (o := .cells #[.bool t1284, .slice Ao36 t1285.length co36] 27 (0, 0)) (zk BK1289.out)) : gb1309 ≠ gb1289)); have n21_ := Aside0.mk ((by rw [hg]; exact Nat.ne_of_lt (blk_lt (g := gb1295) (o := .cells #[.bool t1290, .slice Ao45 t1291.length co45] 27 (0, 0)) (zk BK1295.out)) : gb1295 ≠ gb1309)); have n22_ := Aside0.mk ((by rw [hg]; exact Nat.ne_of_gt (blk_lt (g := gb1295) (o := .cells #[.bool t1290, .slice Ao45 t1291.length co45] 27 (0, 0)) (zk BK1295.out)) : gb1309 ≠ gb1295)); have n23_ := Aside0.mk ((by rw [hg]; exact Nat.ne_of_lt (blk_lt (g := gb1303) (o := .cells #[.bool t1298, .slice Ao57 t1299.length co57] 27 (0, 0)) (zk BK1303.out)) : gb1303 ≠ gb1309)); have n24_ := Aside0.mk ((by rw [hg]; exact Nat.ne_of_gt (blk_lt (g := gb1303) (o := .cells #[.bool t1298, .slice Ao57 t1299.length co57] 27 (0, 0)) (zk BK1303.out)) : gb1309 ≠ gb1303)); clear HO1277; clear HO1281; clear HO1287; clear HO1293; clear HO1301; clear HO1307; clear BK1282; clear BK1283; clear BK1289; clear BK1295; clear BK1303; clear HB; have HO1277 := n0_; have HO1281 := n1_; have HO1287 := n2_; have HO1293 := n3_; have HO1301 := n4_; have HO1307 := n5_; have BK1282 := n6_; have BK1283 := n7_; have BK1289 := n8_; have BK1295 := n9_; have BK1303 := n10_; have HB := n11_; have BK1309 := n12_; have GW1309 := n13_; have GE1309 := n14_; have NB1282_1309 := n15_; have NB1309_1282 := n16_; have NB1283_1309 := n17_; have NB1309_1283 := n18_; have NB1289_1309 := n19_; have NB1309_1289 := n20_; have NB1295_1309 := n21_; have NB1309_1295 := n22_; have NB1303_1309 := n23_; have NB1309_1303 := n24_; clear n0_ n1_ n2_ n3_ n4_ n5_ n6_ n7_ n8_ n9_ n10_ n11_ n12_ n13_ n14_ n15_ n16_ n17_ n18_ n19_ n20_ n21_ n22_ n23_ n24_; clear hb hbox hg; have hnb63 := NB1309_1282.out; have hnc63 := NB1282_1309.out; have hnb64 := NB1309_1283.out; have hnc64 := NB1283_1309.out; have hnb65 := NB1309_1289.out; have hnc65 := NB1289_1309.out; have hnb66 := NB1309_1295.out; have hnc66 := NB1295_1309.out; have hnb67 := NB1309_1303.out; have hnc67 := NB1303_1309.out; have hcz68_0 : w62.cell? ⟨gb1309, 0, none⟩ = some (.bool false) := (blk_cell BK1309.out 0).trans rfl; have hcz68_1 : w62.cell? ⟨gb1309, 1, none⟩ = some (.slice none 0 0) := (blk_cell BK1309.out 1).trans rfl; have hfz68_0 := blk_frozen BK1309.out 0; have hfz68_1 := blk_frozen BK1309.out 1; obtain ⟨Ao69, co69, eo69⟩ := Kd.V_slice HO1307.out; subst eo69) | ((with_reducible refine gate_store (t := 27) (p := 11) rfl ?_); refine store_event (t := 27) (p := 11) (v := ?vo_w70) (w1 := ((w62.setCell ⟨gb1309, 0, none⟩ (.bool t1304)).setCell ⟨gb1309, 1, none⟩ (.slice Ao69 t1305.length co69))) ?hg ?ho ?hn ?hr ?_; (case ho => rfl); (case hg => rfl); (case hn => rfl); (case hr => first | (go_simp; done) | (go_simp; rfl)); intro w70 hw; have n0_ : Aside0 (Kd.R (Kd.int .i64) 3 w70 w.heap.size (fun k_ => some k_ ≠ (.slice Ao27 t1279.length co27 : Value).ownBlock ∧ some k_ ≠ (.slice Ao45 t1291.length co45 : Value).ownBlock) (.slice Ao24 t1275.length co24) t1275) := ⟨(by rw [hw]; exact (by (with_reducible repeat (first | apply Kd.R_alloc | apply Kd.R_drewN | apply Kd.R_drew)); exact Kd.R_mono (Kd.R_far (p := ⟨gb1309, 1, none⟩) (Kd.R_far (p := ⟨gb1309, 0, none⟩) (Kd.R_types HO1277.out BK1309.out (by decide)) (fun _ hk => hk.2) (.bool t1304)) (fun _ hk => hk.2) (.slice Ao69 t1305.length co69)) (fun _ hk => ⟨hk.1.1, hk.1.2⟩)))⟩; have n1_ : Aside0 (Kd.R (Kd.int .i64) 3 w70 w.heap.size (fun k_ => some k_ ≠ (.slice Ao24 t1275.length co24 : Value).ownBlock ∧ some k_ ≠ (.slice Ao45 t1291.length co45 : Value).ownBlock) (.slice Ao27 t1279.length co27) t1279) := ⟨(by rw [hw]; exact (by (with_reducible repeat (first | apply Kd.R_alloc | apply Kd.R_drewN | apply Kd.R_drew)); exact Kd.R_mono (Kd.R_far (p := ⟨gb1309, 1, none⟩) (Kd.R_far (p := ⟨gb1309, 0, none⟩) (Kd.R_types HO1281.out BK1309.out (by decide)) (fun _ hk => hk.2) (.bool t1304)) (fun _ hk => hk.2) (.slice Ao69 t1305.length co69)) (fun _ hk => ⟨hk.1.1, hk.1.2⟩)))⟩; have n2_ : Aside0 (Kd.V (Kd.int .i64) 3 w70 w.heap.size (fun k_ => some k_ ≠ (.slice Ao45 t1291.length co45 : Value).ownBlock ∧ k_ ≠ gb1282 ∧ k_ ≠ gb1283 ∧ k_ ≠ gb1289 ∧ k_ ≠ gb1295 ∧ k_ ≠ gb1303 ∧ k_ ≠ gb1309) (.slice Ao36 t1285.length co36) t1285) := ⟨(by rw [hw]; exact (by (with_reducible repeat (first | apply Kd.V_alloc | apply Kd.V_drewN | apply Kd.V_drew)); exact Kd.V_mono (Kd.V_far (p := ⟨gb1309, 1, none⟩) (Kd.V_far (p := ⟨gb1309, 0, none⟩) (Kd.V_mono HO1287.out (fun k_ hk => (⟨hk, hk.2⟩ : _ ∧ k_ ≠ gb1309))) (fun _ hk => hk.2) (.bool t1304)) (fun _ hk => hk.2) (.slice Ao69 t1305.length co69)) (fun _ hk => ⟨hk.1.1.1, ⟨hk.1.1.2.1, ⟨hk.1.1.2.2.1, ⟨hk.1.1.2.2.2.1, ⟨hk.1.1.2.2.2.2.1, ⟨hk.1.1.2.2.2.2.2, hk.1.2⟩⟩⟩⟩⟩⟩)))⟩; have n3_ : Aside0 (Kd.R (Kd.int .i64) 3 w70 w.heap.size (fun k_ => some k_ ≠ (.slice Ao24 t1275.length co24 : Value).ownBlock ∧ some k_ ≠ (.slice Ao27 t1279.length co27 : Value).ownBlock) (.slice Ao45 t1291.length co45) t1291) := ⟨(by rw [hw]; exact (by (with_reducible repeat (first | apply Kd.R_alloc | apply Kd.R_drewN | apply Kd.R_drew)); exact Kd.R_mono (Kd.R_far (p := ⟨gb1309, 1, none⟩) (Kd.R_far (p := ⟨gb1309, 0, none⟩) (Kd.R_types HO1293.out BK1309.out (by decide)) (fun _ hk => hk.2) (.bool t1304)) (fun _ hk => hk.2) (.slice Ao69 t1305.length co69)) (fun _ hk => ⟨hk.1.1, hk.1.2⟩)))⟩; have n4_ : Aside0 (Kd.V (Kd.int .i64) 3 w70 w.heap.size (fun k_ => some k_ ≠ (.slice Ao45 t1291.length co45 : Value).ownBlock ∧ k_ ≠ gb1282 ∧ k_ ≠ gb1283 ∧ k_ ≠ gb1289 ∧ k_ ≠ gb1295 ∧ k_ ≠ gb1303 ∧ k_ ≠ gb1309) (.slice Ao57 t1299.length co57) t1299) := ⟨(by rw [hw]; exact (by (with_reducible repeat (first | apply Kd.V_alloc | apply Kd.V_drewN | apply Kd.V_drew)); exact Kd.V_mono (Kd.V_far (p := ⟨gb1309, 1, none⟩) (Kd.V_far (p := ⟨gb1309, 0, none⟩) (Kd.V_mono HO1301.out (fun k_ hk => (⟨hk, hk.2⟩ : _ ∧ k_ ≠ gb1309))) (fun _ hk => hk.2) (.bool t1304)) (fun _ hk => hk.2) (.slice Ao69 t1305.length co69)) (fun _ hk => ⟨hk.1.1.1, ⟨hk.1.1.2.1, ⟨hk.1.1.2.2.1, ⟨hk.1.1.2.2.2.1, ⟨hk.1.1.2.2.2.2.1, ⟨hk.1.1.2.2.2.2.2, hk.1.2⟩⟩⟩⟩⟩⟩)))⟩; have n5_ : Aside0 (Kd.V (Kd.int .i64) 3 w70 w.heap.size (fun k_ => some k_ ≠ (.slice Ao45 t1291.length co45 : Value).ownBlock ∧ k_ ≠ gb1282 ∧ k_ ≠ gb1283 ∧ k_ ≠ gb1289 ∧ k_ ≠ gb1295 ∧ k_ ≠ gb1303 ∧ k_ ≠ gb1309) (.slice Ao69 t1305.length co69) t1305) := ⟨(by rw [hw]; exact (by (with_reducible repeat (first | apply Kd.V_alloc | apply Kd.V_drewN | apply Kd.V_drew)); exact Kd.V_mono (Kd.V_far (p := ⟨gb1309, 1, none⟩) (Kd.V_far (p := ⟨gb1309, 0, none⟩) (Kd.V_mono HO1307.out (fun k_ hk => (⟨hk, hk.2⟩ : _ ∧ k_ ≠ gb1309))) (fun _ hk => hk.2) (.bool t1304)) (fun _ hk => hk.2) (.slice Ao69 t1305.length co69)) (fun _ hk => ⟨hk.1.1.1, ⟨hk.1.1.2.1, ⟨hk.1.1.2.2.1, ⟨hk.1.1.2.2.2.1, ⟨hk.1.1.2.2.2.2.1, ⟨hk.1.1.2.2.2.2.2, hk.1.2⟩⟩⟩⟩⟩⟩)))⟩; have n6_ : Aside0 (w70.heap[gb1282]? = some (.cells #[.bool t1274, .slice Ao24 t1275.length co24] 27 (0, 0))) := ⟨(by rw [hw]; exact (zk BK1282.out))⟩; have n7_ : Aside0 (w70.heap[gb1283]? = some (.cells #[.bool t1278, .slice Ao27 t1279.length co27] 27 (0, 0))) := ⟨(by rw [hw]; exact (zk BK1283.out))⟩; have n8_ : Aside0 (w70.heap[gb1289]? = some (.cells #[.bool t1284, .slice Ao36 t1285.length co36] 27 (0, 0))) := ⟨(by rw [hw]; exact (zk BK1289.out))⟩; have n9_ : Aside0 (w70.heap[gb1295]? = some (.cells #[.bool t1290, .slice Ao45 t1291.length co45] 27 (0, 0))) := ⟨(by rw [hw]; exact (zk BK1295.out))⟩; have n10_ : Aside0 (w70.heap[gb1303]? = some (.cells #[.bool t1298, .slice Ao57 t1299.length co57] 27 (0, 0))) := ⟨(by rw [hw]; exact (zk BK1303.out))⟩; have n11_ : Aside0 (w70.heap[gb1309]? = some (.cells #[.bool t1304, .slice Ao69 t1305.length co69] 27 (0, 0))) := ⟨(by rw [hw]; exact (by (with_reducible repeat (first | refine blk_drewN ?_ _ | refine blk_drew ?_ | refine blk_alloc ?_ _)); refine blk_put (cs := #[.bool t1304, .slice none 0 0]) ?_ 1 _ rfl; (with_reducible repeat (first | refine blk_drewN ?_ _ | refine blk_drew ?_ | refine blk_alloc ?_ _)); refine blk_put (cs := #[.bool false, .slice none 0 0]) ?_ 0 _ rfl; (with_reducible repeat (first | refine blk_drewN ?_ _ | refine blk_drew ?_ | refine blk_alloc ?_ _)); exact BK1309.out))⟩; have n12_ : Aside0 (Below w.heap.size w w70) := ⟨(by rw [hw]; exact zb)⟩; clear hw; clear HO1277; clear HO1281; clear HO1287; clear HO1293; clear HO1301; clear HO1307; clear BK1282; clear BK1283; clear BK1289; clear BK1295; clear BK1303; clear BK1309; clear HB; have HO1277 := n0_; have HO1281 := n1_; have HO1287 := n2_; have HO1293 := n3_; have HO1301 := n4_; have HO1307 := n5_; have BK1282 := n6_; have BK1283 := n7_; have BK1289 := n8_; have BK1295 := n9_; have BK1303 := n10_; have BK1309 := n11_; have HB := n12_; clear n0_ n1_ n2_ n3_ n4_ n5_ n6_ n7_ n8_ n9_ n10_ n11_ n12_; have hcz71_0 : w70.cell? ⟨gb1282, 0, none⟩ = some (.bool t1274) := (blk_cell BK1282.out 0).trans rfl; have hcz71_1 : w70.cell? ⟨gb1282, 1, none⟩ = some (.slice Ao24 t1275.length co24) := (blk_cell BK1282.out 1).trans rfl; have hfz71_0 := blk_frozen BK1282.out 0; have hfz71_1 := blk_frozen BK1282.out 1) | ((with_reducible refine gate_callee (f := 41) rfl ?_); refine goesL_ (some 71) rfl rfl Try.func41 (by kernel_rfl) rfl #[.agg #[.bool t1274, .slice Ao24 t1275.length co24], .agg #[.bool t1274, .slice Ao24 t1275.length co24]] rfl za ?_; (with_reducible refine (impl_BigSub.calls k t1274 (fun k_ => some k_ = (.slice Ao24 t1275.length co24 : Value).ownBlock) _ _ t1275 t1274 (fun k_ => some k_ = (.slice Ao24 t1275.length co24 : Value).ownBlock) _ _ t1275 t1310 t1311 true _ ?side1 ?side2 A12.out).mono ?_); (case side1 => exact Kd.R_V (Kd.R_tight rfl (Kd.R_types (Kd.R_types (Kd.R_types (Kd.R_types (Kd.R_types (Kd.R_types (HO1277.out) BK1282.out (by decide)) BK1283.out (by decide)) BK1289.out (by decide)) BK1295.out (by decide)) BK1303.out (by decide)) BK1309.out (by decide)))); (case side2 => exact Kd.R_V (Kd.R_tight rfl (Kd.R_types (Kd.R_types (Kd.R_types (Kd.R_types (Kd.R_types (Kd.R_types (HO1277.out) BK1282.out (by decide)) BK1283.out (by decide)) BK1289.out (by decide)) BK1295.out (by decide)) BK1303.out (by decide)) BK1309.out (by decide)))); rintro e w72 ⟨v1312, rfl, ho0, hb⟩; refine ⟨_, rfl, ?_⟩; have n0_ := Aside0.mk (Kd.R_below (zR HO1277.out) hb); have n1_ := Aside0.mk (Kd.R_below (zR HO1281.out) hb); have n2_ := Aside0.mk (Kd.V_below (zV HO1287.out) hb); have n3_ := Aside0.mk (Kd.R_below (zR HO1293.out) hb); have n4_ := Aside0.mk (Kd.V_below (zV HO1301.out) hb); have n5_ := Aside0.mk (Kd.V_below (zV HO1307.out) hb); have n6_ := Aside0.mk (Kd.V_lower (Kd.V_mono (ok' := fun k_ => some k_ ≠ (.slice Ao27 t1279.length co27 : Value).ownBlock ∧ some k_ ≠ (.slice Ao45 t1291.length co45 : Value).ownBlock ∧ k_ ≠ gb1282 ∧ k_ ≠ gb1283 ∧ k_ ≠ gb1289 ∧ k_ ≠ gb1295 ∧ k_ ≠ gb1303 ∧ k_ ≠ gb1309) ho0 (fun k_ hk_ => ⟨Or.elim hk_ (fun hs_ => Or.elim hs_ (fun hs_ => ((Kd.R_types (Kd.R_types (Kd.R_types (Kd.R_types (Kd.R_types (Kd.R_types (HO1277.out) BK1282.out (by decide)) BK1283.out (by decide)) BK1289.out (by decide)) BK1295.out (by decide)) BK1303.out (by decide)) BK1309.out (by decide)).1 k_ hs_.symm).1.1.1.1.1.1.1) (fun hs_ => ((Kd.R_types (Kd.R_types (Kd.R_types (Kd.R_types (Kd.R_types (Kd.R_types (HO1277.out) BK1282.out (by decide)) BK1283.out (by decide)) BK1289.out (by decide)) BK1295.out (by decide)) BK1303.out (by decide)) BK1309.out (by decide)).1 k_ hs_.symm).1.1.1.1.1.1.1)) (fun hn_ => (Kd.fresh' (Kd.R_lt (zR HO1281.out)) k_ hn_)), Or.elim hk_ (fun hs_ => Or.elim hs_ (fun hs_ => ((Kd.R_types (Kd.R_types (Kd.R_types (Kd.R_types (Kd.R_types (Kd.R_types (HO1277.out) BK1282.out (by decide)) BK1283.out (by decide)) BK1289.out (by decide)) BK1295.out (by decide)) BK1303.out (by decide)) BK1309.out (by decide)).1 k_ hs_.symm).1.1.1.1.1.1.2) (fun hs_ => ((Kd.R_types (Kd.R_types (Kd.R_types (Kd.R_types (Kd.R_types (Kd.R_types (HO1277.out) BK1282.out (by decide)) BK1283.out (by decide)) BK1289.out (by decide)) BK1295.out (by decide)) BK1303.out (by decide)) BK1309.out (by decide)).1 k_ hs_.symm).1.1.1.1.1.1.2)) (fun hn_ => (Kd.fresh' (Kd.R_lt (zR HO1293.out)) k_ hn_)), Or.elim hk_ (fun hs_ => Or.elim hs_ (fun hs_ => ((Kd.R_types (Kd.R_types (Kd.R_types (Kd.R_types (Kd.R_types (Kd.R_types (HO1277.out) BK1282.out (by decide)) BK1283.out (by decide)) BK1289.out (by decide)) BK1295.out (by decide)) BK1303.out (by decide)) BK1309.out (by decide)).1 k_ hs_.symm).1.1.1.1.1.2) (fun hs_ => ((Kd.R_types (Kd.R_types (Kd.R_types (Kd.R_types (Kd.R_types (Kd.R_types (HO1277.out) BK1282.out (by decide)) BK1283.out (by decide)) BK1289.out (by decide)) BK1295.out (by decide)) BK1303.out (by decide)) BK1309.out (by decide)).1 k_ hs_.symm).1.1.1.1.1.2)) (fun hn_ => (Kd.freshB (g := gb1282) (o := .cells #[.bool t1274, .slice Ao24 t1275.length co24] 27 (0, 0)) (zk BK1282.out) k_ hn_)), Or.elim hk_ (fun hs_ => Or.elim hs_ (fun hs_ => ((Kd.R_types (Kd.R_types (Kd.R_types (Kd.R_types (Kd.R_types (Kd.R_types (HO1277.out) BK1282.out (by decide)) BK1283.out (by decide)) BK1289.out (by decide)) BK1295.out (by decide)) BK1303.out (by decide)) BK1309.out (by decide)).1 k_ hs_.symm).1.1.1.1.2) (fun hs_ => ((Kd.R_types (Kd.R_types (Kd.R_types (Kd.R_types (Kd.R_types (Kd.R_types (HO1277.out) BK1282.out (by decide)) BK1283.out (by decide)) BK1289.out (by decide)) BK1295.out (by decide)) BK1303.out (by decide)) BK1309.out (by decide)).1 k_ hs_.symm).1.1.1.1.2)) (fun hn_ => (Kd.freshB (g := gb1283) (o := .cells #[.bool t1278, .slice Ao27 t1279.length co27] 27 (0, 0)) (zk BK1283.out) k_ hn_)), Or.elim hk_ (fun hs_ => Or.elim hs_ (fun hs_ => ((Kd.R_types (Kd.R_types (Kd.R_types (Kd.R_types (Kd.R_types (Kd.R_types (HO1277.out) BK1282.out (by decide)) BK1283.out (by decide)) BK1289.out (by decide)) BK1295.out (by decide)) BK1303.out (by decide)) BK1309.out (by decide)).1 k_ hs_.symm).1.1.1.2) (fun hs_ => ((Kd.R_types (Kd.R_types (Kd.R_types (Kd.R_types (Kd.R_types (Kd.R_types (HO1277.out) BK1282.out (by decide)) BK1283.out (by decide)) BK1289.out (by decide)) BK1295.out (by decide)) BK1303.out (by decide)) BK1309.out (by decide)).1 k_ hs_.symm).1.1.1.2)) (fun hn_ => (Kd.freshB (g := gb1289) (o := .cells #[.bool t1284, .slice Ao36 t1285.length co36] 27 (0, 0)) (zk BK1289.out) k_ hn_)), Or.elim hk_ (fun hs_ => Or.elim hs_ (fun hs_ => ((Kd.R_types (Kd.R_types (Kd.R_types (Kd.R_types (Kd.R_types (Kd.R_types (HO1277.out) BK1282.out (by decide)) BK1283.out (by decide)) BK1289.out (by decide)) BK1295.out (by decide)) BK1303.out (by decide)) BK1309.out (by decide)).1 k_ hs_.symm).1.1.2) (fun hs_ => ((Kd.R_types (Kd.R_types (Kd.R_types (Kd.R_types (Kd.R_types (Kd.R_types (HO1277.out) BK1282.out (by decide)) BK1283.out (by decide)) BK1289.out (by decide)) BK1295.out (by decide)) BK1303.out (by decide)) BK1309.out (by decide)).1 k_ hs_.symm).1.1.2)) (fun hn_ => (Kd.freshB (g := gb1295) (o := .cells #[.bool t1290, .slice Ao45 t1291.length co45] 27 (0, 0)) (zk BK1295.out) k_ hn_)), Or.elim hk_ (fun hs_ => Or.elim hs_ (fun hs_ => ((Kd.R_types (Kd.R_types (Kd.R_types (Kd.R_types (Kd.R_types (Kd.R_types (HO1277.out) BK1282.out (by decide)) BK1283.out (by decide)) BK1289.out (by decide)) BK1295.out (by decide)) BK1303.out (by decide)) BK1309.out (by decide)).1 k_ hs_.symm).1.2) (fun hs_ => ((Kd.R_types (Kd.R_types (Kd.R_types (Kd.R_types (Kd.R_types (Kd.R_types (HO1277.out) BK1282.out (by decide)) BK1283.out (by decide)) BK1289.out (by decide)) BK1295.out (by decide)) BK1303.out (by decide)) BK1309.out (by decide)).1 k_ hs_.symm).1.2)) (fun hn_ => (Kd.freshB (g := gb1303) (o := .cells #[.bool t1298, .slice Ao57 t1299.length co57] 27 (0, 0)) (zk BK1303.out) k_ hn_)), Or.elim hk_ (fun hs_ => Or.elim hs_ (fun hs_ => ((Kd.R_types (Kd.R_types (Kd.R_types (Kd.R_types (Kd.R_types (Kd.R_types (HO1277.out) BK1282.out (by decide)) BK1283.out (by decide)) BK1289.out (by decide)) BK1295.out (by decide)) BK1303.out (by decide)) BK1309.out (by decide)).1 k_ hs_.symm).2) (fun hs_ => ((Kd.R_types (Kd.R_types (Kd.R_types (Kd.R_types (Kd.R_types (Kd.R_types (HO1277.out) BK1282.out (by decide)) BK1283.out (by decide)) BK1289.out (by decide)) BK1295.out (by decide)) BK1303.out (by decide)) BK1309.out (by decide)).1 k_ hs_.symm).2)) (fun hn_ => (Kd.freshB (g := gb1309) (o := .cells #[.bool t1304, .slice Ao69 t1305.length co69] 27 (0, 0)) (zk BK1309.out) k_ hn_))⟩)) (below_size zb)); have n7_ := Aside0.mk (blk_below (g := gb1282) (o := .cells #[.bool t1274, .slice Ao24 t1275.length co24] 27 (0, 0)) (zk BK1282.out) hb); have n8_ := Aside0.mk (blk_below (g := gb1283) (o := .cells #[.bool t1278, .slice Ao27 t1279.length co27] 27 (0, 0)) (zk BK1283.out) hb); have n9_ := Aside0.mk (blk_below (g := gb1289) (o := .cells #[.bool t1284, .slice Ao36 t1285.length co36] 27 (0, 0)) (zk BK1289.out) hb); have n10_ := Aside0.mk (blk_below (g := gb1295) (o := .cells #[.bool t1290, .slice Ao45 t1291.length co45] 27 (0, 0)) (zk BK1295.out) hb); have n11_ := Aside0.mk (blk_below (g := gb1303) (o := .cells #[.bool t1298, .slice Ao57 t1299.length co57] 27 (0, 0)) (zk BK1303.out) hb); have n12_ := Aside0.mk (blk_below (g := gb1309) (o := .cells #[.bool t1304, .slice Ao69 t1305.length co69] 27 (0, 0)) (zk BK1309.out) hb); have n13_ := Aside0.mk (below_step zb hb); clear HO1277; clear HO1281; clear HO1287; clear HO1293; clear HO1301; clear HO1307; clear BK1282; clear BK1283; clear BK1289; clear BK1295; clear BK1303; clear BK1309; clear HB; have HO1277 := n0_; have HO1281 := n1_; have HO1287 := n2_; have HO1293 := n3_; have HO1301 := n4_; have HO1307 := n5_; have HO1313 := n6_; have BK1282 := n7_; have BK1283 := n8_; have BK1289 := n9_; have BK1295 := n10_; have BK1303 := n11_; have BK1309 := n12_; have HB := n13_; clear n0_ n1_ n2_ n3_ n4_ n5_ n6_ n7_ n8_ n9_ n10_ n11_ n12_ n13_; (try clear hb); (try clear hb2); (try clear hk); (try clear hi); (try clear ho0)) | ((with_reducible refine gate_dst (N := 13) rfl ?_); refine box_event ?hg (N := 13) ?hd (cs := #[.bool false, .slice none 0 0]) (t := 27) ?hr ?_; (case hd => rfl); (case hg => rfl); (case hr => first | (go_simp; done) | (go_simp; rfl)); intro gb1315 hg w73 hbox hb; have n0_ := Aside0.mk (Kd.R_below (zR HO1277.out) hb); have n1_ := Aside0.mk (Kd.R_below (zR HO1281.out) hb); have n2_ := Aside0.mk (Kd.V_below (Kd.V_elderB (zV HO1287.out) gb1315 (Nat.le_of_eq hg.symm)) hb); have n3_ := Aside0.mk (Kd.R_below (zR HO1293.out) hb); have n4_ := Aside0.mk (Kd.V_below (Kd.V_elderB (zV HO1301.out) gb1315 (Nat.le_of_eq hg.symm)) hb); have n5_ := Aside0.mk (Kd.V_below (Kd.V_elderB (zV HO1307.out) gb1315 (Nat.le_of_eq hg.symm)) hb); have n6_ := Aside0.mk (Kd.V_below (Kd.V_elderB (zV HO1313.out) gb1315 (Nat.le_of_eq hg.symm)) hb); have n7_ := Aside0.mk (blk_below (g := gb1282) (o := .cells #[.bool t1274, .slice Ao24 t1275.length co24] 27 (0, 0)) (zk BK1282.out) hb); have n8_ := Aside0.mk (blk_below (g := gb1283) (o := .cells #[.bool t1278, .slice Ao27 t1279.length co27] 27 (0, 0)) (zk BK1283.out) hb); have n9_ := Aside0.mk (blk_below (g := gb1289) (o := .cells #[.bool t1284, .slice Ao36 t1285.length co36] 27 (0, 0)) (zk BK1289.out) hb); have n10_ := Aside0.mk (blk_below (g := gb1295) (o := .cells #[.bool t1290, .slice Ao45 t1291.length co45] 27 (0, 0)) (zk BK1295.out) hb); have n11_ := Aside0.mk (blk_below (g := gb1303) (o := .cells #[.bool t1298, .slice Ao57 t1299.length co57] 27 (0, 0)) (zk BK1303.out) hb); have n12_ := Aside0.mk (blk_below (g := gb1309) (o := .cells #[.bool t1304, .slice Ao69 t1305.length co69] 27 (0, 0)) (zk BK1309.out) hb); have n13_ := Aside0.mk (below_step zb hb); have n14_ := Aside0.mk (hbox); have n15_ := Aside0.mk ((by rw [hg]; exact (below_size zb) : w.heap.size ≤ gb1315)); have n16_ := Aside0.mk ((by rw [hg]; exact (below_size zb) : w.heap.size ≤ gb1315)); have n17_ := Aside0.mk ((by rw [hg]; exact Nat.ne_of_lt (blk_lt (g := gb1282) (o := .cells #[.bool t1274, .slice Ao24 t1275.length co24] 27 (0, 0)) (zk BK1282.out)) : gb1282 ≠ gb1315)); have n18_ := Aside0.mk ((by rw [hg]; exact Nat.ne_of_gt (blk_lt (g := gb1282) (o := .cells #[.bool t1274, .slice Ao24 t1275.length co24] 27 (0, 0)) (zk BK1282.out)) : gb1315 ≠ gb1282)); have n19_ := Aside0.mk ((by rw [hg]; exact Nat.ne_of_lt (blk_lt (g := gb1283) (o := .cells #[.bool t1278, .slice Ao27 t1279.length co27] 27 (0, 0)) (zk BK1283.out)) : gb1283 ≠ gb1315)); have n20_ := Aside0.mk ((by rw [hg]; exact Nat.ne_of_gt (blk_lt (g := gb1283) (o := .cells #[.bool t1278, .slice Ao27 t1279.length co27] 27 (0, 0)) (zk BK1283.out)) : gb1315 ≠ gb1283)); have n21_ := Aside0.mk ((by rw [hg]; exact Nat.ne_of_lt (blk_lt (g := gb1289) (o := .cells #[.bool t1284, .slice Ao36 t1285.length co36] 27 (0, 0)) (zk BK1289.out)) : gb1289 ≠ gb1315)); have n22_ := Aside0.mk ((by rw [hg]; exact Nat.ne_of_gt (blk_lt (g := gb1289) (o := .cells #[.bool t1284, .slice Ao36 t1285.length co36] 27 (0, 0)) (zk BK1289.out)) : gb1315 ≠ gb1289)); have n23_ := Aside0.mk ((by rw [hg]; exact Nat.ne_of_lt (blk_lt (g := gb1295) (o := .cells #[.bool t1290, .slice Ao45 t1291.length co45] 27 (0, 0)) (zk BK1295.out)) : gb1295 ≠ gb1315)); have n24_ := Aside0.mk ((by rw [hg]; exact Nat.ne_of_gt (blk_lt (g := gb1295) (o := .cells #[.bool t1290, .slice Ao45 t1291.length co45] 27 (0, 0)) (zk BK1295.out)) : gb1315 ≠ gb1295)); have n25_ := Aside0.mk ((by rw [hg]; exact Nat.ne_of_lt (blk_lt (g := gb1303) (o := .cells #[.bool t1298, .slice Ao57 t1299.length co57] 27 (0, 0)) (zk BK1303.out)) : gb1303 ≠ gb1315)); have n26_ := Aside0.mk ((by rw [hg]; exact Nat.ne_of_gt (blk_lt (g := gb1303) (o := .cells #[.bool t1298, .slice Ao57 t1299.length co57] 27 (0, 0)) (zk BK1303.out)) : gb1315 ≠ gb1303)); have n27_ := Aside0.mk ((by rw [hg]; exact Nat.ne_of_lt (blk_lt (g := gb1309) (o := .cells #[.bool t1304, .slice Ao69 t1305.length co69] 27 (0, 0)) (zk BK1309.out)) : gb1309 ≠ gb1315)); have n28_ := Aside0.mk ((by rw [hg]; exact Nat.ne_of_gt (blk_lt (g := gb1309) (o := .cells #[.bool t1304, .slice Ao69 t1305.length co69] 27 (0, 0)) (zk BK1309.out)) : gb1315 ≠ gb1309)); clear HO1277; clear HO1281; clear HO1287; clear HO1293; clear HO1301; clear HO1307; clear HO1313; clear BK1282; clear BK1283; clear BK1289; clear BK1295; clear BK1303; clear BK1309; clear HB; have HO1277 := n0_; have HO1281 := n1_; have HO1287 := n2_; have HO1293 := n3_; have HO1301 := n4_; have HO1307 := n5_; have HO1313 := n6_; have BK1282 := n7_; have BK1283 := n8_; have BK1289 := n9_; have BK1295 := n10_; have BK1303 := n11_; have BK1309 := n12_; have HB := n13_; have BK1315 := n14_; have GW1315 := n15_; have GE1315 := n16_; have NB1282_1315 := n17_; have NB1315_1282 := n18_; have NB1283_1315 := n19_; have NB1315_1283 := n20_; have NB1289_1315 := n21_; have NB1315_1289 := n22_; have NB1295_1315 := n23_; have NB1315_1295 := n24_; have NB1303_1315 := n25_; have NB1315_1303 := n26_; have NB1309_1315 := n27_; have NB1315_1309 := n28_; clear n0_ n1_ n2_ n3_ n4_ n5_ n6_ n7_ n8_ n9_ n10_ n11_ n12_ n13_ n14_ n15_ n16_ n17_ n18_ n19_ n20_ n21_ n22_ n23_ n24_ n25_ n26_ n27_ n28_; clear hb hbox hg; have hnb74 := NB1315_1282.out; have hnc74 := NB1282_1315.out; have hnb75 := NB1315_1283.out; have hnc75 := NB1283_1315.out; have hnb76 := NB1315_1289.out; have hnc76 := NB1289_1315.out; have hnb77 := NB1315_1295.out; have hnc77 := NB1295_1315.out; have hnb78 := NB1315_1303.out; have hnc78 := NB1303_1315.out; have hnb79 := NB1315_1309.out; have hnc79 := NB1309_1315.out; have hcz80_0 : w73.cell? ⟨gb1315, 0, none⟩ = some (.bool false) := (blk_cell BK1315.out 0).trans rfl; have hcz80_1 : w73.cell? ⟨gb1315, 1, none⟩ = some (.slice none 0 0) := (blk_cell BK1315.out 1).trans rfl; have hfz80_0 := blk_frozen BK1315.out 0; have hfz80_1 := blk_frozen BK1315.out 1; obtain ⟨Ao81, co81, eo81⟩ := Kd.V_slice HO1313.out; subst eo81; have hcz82_0 : w73.cell? ⟨gb1309, 0, none⟩ = some (.bool t1304) := (blk_cell BK1309.out 0).trans rfl; have hcz82_1 : w73.cell? ⟨gb1309, 1, none⟩ = some (.slice Ao69 t1305.length co69) := (blk_cell BK1309.out 1).trans rfl; have hfz82_0 := blk_frozen BK1309.out 0; have hfz82_1 := blk_frozen BK1309.out 1) | (go_at_call 42; (with_reducible refine (laws_jtZero.calls t1304 _ _ t1305 true _ ?side1 ?side2 A16.out).mono ?_); (case side1 => refine (Kd.V_reads' (e := 3) (base := w.heap.size) (ok := fun k_ => ((some k_ ≠ (.slice Ao45 t1291.length co45 : Value).ownBlock ∧ (k_ ≠ gb1282 ∧ (k_ ≠ gb1283 ∧ (k_ ≠ gb1289 ∧ (k_ ≠ gb1295 ∧ (k_ ≠ gb1303 ∧ k_ ≠ gb1309)))))) ∧ k_ ≠ gb1315)) (n := t1305.length) (c := co69) ?_).2.2; exact (by (with_reducible repeat (first | apply Kd.V_alloc | apply Kd.V_drewN | apply Kd.V_drew)); exact (Kd.V_mono (Kd.V_far (p := ⟨gb1315, 1, none⟩) (Kd.V_far (p := ⟨gb1315, 0, none⟩) (Kd.V_mono HO1307.out (fun k_ hk => (⟨hk, hk.2⟩ : _ ∧ k_ ≠ gb1315))) (fun _ hk => hk.2) (.bool t1310)) (fun _ hk => hk.2) (.slice Ao81 t1311.length co81)) (fun _ h_ => h_.1)))); (case side2 => exact (Kd.V_reads' HO1307.out).2.1); rintro e w83 ⟨rfl, hb⟩; have n0_ := Aside0.mk (Kd.R_below (by (with_reducible repeat (first | apply Kd.R_alloc | apply Kd.R_drewN | apply Kd.R_drew)); exact (Kd.R_mono (Kd.R_far (p := ⟨gb1315, 1, none⟩) (Kd.R_far (p := ⟨gb1315, 0, none⟩) (Kd.R_types HO1277.out BK1315.out (by decide)) (fun _ hk => hk.2) (.bool t1310)) (fun _ hk => hk.2) (.slice Ao81 t1311.length co81)) (fun _ h_ => h_.1))) hb); have n1_ := Aside0.mk (Kd.R_below (by (with_reducible repeat (first | apply Kd.R_alloc | apply Kd.R_drewN | apply Kd.R_drew)); exact (Kd.R_mono (Kd.R_far (p := ⟨gb1315, 1, none⟩) (Kd.R_far (p := ⟨gb1315, 0, none⟩) (Kd.R_types HO1281.out BK1315.out (by decide)) (fun _ hk => hk.2) (.bool t1310)) (fun _ hk => hk.2) (.slice Ao81 t1311.length co81)) (fun _ h_ => h_.1))) hb); have n2_ := Aside0.mk (Kd.V_below (by (with_reducible repeat (first | apply Kd.V_alloc | apply Kd.V_drewN | apply Kd.V_drew)); exact (Kd.V_mono (Kd.V_far (p := ⟨gb1315, 1, none⟩) (Kd.V_far (p := ⟨gb1315, 0, none⟩) (Kd.V_mono HO1287.out (fun k_ hk => (⟨hk, hk.2⟩ : _ ∧ k_ ≠ gb1315))) (fun _ hk => hk.2) (.bool t1310)) (fun _ hk => hk.2) (.slice Ao81 t1311.length co81)) (fun _ h_ => h_.1))) hb); have n3_ := Aside0.mk (Kd.R_below (by (with_reducible repeat (first | apply Kd.R_alloc | apply Kd.R_drewN | apply Kd.R_drew)); exact (Kd.R_mono (Kd.R_far (p := ⟨gb1315, 1, none⟩) (Kd.R_far (p := ⟨gb1315, 0, none⟩) (Kd.R_types HO1293.out BK1315.out (by decide)) (fun _ hk => hk.2) (.bool t1310)) (fun _ hk => hk.2) (.slice Ao81 t1311.length co81)) (fun _ h_ => h_.1))) hb); have n4_ := Aside0.mk (Kd.V_below (by (with_reducible repeat (first | apply Kd.V_alloc | apply Kd.V_drewN | apply Kd.V_drew)); exact (Kd.V_mono (Kd.V_far (p := ⟨gb1315, 1, none⟩) (Kd.V_far (p := ⟨gb1315, 0, none⟩) (Kd.V_mono HO1301.out (fun k_ hk => (⟨hk, hk.2⟩ : _ ∧ k_ ≠ gb1315))) (fun _ hk => hk.2) (.bool t1310)) (fun _ hk => hk.2) (.slice Ao81 t1311.length co81)) (fun _ h_ => h_.1))) hb); have n5_ := Aside0.mk (Kd.V_below (by (with_reducible repeat (first | apply Kd.V_alloc | apply Kd.V_drewN | apply Kd.V_drew)); exact (Kd.V_mono (Kd.V_far (p := ⟨gb1315, 1, none⟩) (Kd.V_far (p := ⟨gb1315, 0, none⟩) (Kd.V_mono HO1307.out (fun k_ hk => (⟨hk, hk.2⟩ : _ ∧ k_ ≠ gb1315))) (fun _ hk => hk.2) (.bool t1310)) (fun _ hk => hk.2) (.slice Ao81 t1311.length co81)) (fun _ h_ => h_.1))) hb); have n6_ := Aside0.mk (Kd.V_below (by (with_reducible repeat (first | apply Kd.V_alloc | apply Kd.V_drewN | apply Kd.V_drew)); exact (Kd.V_mono (Kd.V_far (p := ⟨gb1315, 1, none⟩) (Kd.V_far (p := ⟨gb1315, 0, none⟩) (Kd.V_mono HO1313.out (fun k_ hk => (⟨hk, hk.2⟩ : _ ∧ k_ ≠ gb1315))) (fun _ hk => hk.2) (.bool t1310)) (fun _ hk => hk.2) (.slice Ao81 t1311.length co81)) (fun _ h_ => h_.1))) hb); have n7_ := Aside0.mk (blk_below (g := gb1282) (o := .cells #[.bool t1274, .slice Ao24 t1275.length co24] 27 (0, 0)) (zk BK1282.out) hb); have n8_ := Aside0.mk (blk_below (g := gb1283) (o := .cells #[.bool t1278, .slice Ao27 t1279.length co27] 27 (0, 0)) (zk BK1283.out) hb); have n9_ := Aside0.mk (blk_below (g := gb1289) (o := .cells #[.bool t1284, .slice Ao36 t1285.length co36] 27 (0, 0)) (zk BK1289.out) hb); have n10_ := Aside0.mk (blk_below (g := gb1295) (o := .cells #[.bool t1290, .slice Ao45 t1291.length co45] 27 (0, 0)) (zk BK1295.out) hb); have n11_ := Aside0.mk (blk_below (g := gb1303) (o := .cells #[.bool t1298, .slice Ao57 t1299.length co57] 27 (0, 0)) (zk BK1303.out) hb); have n12_ := Aside0.mk (blk_below (g := gb1309) (o := .cells #[.bool t1304, .slice Ao69 t1305.length co69] 27 (0, 0)) (zk BK1309.out) hb); have n13_ := Aside0.mk (blk_below (g := gb1315) (o := .cells #[.bool t1310, .slice Ao81 t1311.length co81] 27 (0, 0)) (by (with_reducible repeat (first | refine blk_drewN ?_ _ | refine blk_drew ?_ | refine blk_alloc ?_ _)); refine blk_put (cs := #[.bool t1310, .slice none 0 0]) ?_ 1 _ rfl; (with_reducible repeat (first | refine blk_drewN ?_ _ | refine blk_drew ?_ | refine blk_alloc ?_ _)); refine blk_put (cs := #[.bool false, .slice none 0 0]) ?_ 0 _ rfl; (with_reducible repeat (first | refine blk_drewN ?_ _ | refine blk_drew ?_ | refine blk_alloc ?_ _)); exact BK1315.out) hb); have n14_ := Aside0.mk (below_step zb hb); clear HO1277; clear HO1281; clear HO1287; clear HO1293; clear HO1301; clear HO1307; clear HO1313; clear BK1282; clear BK1283; clear BK1289; clear BK1295; clear BK1303; clear BK1309; clear BK1315; clear HB; have HO1277 := n0_; have HO1281 := n1_; have HO1287 := n2_; have HO1293 := n3_; have HO1301 := n4_; have HO1307 := n5_; have HO1313 := n6_; have BK1282 := n7_; have BK1283 := n8_; have BK1289 := n9_; have BK1295 := n10_; have BK1303 := n11_; have BK1309 := n12_; have BK1315 := n13_; have HB := n14_; clear n0_ n1_ n2_ n3_ n4_ n5_ n6_ n7_ n8_ n9_ n10_ n11_ n12_ n13_ n14_; (try clear hb); (try clear hb2); (try clear hk); (try clear hi); have hcz84_0 : w83.cell? ⟨gb1315, 0, none⟩ = some (.bool t1310) := (blk_cell BK1315.out 0).trans rfl; have hcz84_1 : w83.cell? ⟨gb1315, 1, none⟩ = some (.slice Ao81 t1311.length co81) := (blk_cell BK1315.out 1).trans rfl; have hfz84_0 := blk_frozen BK1315.out 0; have hfz84_1 := blk_frozen BK1315.out 1) | (go_at_call 42; (with_reducible refine (laws_jtZero.calls t1310 _ _ t1311 t1317 _ ?side1 ?side2 A18.out).mono ?_); (case side1 => repeat (first | exact (Kd.V_reads' HO1313.out).2.2 | (with_reducible refine Kd.C_alloc ?_ _) | (with_reducible refine Kd.C_drewN ?_ _) | (with_reducible refine Kd.C_drew ?_))); (case side2 => exact (Kd.V_reads' HO1313.out).2.1); rintro e w85 ⟨rfl, hb⟩; have n0_ := Aside0.mk (Kd.R_below (zR HO1277.out) hb); have n1_ := Aside0.mk (Kd.R_below (zR HO1281.out) hb); have n2_ := Aside0.mk (Kd.V_below (zV HO1287.out) hb); have n3_ := Aside0.mk (Kd.R_below (zR HO1293.out) hb); have n4_ := Aside0.mk (Kd.V_below (zV HO1301.out) hb); have n5_ := Aside0.mk (Kd.V_below (zV HO1307.out) hb); have n6_ := Aside0.mk (Kd.V_below (zV HO1313.out) hb); have n7_ := Aside0.mk (blk_below (g := gb1282) (o := .cells #[.bool t1274, .slice Ao24 t1275.length co24] 27 (0, 0)) (zk BK1282.out) hb); have n8_ := Aside0.mk (blk_below (g := gb1283) (o := .cells #[.bool t1278, .slice Ao27 t1279.length co27] 27 (0, 0)) (zk BK1283.out) hb); have n9_ := Aside0.mk (blk_below (g := gb1289) (o := .cells #[.bool t1284, .slice Ao36 t1285.length co36] 27 (0, 0)) (zk BK1289.out) hb); have n10_ := Aside0.mk (blk_below (g := gb1295) (o := .cells #[.bool t1290, .slice Ao45 t1291.length co45] 27 (0, 0)) (zk BK1295.out) hb); have n11_ := Aside0.mk (blk_below (g := gb1303) (o := .cells #[.bool t1298, .slice Ao57 t1299.length co57] 27 (0, 0)) (zk BK1303.out) hb); have n12_ := Aside0.mk (blk_below (g := gb1309) (o := .cells #[.bool t1304, .slice Ao69 t1305.length co69] 27 (0, 0)) (zk BK1309.out) hb); have n13_ := Aside0.mk (blk_below (g := gb1315) (o := .cells #[.bool t1310, .slice Ao81 t1311.length co81] 27 (0, 0)) (zk BK1315.out) hb); have n14_ := Aside0.mk (below_step zb hb); clear HO1277; clear HO1281; clear HO1287; clear HO1293; clear HO1301; clear HO1307; clear HO1313; clear BK1282; clear BK1283; clear BK1289; clear BK1295; clear BK1303; clear BK1309; clear BK1315; clear HB; have HO1277 := n0_; have HO1281 := n1_; have HO1287 := n2_; have HO1293 := n3_; have HO1301 := n4_; have HO1307 := n5_; have HO1313 := n6_; have BK1282 := n7_; have BK1283 := n8_; have BK1289 := n9_; have BK1295 := n10_; have BK1303 := n11_; have BK1309 := n12_; have BK1315 := n13_; have HB := n14_; clear n0_ n1_ n2_ n3_ n4_ n5_ n6_ n7_ n8_ n9_ n10_ n11_ n12_ n13_ n14_; (try clear hb); (try clear hb2); (try clear hk); (try clear hi)))
                  go_ret
                  exact ⟨by first | rfl | (simp [errW_none, errW_some] <;> rfl) | (simp [*, errW_none, errW_some] <;> rfl), zb⟩
                · replace c17 := Bool.eq_false_iff.mpr c17
                  subst c17
                  have H1 : (none) = some r := by rw [if_neg (show ¬ (false = true) by decide)] at H; exact H
                  clear H
                  have H := H1
                  clear H1
                  exact absurd H (by simp)
              · replace c15 := Bool.eq_false_iff.mpr c15
                subst c15
                have H1 : (none) = some r := by rw [if_neg (show ¬ (false = true) by decide)] at H; exact H
                clear H
                have H := H1
                clear H1
                exact absurd H (by simp)
            · replace c14 := Bool.eq_false_iff.mpr c14
              subst c14
              have H1 : (none) = some r := by rw [if_neg (show ¬ (false = true) by decide)] at H; exact H
              clear H
              have H := H1
              clear H1
              exact absurd H (by simp)
          · replace c13 := Bool.eq_false_iff.mpr c13
            subst c13
            have H1 : (none) = some r := by rw [if_neg (show ¬ (false = true) by decide)] at H; exact H
            clear H
            have H := H1
            clear H1
            exact absurd H (by simp)
        · replace c9 := Bool.eq_false_iff.mpr c9
          subst c9
          have H1 : (if (false == t1294) = true then ((laws_jtBig.f k t1284 t1285 t1290 t1291).bind fun t1297 => (some t1297)) else (none)) = some r := by rw [if_neg (show ¬ (false = true) by decide)] at H; exact H
          clear H
          have H := H1
          clear H1
          by_cases c86 : (false == t1294) = true
          · rw [if_pos c86] at H
            have c86b0 : (false == t1294) = true := c86
            (try (have c86b1 : decide (false = t1294) = true := by simpa using c86))
            (try (have c86b2 : (false == t1294) = true := by simpa using c86))
            clear c86
            replace H := Option.bind_eq_some_iff.mp H
            obtain ⟨t1297, A870, H⟩ := H
            replace H : (some t1297) = some r := H
            have A87 := Aside0.mk A870
            clear A870
            obtain rfl := Option.some.inj H
            go_enter Try.func17, Try.ntmps17
            go_wp2_with (first | ((with_reducible refine gate_callee (f := 46) rfl ?_); refine goesL_ (some 20) rfl rfl Try.func46 (by kernel_rfl) rfl #[.slice A0 l0.length c0] rfl za ?_; (with_reducible refine (spec_DrawBigSub.calls k _ _ l0 t1274 t1275 t1278 t1279 _ ?side1 ?side2 A3.out).mono ?_); (case side1 => repeat (first | exact HR0.out | (with_reducible refine Kd.C_alloc ?_ _) | (with_reducible refine Kd.C_drewN ?_ _) | (with_reducible refine Kd.C_drew ?_))); (case side2 => exact HC0.out); rintro e w88 ⟨v1276, v1280, rfl, ho0, ho1, hb⟩; refine ⟨_, rfl, ?_⟩; have n0_ := Aside0.mk (Kd.R_lower ho0 (below_size zb)); have n1_ := Aside0.mk (Kd.R_lower ho1 (below_size zb)); have n2_ := Aside0.mk (below_step zb hb); clear HB; have HO1277 := n0_; have HO1281 := n1_; have HB := n2_; clear n0_ n1_ n2_; (try clear hb); (try clear hb2); (try clear hk); (try clear hi); (try clear ho0); (try clear ho1)) | ((with_reducible refine gate_dst (N := 3) rfl ?_); refine box_event ?hg (N := 3) ?hd (cs := #[.bool false, .slice none 0 0]) (t := 27) ?hr ?_; (case hd => rfl); (case hg => rfl); (case hr => first | (go_simp; done) | (go_simp; rfl)); intro gb1282 hg w89 hbox hb; have n0_ := Aside0.mk (Kd.R_below (zR HO1277.out) hb); have n1_ := Aside0.mk (Kd.R_below (zR HO1281.out) hb); have n2_ := Aside0.mk (below_step zb hb); have n3_ := Aside0.mk (hbox); have n4_ := Aside0.mk ((by rw [hg]; exact (below_size zb) : w.heap.size ≤ gb1282)); have n5_ := Aside0.mk ((by rw [hg]; exact (below_size zb) : w.heap.size ≤ gb1282)); clear HO1277; clear HO1281; clear HB; have HO1277 := n0_; have HO1281 := n1_; have HB := n2_; have BK1282 := n3_; have GW1282 := n4_; have GE1282 := n5_; clear n0_ n1_ n2_ n3_ n4_ n5_; clear hb hbox hg) | ((with_reducible refine gate_dst (N := 4) rfl ?_); refine box_event ?hg (N := 4) ?hd (cs := #[.bool false, .slice none 0 0]) (t := 27) ?hr ?_; (case hd => rfl); (case hg => rfl); (case hr => first | (go_simp; done) | (go_simp; rfl)); intro gb1283 hg w90 hbox hb; have n0_ := Aside0.mk (Kd.R_below (zR HO1277.out) hb); have n1_ := Aside0.mk (Kd.R_below (zR HO1281.out) hb); have n2_ := Aside0.mk (blk_below (g := gb1282) (o := .cells #[.bool false, .slice none 0 0] 27 (0, 0)) (zk BK1282.out) hb); have n3_ := Aside0.mk (below_step zb hb); have n4_ := Aside0.mk (hbox); have n5_ := Aside0.mk ((by rw [hg]; exact (below_size zb) : w.heap.size ≤ gb1283)); have n6_ := Aside0.mk ((by rw [hg]; exact (below_size zb) : w.heap.size ≤ gb1283)); have n7_ := Aside0.mk ((by rw [hg]; exact Nat.ne_of_lt (blk_lt (g := gb1282) (o := .cells #[.bool false, .slice none 0 0] 27 (0, 0)) (zk BK1282.out)) : gb1282 ≠ gb1283)); have n8_ := Aside0.mk ((by rw [hg]; exact Nat.ne_of_gt (blk_lt (g := gb1282) (o := .cells #[.bool false, .slice none 0 0] 27 (0, 0)) (zk BK1282.out)) : gb1283 ≠ gb1282)); clear HO1277; clear HO1281; clear BK1282; clear HB; have HO1277 := n0_; have HO1281 := n1_; have BK1282 := n2_; have HB := n3_; have BK1283 := n4_; have GW1283 := n5_; have GE1283 := n6_; have NB1282_1283 := n7_; have NB1283_1282 := n8_; clear n0_ n1_ n2_ n3_ n4_ n5_ n6_ n7_ n8_; clear hb hbox hg; have hnb91 := NB1282_1283.out; have hnc91 := NB1283_1282.out; have hcz92_0 : w90.cell? ⟨gb1282, 0, none⟩ = some (.bool false) := (blk_cell BK1282.out 0).trans rfl; have hcz92_1 : w90.cell? ⟨gb1282, 1, none⟩ = some (.slice none 0 0) := (blk_cell BK1282.out 1).trans rfl; have hfz92_0 := blk_frozen BK1282.out 0; have hfz92_1 := blk_frozen BK1282.out 1; obtain ⟨Ao93, co93, eo93⟩ := Kd.R_slice HO1277.out; subst eo93) | ((with_reducible refine gate_store (t := 27) (p := 3) rfl ?_); refine store_event (t := 27) (p := 3) (v := ?vo_w94) (w1 := ((w90.setCell ⟨gb1282, 0, none⟩ (.bool t1274)).setCell ⟨gb1282, 1, none⟩ (.slice Ao93 t1275.length co93))) ?hg ?ho ?hn ?hr ?_; (case ho => rfl); (case hg => rfl); (case hn => rfl); (case hr => first | (go_simp; done) | (go_simp; rfl)); intro w94 hw; have n0_ : Aside0 (Kd.R (Kd.int .i64) 3 w94 w.heap.size (fun k_ => some k_ ≠ (v1280 : Value).ownBlock) (.slice Ao93 t1275.length co93) t1275) := ⟨(by rw [hw]; exact (by (with_reducible repeat (first | apply Kd.R_alloc | apply Kd.R_drewN | apply Kd.R_drew)); exact Kd.R_mono (Kd.R_far (p := ⟨gb1282, 1, none⟩) (Kd.R_far (p := ⟨gb1282, 0, none⟩) (Kd.R_types HO1277.out BK1282.out (by decide)) (fun _ hk => hk.2) (.bool t1274)) (fun _ hk => hk.2) (.slice Ao93 t1275.length co93)) (fun _ hk => hk.1)))⟩; have n1_ : Aside0 (Kd.R (Kd.int .i64) 3 w94 w.heap.size (fun k_ => some k_ ≠ (.slice Ao93 t1275.length co93 : Value).ownBlock) v1280 t1279) := ⟨(by rw [hw]; exact (by (with_reducible repeat (first | apply Kd.R_alloc | apply Kd.R_drewN | apply Kd.R_drew)); exact Kd.R_mono (Kd.R_far (p := ⟨gb1282, 1, none⟩) (Kd.R_far (p := ⟨gb1282, 0, none⟩) (Kd.R_types HO1281.out BK1282.out (by decide)) (fun _ hk => hk.2) (.bool t1274)) (fun _ hk => hk.2) (.slice Ao93 t1275.length co93)) (fun _ hk => hk.1)))⟩; have n2_ : Aside0 (w94.heap[gb1282]? = some (.cells #[.bool t1274, .slice Ao93 t1275.length co93] 27 (0, 0))) := ⟨(by rw [hw]; exact (by (with_reducible repeat (first | refine blk_drewN ?_ _ | refine blk_drew ?_ | refine blk_alloc ?_ _)); refine blk_put (cs := #[.bool t1274, .slice none 0 0]) ?_ 1 _ rfl; (with_reducible repeat (first | refine blk_drewN ?_ _ | refine blk_drew ?_ | refine blk_alloc ?_ _)); refine blk_put (cs := #[.bool false, .slice none 0 0]) ?_ 0 _ rfl; (with_reducible repeat (first | refine blk_drewN ?_ _ | refine blk_drew ?_ | refine blk_alloc ?_ _)); exact BK1282.out))⟩; have n3_ : Aside0 (w94.heap[gb1283]? = some (.cells #[.bool false, .slice none 0 0] 27 (0, 0))) := ⟨(by rw [hw]; exact (zk BK1283.out))⟩; have n4_ : Aside0 (Below w.heap.size w w94) := ⟨(by rw [hw]; exact zb)⟩; clear hw; clear HO1277; clear HO1281; clear BK1282; clear BK1283; clear HB; have HO1277 := n0_; have HO1281 := n1_; have BK1282 := n2_; have BK1283 := n3_; have HB := n4_; clear n0_ n1_ n2_ n3_ n4_; have hcz95_0 : w94.cell? ⟨gb1283, 0, none⟩ = some (.bool false) := (blk_cell BK1283.out 0).trans rfl; have hcz95_1 : w94.cell? ⟨gb1283, 1, none⟩ = some (.slice none 0 0) := (blk_cell BK1283.out 1).trans rfl; have hfz95_0 := blk_frozen BK1283.out 0; have hfz95_1 := blk_frozen BK1283.out 1; obtain ⟨Ao96, co96, eo96⟩ := Kd.R_slice HO1281.out; subst eo96) | ((with_reducible refine gate_store (t := 27) (p := 4) rfl ?_); refine store_event (t := 27) (p := 4) (v := ?vo_w97) (w1 := ((w94.setCell ⟨gb1283, 0, none⟩ (.bool t1278)).setCell ⟨gb1283, 1, none⟩ (.slice Ao96 t1279.length co96))) ?hg ?ho ?hn ?hr ?_; (case ho => rfl); (case hg => rfl); (case hn => rfl); (case hr => first | (go_simp; done) | (go_simp; rfl)); intro w97 hw; have n0_ : Aside0 (Kd.R (Kd.int .i64) 3 w97 w.heap.size (fun k_ => some k_ ≠ (.slice Ao96 t1279.length co96 : Value).ownBlock) (.slice Ao93 t1275.length co93) t1275) := ⟨(by rw [hw]; exact (by (with_reducible repeat (first | apply Kd.R_alloc | apply Kd.R_drewN | apply Kd.R_drew)); exact Kd.R_mono (Kd.R_far (p := ⟨gb1283, 1, none⟩) (Kd.R_far (p := ⟨gb1283, 0, none⟩) (Kd.R_types HO1277.out BK1283.out (by decide)) (fun _ hk => hk.2) (.bool t1278)) (fun _ hk => hk.2) (.slice Ao96 t1279.length co96)) (fun _ hk => hk.1)))⟩; have n1_ : Aside0 (Kd.R (Kd.int .i64) 3 w97 w.heap.size (fun k_ => some k_ ≠ (.slice Ao93 t1275.length co93 : Value).ownBlock) (.slice Ao96 t1279.length co96) t1279) := ⟨(by rw [hw]; exact (by (with_reducible repeat (first | apply Kd.R_alloc | apply Kd.R_drewN | apply Kd.R_drew)); exact Kd.R_mono (Kd.R_far (p := ⟨gb1283, 1, none⟩) (Kd.R_far (p := ⟨gb1283, 0, none⟩) (Kd.R_types HO1281.out BK1283.out (by decide)) (fun _ hk => hk.2) (.bool t1278)) (fun _ hk => hk.2) (.slice Ao96 t1279.length co96)) (fun _ hk => hk.1)))⟩; have n2_ : Aside0 (w97.heap[gb1282]? = some (.cells #[.bool t1274, .slice Ao93 t1275.length co93] 27 (0, 0))) := ⟨(by rw [hw]; exact (zk BK1282.out))⟩; have n3_ : Aside0 (w97.heap[gb1283]? = some (.cells #[.bool t1278, .slice Ao96 t1279.length co96] 27 (0, 0))) := ⟨(by rw [hw]; exact (by (with_reducible repeat (first | refine blk_drewN ?_ _ | refine blk_drew ?_ | refine blk_alloc ?_ _)); refine blk_put (cs := #[.bool t1278, .slice none 0 0]) ?_ 1 _ rfl; (with_reducible repeat (first | refine blk_drewN ?_ _ | refine blk_drew ?_ | refine blk_alloc ?_ _)); refine blk_put (cs := #[.bool false, .slice none 0 0]) ?_ 0 _ rfl; (with_reducible repeat (first | refine blk_drewN ?_ _ | refine blk_drew ?_ | refine blk_alloc ?_ _)); exact BK1283.out))⟩; have n4_ : Aside0 (Below w.heap.size w w97) := ⟨(by rw [hw]; exact zb)⟩; clear hw; clear HO1277; clear HO1281; clear BK1282; clear BK1283; clear HB; have HO1277 := n0_; have HO1281 := n1_; have BK1282 := n2_; have BK1283 := n3_; have HB := n4_; clear n0_ n1_ n2_ n3_ n4_; have hcz98_0 : w97.cell? ⟨gb1282, 0, none⟩ = some (.bool t1274) := (blk_cell BK1282.out 0).trans rfl; have hcz98_1 : w97.cell? ⟨gb1282, 1, none⟩ = some (.slice Ao93 t1275.length co93) := (blk_cell BK1282.out 1).trans rfl; have hfz98_0 := blk_frozen BK1282.out 0; have hfz98_1 := blk_frozen BK1282.out 1; have hcz99_0 : w97.cell? ⟨gb1283, 0, none⟩ = some (.bool t1278) := (blk_cell BK1283.out 0).trans rfl; have hcz99_1 : w97.cell? ⟨gb1283, 1, none⟩ = some (.slice Ao96 t1279.length co96) := (blk_cell BK1283.out 1).trans rfl; have hfz99_0 := blk_frozen BK1283.out 0; have hfz99_1 := blk_frozen BK1283.out 1) | ((with_reducible refine gate_callee (f := 41) rfl ?_); refine goesL_ (some 26) rfl rfl Try.func41 (by kernel_rfl) rfl #[.agg #[.bool t1274, .slice Ao93 t1275.length co93], .agg #[.bool t1278, .slice Ao96 t1279.length co96]] rfl za ?_; (with_reducible refine (impl_BigSub.calls k t1274 (fun k_ => some k_ = (.slice Ao93 t1275.length co93 : Value).ownBlock) _ _ t1275 t1278 (fun k_ => some k_ = (.slice Ao96 t1279.length co96 : Value).ownBlock) _ _ t1279 t1284 t1285 false _ ?side1 ?side2 A4.out).mono ?_); (case side1 => exact Kd.R_V (Kd.R_tight rfl (Kd.R_types (Kd.R_types (HO1277.out) BK1282.out (by decide)) BK1283.out (by decide)))); (case side2 => exact Kd.R_V (Kd.R_tight rfl (Kd.R_types (Kd.R_types (HO1281.out) BK1282.out (by decide)) BK1283.out (by decide)))); rintro e w100 ⟨v1286, rfl, ho0, hb⟩; refine ⟨_, rfl, ?_⟩; have n0_ := Aside0.mk (Kd.R_below (zR HO1277.out) hb); have n1_ := Aside0.mk (Kd.R_below (zR HO1281.out) hb); have n2_ := Aside0.mk (Kd.V_lower (Kd.V_mono (ok' := fun k_ => k_ ≠ gb1282 ∧ k_ ≠ gb1283) ho0 (fun k_ hk_ => ⟨Or.elim hk_ (fun hs_ => Or.elim hs_ (fun hs_ => ((Kd.R_types (Kd.R_types (HO1277.out) BK1282.out (by decide)) BK1283.out (by decide)).1 k_ hs_.symm).1.2) (fun hs_ => ((Kd.R_types (Kd.R_types (HO1281.out) BK1282.out (by decide)) BK1283.out (by decide)).1 k_ hs_.symm).1.2)) (fun hn_ => (Kd.freshB (g := gb1282) (o := .cells #[.bool t1274, .slice Ao93 t1275.length co93] 27 (0, 0)) (zk BK1282.out) k_ hn_)), Or.elim hk_ (fun hs_ => Or.elim hs_ (fun hs_ => ((Kd.R_types (Kd.R_types (HO1277.out) BK1282.out (by decide)) BK1283.out (by decide)).1 k_ hs_.symm).2) (fun hs_ => ((Kd.R_types (Kd.R_types (HO1281.out) BK1282.out (by decide)) BK1283.out (by decide)).1 k_ hs_.symm).2)) (fun hn_ => (Kd.freshB (g := gb1283) (o := .cells #[.bool t1278, .slice Ao96 t1279.length co96] 27 (0, 0)) (zk BK1283.out) k_ hn_))⟩)) (below_size zb)); have n3_ := Aside0.mk (blk_below (g := gb1282) (o := .cells #[.bool t1274, .slice Ao93 t1275.length co93] 27 (0, 0)) (zk BK1282.out) hb); have n4_ := Aside0.mk (blk_below (g := gb1283) (o := .cells #[.bool t1278, .slice Ao96 t1279.length co96] 27 (0, 0)) (zk BK1283.out) hb); have n5_ := Aside0.mk (below_step zb hb); clear HO1277; clear HO1281; clear BK1282; clear BK1283; clear HB; have HO1277 := n0_; have HO1281 := n1_; have HO1287 := n2_; have BK1282 := n3_; have BK1283 := n4_; have HB := n5_; clear n0_ n1_ n2_ n3_ n4_ n5_; (try clear hb); (try clear hb2); (try clear hk); (try clear hi); (try clear ho0)) | ((with_reducible refine gate_dst (N := 5) rfl ?_); refine box_event ?hg (N := 5) ?hd (cs := #[.bool false, .slice none 0 0]) (t := 27) ?hr ?_; (case hd => rfl); (case hg => rfl); (case hr => first | (go_simp; done) | (go_simp; rfl)); intro gb1289 hg w101 hbox hb; have n0_ := Aside0.mk (Kd.R_below (zR HO1277.out) hb); have n1_ := Aside0.mk (Kd.R_below (zR HO1281.out) hb); have n2_ := Aside0.mk (Kd.V_below (Kd.V_elderB (zV HO1287.out) gb1289 (Nat.le_of_eq hg.symm)) hb); have n3_ := Aside0.mk (blk_below (g := gb1282) (o := .cells #[.bool t1274, .slice Ao93 t1275.length co93] 27 (0, 0)) (zk BK1282.out) hb); have n4_ := Aside0.mk (blk_below (g := gb1283) (o := .cells #[.bool t1278, .slice Ao96 t1279.length co96] 27 (0, 0)) (zk BK1283.out) hb); have n5_ := Aside0.mk (below_step zb hb); have n6_ := Aside0.mk (hbox); have n7_ := Aside0.mk ((by rw [hg]; exact (below_size zb) : w.heap.size ≤ gb1289)); have n8_ := Aside0.mk ((by rw [hg]; exact (below_size zb) : w.heap.size ≤ gb1289)); have n9_ := Aside0.mk ((by rw [hg]; exact Nat.ne_of_lt (blk_lt (g := gb1282) (o := .cells #[.bool t1274, .slice Ao93 t1275.length co93] 27 (0, 0)) (zk BK1282.out)) : gb1282 ≠ gb1289)); have n10_ := Aside0.mk ((by rw [hg]; exact Nat.ne_of_gt (blk_lt (g := gb1282) (o := .cells #[.bool t1274, .slice Ao93 t1275.length co93] 27 (0, 0)) (zk BK1282.out)) : gb1289 ≠ gb1282)); have n11_ := Aside0.mk ((by rw [hg]; exact Nat.ne_of_lt (blk_lt (g := gb1283) (o := .cells #[.bool t1278, .slice Ao96 t1279.length co96] 27 (0, 0)) (zk BK1283.out)) : gb1283 ≠ gb1289)); have n12_ := Aside0.mk ((by rw [hg]; exact Nat.ne_of_gt (blk_lt (g := gb1283) (o := .cells #[.bool t1278, .slice Ao96 t1279.length co96] 27 (0, 0)) (zk BK1283.out)) : gb1289 ≠ gb1283)); clear HO1277; clear HO1281; clear HO1287; clear BK1282; clear BK1283; clear HB; have HO1277 := n0_; have HO1281 := n1_; have HO1287 := n2_; have BK1282 := n3_; have BK1283 := n4_; have HB := n5_; have BK1289 := n6_; have GW1289 := n7_; have GE1289 := n8_; have NB1282_1289 := n9_; have NB1289_1282 := n10_; have NB1283_1289 := n11_; have NB1289_1283 := n12_; clear n0_ n1_ n2_ n3_ n4_ n5_ n6_ n7_ n8_ n9_ n10_ n11_ n12_; clear hb hbox hg; have hnb102 := NB1289_1282.out; have hnc102 := NB1282_1289.out; have hnb103 := NB1289_1283.out; have hnc103 := NB1283_1289.out; have hcz104_0 : w101.cell? ⟨gb1289, 0, none⟩ = some (.bool false) := (blk_cell BK1289.out 0).trans rfl; have hcz104_1 : w101.cell? ⟨gb1289, 1, none⟩ = some (.slice none 0 0) := (blk_cell BK1289.out 1).trans rfl; have hfz104_0 := blk_frozen BK1289.out 0; have hfz104_1 := blk_frozen BK1289.out 1; obtain ⟨Ao105, co105, eo105⟩ := Kd.V_slice HO1287.out; subst eo105; have hcz106_0 : w101.cell? ⟨gb1282, 0, none⟩ = some (.bool t1274) := (blk_cell BK1282.out 0).trans rfl; have hcz106_1 : w101.cell? ⟨gb1282, 1, none⟩ = some (.slice Ao93 t1275.length co93) := (blk_cell BK1282.out 1).trans rfl; have hfz106_0 := blk_frozen BK1282.out 0; have hfz106_1 := blk_frozen BK1282.out 1; have hcz107_0 : w101.cell? ⟨gb1283, 0, none⟩ = some (.bool t1278) := (blk_cell BK1283.out 0).trans rfl; have hcz107_1 : w101.cell? ⟨gb1283, 1, none⟩ = some (.slice Ao96 t1279.length co96) := (blk_cell BK1283.out 1).trans rfl; have hfz107_0 := blk_frozen BK1283.out 0; have hfz107_1 := blk_frozen BK1283.out 1) | ((with_reducible refine gate_callee (f := 40) rfl ?_); refine goesL_ (some 32) rfl rfl Try.func40 (by kernel_rfl) rfl #[.agg #[.bool t1274, .slice Ao93 t1275.length co93], .agg #[.bool t1278, .slice Ao96 t1279.length co96]] rfl za ?_; (with_reducible refine (spec_BigSub.calls k t1274 _ _ t1275 t1278 _ _ t1279 t1290 t1291 t1294 _ ?side1 ?side2 ?side3 ?side4 A5.out).mono ?_); (case side1 => refine (Kd.R_reads' (e := 3) (base := w.heap.size) (ok := fun k_ => some k_ ≠ (.slice Ao96 t1279.length co96 : Value).ownBlock) (n := t1275.length) (c := co93) ?_).2.2; exact (by (with_reducible repeat (first | apply Kd.R_alloc | apply Kd.R_drewN | apply Kd.R_drew)); exact (Kd.R_mono (Kd.R_far (p := ⟨gb1289, 1, none⟩) (Kd.R_far (p := ⟨gb1289, 0, none⟩) (Kd.R_types HO1277.out BK1289.out (by decide)) (fun _ hk => hk.2) (.bool t1284)) (fun _ hk => hk.2) (.slice Ao105 t1285.length co105)) (fun _ h_ => h_.1)))); (case side2 => exact (Kd.R_reads' HO1277.out).2.1); (case side3 => refine (Kd.R_reads' (e := 3) (base := w.heap.size) (ok := fun k_ => some k_ ≠ (.slice Ao93 t1275.length co93 : Value).ownBlock) (n := t1279.length) (c := co96) ?_).2.2; exact (by (with_reducible repeat (first | apply Kd.R_alloc | apply Kd.R_drewN | apply Kd.R_drew)); exact (Kd.R_mono (Kd.R_far (p := ⟨gb1289, 1, none⟩) (Kd.R_far (p := ⟨gb1289, 0, none⟩) (Kd.R_types HO1281.out BK1289.out (by decide)) (fun _ hk => hk.2) (.bool t1284)) (fun _ hk => hk.2) (.slice Ao105 t1285.length co105)) (fun _ h_ => h_.1)))); (case side4 => exact (Kd.R_reads' HO1281.out).2.1); rintro e w108 ⟨v1292, rfl, ho0, hb⟩; refine ⟨_, rfl, ?_⟩; have n0_ := Aside0.mk (Kd.R_elder' (by (with_reducible repeat (first | apply Kd.R_alloc | apply Kd.R_drewN | apply Kd.R_drew)); exact (Kd.R_mono (Kd.R_far (p := ⟨gb1289, 1, none⟩) (Kd.R_far (p := ⟨gb1289, 0, none⟩) (Kd.R_types HO1277.out BK1289.out (by decide)) (fun _ hk => hk.2) (.bool t1284)) (fun _ hk => hk.2) (.slice Ao105 t1285.length co105)) (fun _ h_ => h_.1))) (Kd.R_base ho0) hb); have n1_ := Aside0.mk (Kd.R_elder' (by (with_reducible repeat (first | apply Kd.R_alloc | apply Kd.R_drewN | apply Kd.R_drew)); exact (Kd.R_mono (Kd.R_far (p := ⟨gb1289, 1, none⟩) (Kd.R_far (p := ⟨gb1289, 0, none⟩) (Kd.R_types HO1281.out BK1289.out (by decide)) (fun _ hk => hk.2) (.bool t1284)) (fun _ hk => hk.2) (.slice Ao105 t1285.length co105)) (fun _ h_ => h_.1))) (Kd.R_base ho0) hb); have n2_ := Aside0.mk (Kd.V_elder' (by (with_reducible repeat (first | apply Kd.V_alloc | apply Kd.V_drewN | apply Kd.V_drew)); exact (Kd.V_mono (Kd.V_far (p := ⟨gb1289, 1, none⟩) (Kd.V_far (p := ⟨gb1289, 0, none⟩) (Kd.V_mono HO1287.out (fun k_ hk => (⟨hk, hk.2⟩ : _ ∧ k_ ≠ gb1289))) (fun _ hk => hk.2) (.bool t1284)) (fun _ hk => hk.2) (.slice Ao105 t1285.length co105)) (fun _ h_ => h_.1))) (Kd.R_base ho0) hb); have n3_ := Aside0.mk (Kd.R_lower (Kd.R_new' (Kd.R_new' ho0 (Kd.R_lt (by (with_reducible repeat (first | apply Kd.R_alloc | apply Kd.R_drewN | apply Kd.R_drew)); exact (Kd.R_mono (Kd.R_far (p := ⟨gb1289, 1, none⟩) (Kd.R_far (p := ⟨gb1289, 0, none⟩) (Kd.R_types HO1277.out BK1289.out (by decide)) (fun _ hk => hk.2) (.bool t1284)) (fun _ hk => hk.2) (.slice Ao105 t1285.length co105)) (fun _ h_ => h_.1))))) (Kd.R_lt (by (with_reducible repeat (first | apply Kd.R_alloc | apply Kd.R_drewN | apply Kd.R_drew)); exact (Kd.R_mono (Kd.R_far (p := ⟨gb1289, 1, none⟩) (Kd.R_far (p := ⟨gb1289, 0, none⟩) (Kd.R_types HO1281.out BK1289.out (by decide)) (fun _ hk => hk.2) (.bool t1284)) (fun _ hk => hk.2) (.slice Ao105 t1285.length co105)) (fun _ h_ => h_.1))))) (below_size zb)); have n4_ := Aside0.mk (blk_below (g := gb1282) (o := .cells #[.bool t1274, .slice Ao93 t1275.length co93] 27 (0, 0)) (zk BK1282.out) hb); have n5_ := Aside0.mk (blk_below (g := gb1283) (o := .cells #[.bool t1278, .slice Ao96 t1279.length co96] 27 (0, 0)) (zk BK1283.out) hb); have n6_ := Aside0.mk (blk_below (g := gb1289) (o := .cells #[.bool t1284, .slice Ao105 t1285.length co105] 27 (0, 0)) (by (with_reducible repeat (first | refine blk_drewN ?_ _ | refine blk_drew ?_ | refine blk_alloc ?_ _)); refine blk_put (cs := #[.bool t1284, .slice none 0 0]) ?_ 1 _ rfl; (with_reducible repeat (first | refine blk_drewN ?_ _ | refine blk_drew ?_ | refine blk_alloc ?_ _)); refine blk_put (cs := #[.bool false, .slice none 0 0]) ?_ 0 _ rfl; (with_reducible repeat (first | refine blk_drewN ?_ _ | refine blk_drew ?_ | refine blk_alloc ?_ _)); exact BK1289.out) hb); have n7_ := Aside0.mk (below_step zb hb); clear HO1277; clear HO1281; clear HO1287; clear BK1282; clear BK1283; clear BK1289; clear HB; have HO1277 := n0_; have HO1281 := n1_; have HO1287 := n2_; have HO1293 := n3_; have BK1282 := n4_; have BK1283 := n5_; have BK1289 := n6_; have HB := n7_; clear n0_ n1_ n2_ n3_ n4_ n5_ n6_ n7_; (try clear hb); (try clear hb2); (try clear hk); (try clear hi); (try clear ho0)) | ((with_reducible refine gate_dst (N := 7) rfl ?_); refine box_event ?hg (N := 7) ?hd (cs := #[.bool false, .slice none 0 0]) (t := 27) ?hr ?_; (case hd => rfl); (case hg => rfl); (case hr => first | (go_simp; done) | (go_simp; rfl)); intro gb1295 hg w109 hbox hb; have n0_ := Aside0.mk (Kd.R_below (zR HO1277.out) hb); have n1_ := Aside0.mk (Kd.R_below (zR HO1281.out) hb); have n2_ := Aside0.mk (Kd.V_below (Kd.V_elderB (zV HO1287.out) gb1295 (Nat.le_of_eq hg.symm)) hb); have n3_ := Aside0.mk (Kd.R_below (zR HO1293.out) hb); have n4_ := Aside0.mk (blk_below (g := gb1282) (o := .cells #[.bool t1274, .slice Ao93 t1275.length co93] 27 (0, 0)) (zk BK1282.out) hb); have n5_ := Aside0.mk (blk_below (g := gb1283) (o := .cells #[.bool t1278, .slice Ao96 t1279.length co96] 27 (0, 0)) (zk BK1283.out) hb); have n6_ := Aside0.mk (blk_below (g := gb1289) (o := .cells #[.bool t1284, .slice Ao105 t1285.length co105] 27 (0, 0)) (zk BK1289.out) hb); have n7_ := Aside0.mk (below_step zb hb); have n8_ := Aside0.mk (hbox); have n9_ := Aside0.mk ((by rw [hg]; exact (below_size zb) : w.heap.size ≤ gb1295)); have n10_ := Aside0.mk ((by rw [hg]; exact (below_size zb) : w.heap.size ≤ gb1295)); have n11_ := Aside0.mk ((by rw [hg]; exact Nat.ne_of_lt (blk_lt (g := gb1282) (o := .cells #[.bool t1274, .slice Ao93 t1275.length co93] 27 (0, 0)) (zk BK1282.out)) : gb1282 ≠ gb1295)); have n12_ := Aside0.mk ((by rw [hg]; exact Nat.ne_of_gt (blk_lt (g := gb1282) (o := .cells #[.bool t1274, .slice Ao93 t1275.length co93] 27 (0, 0)) (zk BK1282.out)) : gb1295 ≠ gb1282)); have n13_ := Aside0.mk ((by rw [hg]; exact Nat.ne_of_lt (blk_lt (g := gb1283) (o := .cells #[.bool t1278, .slice Ao96 t1279.length co96] 27 (0, 0)) (zk BK1283.out)) : gb1283 ≠ gb1295)); have n14_ := Aside0.mk ((by rw [hg]; exact Nat.ne_of_gt (blk_lt (g := gb1283) (o := .cells #[.bool t1278, .slice Ao96 t1279.length co96] 27 (0, 0)) (zk BK1283.out)) : gb1295 ≠ gb1283)); have n15_ := Aside0.mk ((by rw [hg]; exact Nat.ne_of_lt (blk_lt (g := gb1289) (o := .cells #[.bool t1284, .slice Ao105 t1285.length co105] 27 (0, 0)) (zk BK1289.out)) : gb1289 ≠ gb1295)); have n16_ := Aside0.mk ((by rw [hg]; exact Nat.ne_of_gt (blk_lt (g := gb1289) (o := .cells #[.bool t1284, .slice Ao105 t1285.length co105] 27 (0, 0)) (zk BK1289.out)) : gb1295 ≠ gb1289)); clear HO1277; clear HO1281; clear HO1287; clear HO1293; clear BK1282; clear BK1283; clear BK1289; clear HB; have HO1277 := n0_; have HO1281 := n1_; have HO1287 := n2_; have HO1293 := n3_; have BK1282 := n4_; have BK1283 := n5_; have BK1289 := n6_; have HB := n7_; have BK1295 := n8_; have GW1295 := n9_; have GE1295 := n10_; have NB1282_1295 := n11_; have NB1295_1282 := n12_; have NB1283_1295 := n13_; have NB1295_1283 := n14_; have NB1289_1295 := n15_; have NB1295_1289 := n16_; clear n0_ n1_ n2_ n3_ n4_ n5_ n6_ n7_ n8_ n9_ n10_ n11_ n12_ n13_ n14_ n15_ n16_; clear hb hbox hg; have hnb110 := NB1295_1282.out; have hnc110 := NB1282_1295.out; have hnb111 := NB1295_1283.out; have hnc111 := NB1283_1295.out; have hnb112 := NB1295_1289.out; have hnc112 := NB1289_1295.out; have hcz113_0 : w109.cell? ⟨gb1295, 0, none⟩ = some (.bool false) := (blk_cell BK1295.out 0).trans rfl; have hcz113_1 : w109.cell? ⟨gb1295, 1, none⟩ = some (.slice none 0 0) := (blk_cell BK1295.out 1).trans rfl; have hfz113_0 := blk_frozen BK1295.out 0; have hfz113_1 := blk_frozen BK1295.out 1; obtain ⟨Ao114, co114, eo114⟩ := Kd.R_slice HO1293.out; subst eo114; have hcz115_0 : w109.cell? ⟨gb1289, 0, none⟩ = some (.bool t1284) := (blk_cell BK1289.out 0).trans rfl; have hcz115_1 : w109.cell? ⟨gb1289, 1, none⟩ = some (.slice Ao105 t1285.length co105) := (blk_cell BK1289.out 1).trans rfl; have hfz115_0 := blk_frozen BK1289.out 0; have hfz115_1 := blk_frozen BK1289.out 1) | (go_at_call 31; (with_reducible refine (laws_jtBig.calls k t1284 _ _ t1285 t1290 _ _ t1291 true _ ?side1 ?side2 ?side3 ?side4 A7.out).mono ?_); (case side1 => refine (Kd.V_reads' (e := 3) (base := w.heap.size) (ok := fun k_ => ((((k_ ≠ gb1282 ∧ k_ ≠ gb1283) ∧ k_ ≠ gb1289) ∧ some k_ ≠ (.slice Ao114 t1291.length co114 : Value).ownBlock) ∧ k_ ≠ gb1295)) (n := t1285.length) (c := co105) ?_).2.2; exact (by (with_reducible repeat (first | apply Kd.V_alloc | apply Kd.V_drewN | apply Kd.V_drew)); exact (Kd.V_mono (Kd.V_far (p := ⟨gb1295, 1, none⟩) (Kd.V_far (p := ⟨gb1295, 0, none⟩) (Kd.V_mono HO1287.out (fun k_ hk => (⟨hk, hk.2⟩ : _ ∧ k_ ≠ gb1295))) (fun _ hk => hk.2) (.bool t1290)) (fun _ hk => hk.2) (.slice Ao114 t1291.length co114)) (fun _ h_ => h_.1)))); (case side2 => exact (Kd.V_reads' HO1287.out).2.1); (case side3 => refine (Kd.R_reads' (e := 3) (base := w.heap.size) (ok := fun k_ => ((True ∧ some k_ ≠ (.slice Ao93 t1275.length co93 : Value).ownBlock) ∧ some k_ ≠ (.slice Ao96 t1279.length co96 : Value).ownBlock)) (n := t1291.length) (c := co114) ?_).2.2; exact (by (with_reducible repeat (first | apply Kd.R_alloc | apply Kd.R_drewN | apply Kd.R_drew)); exact (Kd.R_mono (Kd.R_far (p := ⟨gb1295, 1, none⟩) (Kd.R_far (p := ⟨gb1295, 0, none⟩) (Kd.R_types HO1293.out BK1295.out (by decide)) (fun _ hk => hk.2) (.bool t1290)) (fun _ hk => hk.2) (.slice Ao114 t1291.length co114)) (fun _ h_ => h_.1)))); (case side4 => exact (Kd.R_reads' HO1293.out).2.1); rintro e w116 ⟨rfl, hb⟩; have n0_ := Aside0.mk (Kd.R_below (by (with_reducible repeat (first | apply Kd.R_alloc | apply Kd.R_drewN | apply Kd.R_drew)); exact (Kd.R_mono (Kd.R_far (p := ⟨gb1295, 1, none⟩) (Kd.R_far (p := ⟨gb1295, 0, none⟩) (Kd.R_types HO1277.out BK1295.out (by decide)) (fun _ hk => hk.2) (.bool t1290)) (fun _ hk => hk.2) (.slice Ao114 t1291.length co114)) (fun _ h_ => h_.1))) hb); have n1_ := Aside0.mk (Kd.R_below (by (with_reducible repeat (first | apply Kd.R_alloc | apply Kd.R_drewN | apply Kd.R_drew)); exact (Kd.R_mono (Kd.R_far (p := ⟨gb1295, 1, none⟩) (Kd.R_far (p := ⟨gb1295, 0, none⟩) (Kd.R_types HO1281.out BK1295.out (by decide)) (fun _ hk => hk.2) (.bool t1290)) (fun _ hk => hk.2) (.slice Ao114 t1291.length co114)) (fun _ h_ => h_.1))) hb); have n2_ := Aside0.mk (Kd.V_below (by (with_reducible repeat (first | apply Kd.V_alloc | apply Kd.V_drewN | apply Kd.V_drew)); exact (Kd.V_mono (Kd.V_far (p := ⟨gb1295, 1, none⟩) (Kd.V_far (p := ⟨gb1295, 0, none⟩) (Kd.V_mono HO1287.out (fun k_ hk => (⟨hk, hk.2⟩ : _ ∧ k_ ≠ gb1295))) (fun _ hk => hk.2) (.bool t1290)) (fun _ hk => hk.2) (.slice Ao114 t1291.length co114)) (fun _ h_ => h_.1))) hb); have n3_ := Aside0.mk (Kd.R_below (by (with_reducible repeat (first | apply Kd.R_alloc | apply Kd.R_drewN | apply Kd.R_drew)); exact (Kd.R_mono (Kd.R_far (p := ⟨gb1295, 1, none⟩) (Kd.R_far (p := ⟨gb1295, 0, none⟩) (Kd.R_types HO1293.out BK1295.out (by decide)) (fun _ hk => hk.2) (.bool t1290)) (fun _ hk => hk.2) (.slice Ao114 t1291.length co114)) (fun _ h_ => h_.1))) hb); have n4_ := Aside0.mk (blk_below (g := gb1282) (o := .cells #[.bool t1274, .slice Ao93 t1275.length co93] 27 (0, 0)) (zk BK1282.out) hb); have n5_ := Aside0.mk (blk_below (g := gb1283) (o := .cells #[.bool t1278, .slice Ao96 t1279.length co96] 27 (0, 0)) (zk BK1283.out) hb); have n6_ := Aside0.mk (blk_below (g := gb1289) (o := .cells #[.bool t1284, .slice Ao105 t1285.length co105] 27 (0, 0)) (zk BK1289.out) hb); have n7_ := Aside0.mk (blk_below (g := gb1295) (o := .cells #[.bool t1290, .slice Ao114 t1291.length co114] 27 (0, 0)) (by (with_reducible repeat (first | refine blk_drewN ?_ _ | refine blk_drew ?_ | refine blk_alloc ?_ _)); refine blk_put (cs := #[.bool t1290, .slice none 0 0]) ?_ 1 _ rfl; (with_reducible repeat (first | refine blk_drewN ?_ _ | refine blk_drew ?_ | refine blk_alloc ?_ _)); refine blk_put (cs := #[.bool false, .slice none 0 0]) ?_ 0 _ rfl; (with_reducible repeat (first | refine blk_drewN ?_ _ | refine blk_drew ?_ | refine blk_alloc ?_ _)); exact BK1295.out) hb); have n8_ := Aside0.mk (below_step zb hb); clear HO1277; clear HO1281; clear HO1287; clear HO1293; clear BK1282; clear BK1283; clear BK1289; clear BK1295; clear HB; have HO1277 := n0_; have HO1281 := n1_; have HO1287 := n2_; have HO1293 := n3_; have BK1282 := n4_; have BK1283 := n5_; have BK1289 := n6_; have BK1295 := n7_; have HB := n8_; clear n0_ n1_ n2_ n3_ n4_ n5_ n6_ n7_ n8_; (try clear hb); (try clear hb2); (try clear hk); (try clear hi); have hcz117_0 : w116.cell? ⟨gb1289, 0, none⟩ = some (.bool t1284) := (blk_cell BK1289.out 0).trans rfl; have hcz117_1 : w116.cell? ⟨gb1289, 1, none⟩ = some (.slice Ao105 t1285.length co105) := (blk_cell BK1289.out 1).trans rfl; have hfz117_0 := blk_frozen BK1289.out 0; have hfz117_1 := blk_frozen BK1289.out 1; have hcz118_0 : w116.cell? ⟨gb1295, 0, none⟩ = some (.bool t1290) := (blk_cell BK1295.out 0).trans rfl; have hcz118_1 : w116.cell? ⟨gb1295, 1, none⟩ = some (.slice Ao114 t1291.length co114) := (blk_cell BK1295.out 1).trans rfl; have hfz118_0 := blk_frozen BK1295.out 0; have hfz118_1 := blk_frozen BK1295.out 1) | (go_at_call 31; (with_reducible refine (laws_jtBig.calls k t1284 _ _ t1285 t1290 _ _ t1291 t1297 _ ?side1 ?side2 ?side3 ?side4 A87.out).mono ?_); (case side1 => repeat (first | exact (Kd.V_reads' HO1287.out).2.2 | (with_reducible refine Kd.C_alloc ?_ _) | (with_reducible refine Kd.C_drewN ?_ _) | (with_reducible refine Kd.C_drew ?_))); (case side2 => exact (Kd.V_reads' HO1287.out).2.1); (case side3 => repeat (first | exact (Kd.R_reads' HO1293.out).2.2 | (with_reducible refine Kd.C_alloc ?_ _) | (with_reducible refine Kd.C_drewN ?_ _) | (with_reducible refine Kd.C_drew ?_))); (case side4 => exact (Kd.R_reads' HO1293.out).2.1); rintro e w119 ⟨rfl, hb⟩; have n0_ := Aside0.mk (Kd.R_below (zR HO1277.out) hb); have n1_ := Aside0.mk (Kd.R_below (zR HO1281.out) hb); have n2_ := Aside0.mk (Kd.V_below (zV HO1287.out) hb); have n3_ := Aside0.mk (Kd.R_below (zR HO1293.out) hb); have n4_ := Aside0.mk (blk_below (g := gb1282) (o := .cells #[.bool t1274, .slice Ao93 t1275.length co93] 27 (0, 0)) (zk BK1282.out) hb); have n5_ := Aside0.mk (blk_below (g := gb1283) (o := .cells #[.bool t1278, .slice Ao96 t1279.length co96] 27 (0, 0)) (zk BK1283.out) hb); have n6_ := Aside0.mk (blk_below (g := gb1289) (o := .cells #[.bool t1284, .slice Ao105 t1285.length co105] 27 (0, 0)) (zk BK1289.out) hb); have n7_ := Aside0.mk (blk_below (g := gb1295) (o := .cells #[.bool t1290, .slice Ao114 t1291.length co114] 27 (0, 0)) (zk BK1295.out) hb); have n8_ := Aside0.mk (below_step zb hb); clear HO1277; clear HO1281; clear HO1287; clear HO1293; clear BK1282; clear BK1283; clear BK1289; clear BK1295; clear HB; have HO1277 := n0_; have HO1281 := n1_; have HO1287 := n2_; have HO1293 := n3_; have BK1282 := n4_; have BK1283 := n5_; have BK1289 := n6_; have BK1295 := n7_; have HB := n8_; clear n0_ n1_ n2_ n3_ n4_ n5_ n6_ n7_ n8_; (try clear hb); (try clear hb2); (try clear hk); (try clear hi)))
            go_ret
            exact ⟨by first | rfl | (simp [errW_none, errW_some] <;> rfl) | (simp [*, errW_none, errW_some] <;> rfl), zb⟩
          · rw [if_neg c86] at H
            exact absurd H (by simp)
      · replace c8 := Bool.eq_false_iff.mpr c8
        subst c8
        have H1 : (none) = some r := by rw [if_neg (show ¬ (false = true) by decide)] at H; exact H
        clear H
        have H := H1
        clear H1
        exact absurd H (by simp)
def laws_FnBigSub.Pure : Prop := ∀ (l0 : List Int), l0.length ≤ maxLen → l0.length * 1 ≤ 140737488351232 → (∀ x ∈ l0, (Lit.int .u8 x).wf = true) → ∃ k, laws_FnBigSub.f k l0 = some true
theorem laws_FnBigSub.walk (P : laws_FnBigSub.Pure) (a0 : Option Addr) (len0 cap0 : Nat) (z0 : List Int) (w : World) (w0 : (a0 = none ∧ len0 = 0 ∧ cap0 = 0 ∧ z0 = []) ∨ ∃ x, a0 = some x ∧ len0 ≤ cap0 ∧ cap0 ≤ maxLen ∧ z0.length = cap0 ∧ (∀ i, i < z0.length → w.cell? (x.add i) = some (.int .u8 (z0.getD i 0))) ∧ ∀ n ∈ z0, (Lit.int .u8 n).wf = true) (y0 : len0 * 1 ≤ 140737488351232) :
    Calls Try.prog 17 #[.slice a0 len0 cap0] w fun e w' => e = .returned (.bool true) ∧ Below w.heap.size w w' := by
  obtain ⟨l0, rfl, hr0, hm0, hw0, hc0⟩ := ReadsInt.ofRowC w0
  obtain ⟨k, h⟩ := P l0 hm0 y0 hw0
  refine (laws_FnBigSub.calls k _ _ l0 true w (Kd.C_of_reads (d := (0 : Int)) (h1 := fun _ => rfl) hr0) hc0 h).mono ?_
  rintro e w' ⟨rfl, hd⟩
  exact ⟨rfl, hd⟩
end Go.Proofs.Ytdemeoncjcbojaa.Pr
end
