/- What the claim's row needs of the contracts and words below it, and no more. -/
import Derived.Test.YtdemeoncjcbojaaQAdd4
section
namespace Go.Proofs.Ytdemeoncjcbojaa.Pr
open Go.RowKit Go.Proofs.YtdemeoncjcbojaaW.PrintWords Go.Proofs.YtdemeoncjcbojaaW.PrintLast Go.Proofs.Ytdemeoncjcbojaa.Ext Go.Proofs.YtdemeoncjcbojaaW.PrintMore
attribute [local go_sem] max2_int min2_int max_two min_two max_three min_three max_four min_four
set_option linter.unusedVariables false
set_option linter.unusedSimpArgs false
def impl_BigSub.f (k : Nat) (a0_0 : Bool) (l0_1 : List Int) (a1_0 : Bool) (l1_1 : List Int) : Option (Bool × List Int × Bool) := (impl_bigs.f a0_0 l0_1 a1_0 l1_1).bind fun t988 => (if t988 = true then ((impl_Big_signed.f a0_0 l0_1).bind fun bt989 => ((impl_Big_signed.f a1_0 l1_1).bind fun bt993 => ((impl_signed_minus.f bt993.1 bt993.2).bind fun bt997 => ((impl_signed_add.f k bt989.1 bt989.2 bt997.1 bt997.2).bind fun bt1001 => ((impl_big.f k bt1001.1 bt1001.2).bind fun bt1006 => (some (bt1006.1, bt1006.2.1, bt1006.2.2))))))) else (some (false, ([] : List Int), false)))
def impl_BigSub.T3 : Bool × List (List Nat × List Nat) := (true, [([], []), ([0], [0]), ([], []), ([2, 1], [2]), ([3, 3], [3]), ([1, 4, 4], [1, 4]), ([], []), ([6, 5, 5, 0, 1, 2, 3, 4, 5, 6], [5, 6])])
def impl_BigSub.B3 : List Nat := [0, 1, 0, 7, 15, 31, 0, 127]
theorem impl_BigSub.tab3 : rtab .any (opsOf Try.f41 3) = impl_BigSub.T3 := by kernel_rfl
theorem impl_BigSub.bits3 : waitsOk impl_BigSub.T3.2 impl_BigSub.B3 = true := by kernel_rfl
set_option maxHeartbeats 8000000 in
set_option maxRecDepth 100000 in
theorem impl_BigSub.calls (k : Nat) (a0_0 : Bool) (P0_1_ : Nat → Prop) (A0_1 : Option Addr) (c0_1 : Nat) (l0_1 : List Int) (a1_0 : Bool) (P1_1_ : Nat → Prop) (A1_1 : Option Addr) (c1_1 : Nat) (l1_1 : List Int) (r1 : Bool) (r2 : List Int) (r3 : Bool) (w : World) (hs0_1 : Kd.V (Kd.int .i64) 3 w w.heap.size (fun k_ => P0_1_ k_) (.slice A0_1 l0_1.length c0_1) l0_1) (hs1_1 : Kd.V (Kd.int .i64) 3 w w.heap.size (fun k_ => P1_1_ k_) (.slice A1_1 l1_1.length c1_1) l1_1) (h : impl_BigSub.f k a0_0 l0_1 a1_0 l1_1 = some (r1, r2, r3)) :
    Calls Try.prog 41 #[.agg #[.bool a0_0, .slice A0_1 l0_1.length c0_1], .agg #[.bool a1_0, .slice A1_1 l1_1.length c1_1]] w fun e w' => ∃ v1_ : Value, e = .returned (.tuple #[.agg #[.bool r1, v1_], .bool r3]) ∧ Kd.V (Kd.int .i64) 3 w' w.heap.size (fun k_ => ((P0_1_ k_ ∨ P1_1_ k_) ∨ w.heap.size ≤ k_)) v1_ r2 ∧ Below w.heap.size w w' := by
  have hu27 := Try.underlying27
  have hu64 := Try.underlying64
  have HO0_1 := Aside0.mk (show Kd.V (Kd.int .i64) 3 w w.heap.size (fun k_ => ((P0_1_ k_ ∨ P1_1_ k_) ∨ w.heap.size ≤ k_)) (.slice A0_1 l0_1.length c0_1) l0_1 from Kd.V_mono hs0_1 (fun k_ hk => .inl (.inl hk)))
  have HO1_1 := Aside0.mk (show Kd.V (Kd.int .i64) 3 w w.heap.size (fun k_ => ((P0_1_ k_ ∨ P1_1_ k_) ∨ w.heap.size ≤ k_)) (.slice A1_1 l1_1.length c1_1) l1_1 from Kd.V_mono hs1_1 (fun k_ hk => .inl (.inr hk)))
  have HB := Aside0.mk (Below.refl w.heap.size w)
  have H : ((impl_bigs.f a0_0 l0_1 a1_0 l1_1).bind fun t988 => (if t988 = true then ((impl_Big_signed.f a0_0 l0_1).bind fun bt989 => ((impl_Big_signed.f a1_0 l1_1).bind fun bt993 => ((impl_signed_minus.f bt993.1 bt993.2).bind fun bt997 => ((impl_signed_add.f k bt989.1 bt989.2 bt997.1 bt997.2).bind fun bt1001 => ((impl_big.f k bt1001.1 bt1001.2).bind fun bt1006 => (some (bt1006.1, bt1006.2.1, bt1006.2.2))))))) else (some (false, ([] : List Int), false)))) = some (r1, r2, r3) := h
  clear h
  replace H := Option.bind_eq_some_iff.mp H
  obtain ⟨t988, A30, H⟩ := H
  replace H : (if t988 = true then ((impl_Big_signed.f a0_0 l0_1).bind fun bt989 => ((impl_Big_signed.f a1_0 l1_1).bind fun bt993 => ((impl_signed_minus.f bt993.1 bt993.2).bind fun bt997 => ((impl_signed_add.f k bt989.1 bt989.2 bt997.1 bt997.2).bind fun bt1001 => ((impl_big.f k bt1001.1 bt1001.2).bind fun bt1006 => (some (bt1006.1, bt1006.2.1, bt1006.2.2))))))) else (some (false, ([] : List Int), false))) = some (r1, r2, r3) := H
  have A3 := Aside0.mk A30
  clear A30
  by_cases c4 : t988 = true
  · subst c4
    have H1 : ((impl_Big_signed.f a0_0 l0_1).bind fun bt989 => ((impl_Big_signed.f a1_0 l1_1).bind fun bt993 => ((impl_signed_minus.f bt993.1 bt993.2).bind fun bt997 => ((impl_signed_add.f k bt989.1 bt989.2 bt997.1 bt997.2).bind fun bt1001 => ((impl_big.f k bt1001.1 bt1001.2).bind fun bt1006 => (some (bt1006.1, bt1006.2.1, bt1006.2.2))))))) = some (r1, r2, r3) := by rw [if_pos rfl] at H; exact H
    clear H
    have H := H1
    clear H1
    replace H := Option.bind_eq_some_iff.mp H
    obtain ⟨⟨t989, t990⟩, A50, H⟩ := H
    replace H : ((impl_Big_signed.f a1_0 l1_1).bind fun bt993 => ((impl_signed_minus.f bt993.1 bt993.2).bind fun bt997 => ((impl_signed_add.f k t989 t990 bt997.1 bt997.2).bind fun bt1001 => ((impl_big.f k bt1001.1 bt1001.2).bind fun bt1006 => (some (bt1006.1, bt1006.2.1, bt1006.2.2)))))) = some (r1, r2, r3) := H
    have A5 := Aside0.mk A50
    clear A50
    replace H := Option.bind_eq_some_iff.mp H
    obtain ⟨⟨t993, t994⟩, A60, H⟩ := H
    replace H : ((impl_signed_minus.f t993 t994).bind fun bt997 => ((impl_signed_add.f k t989 t990 bt997.1 bt997.2).bind fun bt1001 => ((impl_big.f k bt1001.1 bt1001.2).bind fun bt1006 => (some (bt1006.1, bt1006.2.1, bt1006.2.2))))) = some (r1, r2, r3) := H
    have A6 := Aside0.mk A60
    clear A60
    replace H := Option.bind_eq_some_iff.mp H
    obtain ⟨⟨t997, t998⟩, A70, H⟩ := H
    replace H : ((impl_signed_add.f k t989 t990 t997 t998).bind fun bt1001 => ((impl_big.f k bt1001.1 bt1001.2).bind fun bt1006 => (some (bt1006.1, bt1006.2.1, bt1006.2.2)))) = some (r1, r2, r3) := H
    have A7 := Aside0.mk A70
    clear A70
    replace H := Option.bind_eq_some_iff.mp H
    obtain ⟨⟨t1001, t1002⟩, A80, H⟩ := H
    replace H : ((impl_big.f k t1001 t1002).bind fun bt1006 => (some (bt1006.1, bt1006.2.1, bt1006.2.2))) = some (r1, r2, r3) := H
    have A8 := Aside0.mk A80
    clear A80
    replace H := Option.bind_eq_some_iff.mp H
    obtain ⟨⟨t1006, t1007, t1010⟩, A90, H⟩ := H
    replace H : (some (t1006, t1007, t1010)) = some (r1, r2, r3) := H
    have A9 := Aside0.mk A90
    clear A90
    simp only [Option.some.injEq, Prod.mk.injEq] at H
    obtain ⟨rfl, rfl, rfl⟩ := H
    go_enter Try.func41, Try.ntmps41
    try go_wp2_with (first | ((with_reducible refine gate_dst (N := 2) rfl ?_); refine box_event ?hg (N := 2) ?hd (cs := #[.bool a0_0, .slice A0_1 l0_1.length c0_1]) (t := 27) ?hr ?_; (case hd => rfl); (case hg => rfl); (case hr => first | (go_simp; done) | (go_simp; rfl)); intro gb985 hg w10 hbox hb; have n0_ := Aside0.mk (Kd.V_below (Kd.V_elderB (zV HO0_1.out) gb985 (Nat.le_of_eq hg.symm)) hb); have n1_ := Aside0.mk (Kd.V_below (Kd.V_elderB (zV HO1_1.out) gb985 (Nat.le_of_eq hg.symm)) hb); have n2_ := Aside0.mk (below_step zb hb); have n3_ := Aside0.mk (hbox); have n4_ := Aside0.mk ((by rw [hg]; exact (below_size zb) : w.heap.size ≤ gb985)); have n5_ := Aside0.mk ((by rw [hg]; exact (below_size zb) : w.heap.size ≤ gb985)); clear HO0_1; clear HO1_1; clear HB; have HO0_1 := n0_; have HO1_1 := n1_; have HB := n2_; have BK985 := n3_; have GW985 := n4_; have GE985 := n5_; clear n0_ n1_ n2_ n3_ n4_ n5_; clear hb hbox hg) | ((with_reducible refine gate_dst (N := 3) rfl ?_); refine box_event ?hg (N := 3) ?hd (cs := #[.bool a1_0, .slice A1_1 l1_1.length c1_1]) (t := 27) ?hr ?_; (case hd => rfl); (case hg => rfl); (case hr => first | (go_simp; done) | (go_simp; rfl)); intro gb986 hg w11 hbox hb; have n0_ := Aside0.mk (Kd.V_below (Kd.V_elderB (zV HO0_1.out) gb986 (Nat.le_of_eq hg.symm)) hb); have n1_ := Aside0.mk (Kd.V_below (Kd.V_elderB (zV HO1_1.out) gb986 (Nat.le_of_eq hg.symm)) hb); have n2_ := Aside0.mk (blk_below (g := gb985) (o := .cells #[.bool a0_0, .slice A0_1 l0_1.length c0_1] 27 (0, 0)) (zk BK985.out) hb); have n3_ := Aside0.mk (below_step zb hb); have n4_ := Aside0.mk (hbox); have n5_ := Aside0.mk ((by rw [hg]; exact (below_size zb) : w.heap.size ≤ gb986)); have n6_ := Aside0.mk ((by rw [hg]; exact (below_size zb) : w.heap.size ≤ gb986)); have n7_ := Aside0.mk ((by rw [hg]; exact Nat.ne_of_lt (blk_lt (g := gb985) (o := .cells #[.bool a0_0, .slice A0_1 l0_1.length c0_1] 27 (0, 0)) (zk BK985.out)) : gb985 ≠ gb986)); have n8_ := Aside0.mk ((by rw [hg]; exact Nat.ne_of_gt (blk_lt (g := gb985) (o := .cells #[.bool a0_0, .slice A0_1 l0_1.length c0_1] 27 (0, 0)) (zk BK985.out)) : gb986 ≠ gb985)); clear HO0_1; clear HO1_1; clear BK985; clear HB; have HO0_1 := n0_; have HO1_1 := n1_; have BK985 := n2_; have HB := n3_; have BK986 := n4_; have GW986 := n5_; have GE986 := n6_; have NB985_986 := n7_; have NB986_985 := n8_; clear n0_ n1_ n2_ n3_ n4_ n5_ n6_ n7_ n8_; clear hb hbox hg) | ((with_reducible refine gate_dst (N := 4) rfl ?_); refine box_event ?hg (N := 4) ?hd (cs := #[.bool false, .slice none 0 0]) (t := 27) ?hr ?_; (case hd => rfl); (case hg => rfl); (case hr => first | (go_simp; done) | (go_simp; rfl)); intro gb987 hg w12 hbox hb; have n0_ := Aside0.mk (Kd.V_below (Kd.V_elderB (zV HO0_1.out) gb987 (Nat.le_of_eq hg.symm)) hb); have n1_ := Aside0.mk (Kd.V_below (Kd.V_elderB (zV HO1_1.out) gb987 (Nat.le_of_eq hg.symm)) hb); have n2_ := Aside0.mk (blk_below (g := gb985) (o := .cells #[.bool a0_0, .slice A0_1 l0_1.length c0_1] 27 (0, 0)) (zk BK985.out) hb); have n3_ := Aside0.mk (blk_below (g := gb986) (o := .cells #[.bool a1_0, .slice A1_1 l1_1.length c1_1] 27 (0, 0)) (zk BK986.out) hb); have n4_ := Aside0.mk (below_step zb hb); have n5_ := Aside0.mk (hbox); have n6_ := Aside0.mk ((by rw [hg]; exact (below_size zb) : w.heap.size ≤ gb987)); have n7_ := Aside0.mk ((by rw [hg]; exact (below_size zb) : w.heap.size ≤ gb987)); have n8_ := Aside0.mk ((by rw [hg]; exact Nat.ne_of_lt (blk_lt (g := gb985) (o := .cells #[.bool a0_0, .slice A0_1 l0_1.length c0_1] 27 (0, 0)) (zk BK985.out)) : gb985 ≠ gb987)); have n9_ := Aside0.mk ((by rw [hg]; exact Nat.ne_of_gt (blk_lt (g := gb985) (o := .cells #[.bool a0_0, .slice A0_1 l0_1.length c0_1] 27 (0, 0)) (zk BK985.out)) : gb987 ≠ gb985)); have n10_ := Aside0.mk ((by rw [hg]; exact Nat.ne_of_lt (blk_lt (g := gb986) (o := .cells #[.bool a1_0, .slice A1_1 l1_1.length c1_1] 27 (0, 0)) (zk BK986.out)) : gb986 ≠ gb987)); have n11_ := Aside0.mk ((by rw [hg]; exact Nat.ne_of_gt (blk_lt (g := gb986) (o := .cells #[.bool a1_0, .slice A1_1 l1_1.length c1_1] 27 (0, 0)) (zk BK986.out)) : gb987 ≠ gb986)); clear HO0_1; clear HO1_1; clear BK985; clear BK986; clear HB; have HO0_1 := n0_; have HO1_1 := n1_; have BK985 := n2_; have BK986 := n3_; have HB := n4_; have BK987 := n5_; have GW987 := n6_; have GE987 := n7_; have NB985_987 := n8_; have NB987_985 := n9_; have NB986_987 := n10_; have NB987_986 := n11_; clear n0_ n1_ n2_ n3_ n4_ n5_ n6_ n7_ n8_ n9_ n10_ n11_; clear hb hbox hg; have hnb13 := NB985_986.out; have hnc13 := NB986_985.out; have hnb14 := NB985_987.out; have hnc14 := NB987_985.out; have hcz15_0 : w12.cell? ⟨gb985, 0, none⟩ = some (.bool a0_0) := (blk_cell BK985.out 0).trans rfl; have hcz15_1 : w12.cell? ⟨gb985, 1, none⟩ = some (.slice A0_1 l0_1.length c0_1) := (blk_cell BK985.out 1).trans rfl; have hfz15_0 := blk_frozen BK985.out 0; have hfz15_1 := blk_frozen BK985.out 1; have hnb16 := NB986_987.out; have hnc16 := NB987_986.out; have hcz17_0 : w12.cell? ⟨gb986, 0, none⟩ = some (.bool a1_0) := (blk_cell BK986.out 0).trans rfl; have hcz17_1 : w12.cell? ⟨gb986, 1, none⟩ = some (.slice A1_1 l1_1.length c1_1) := (blk_cell BK986.out 1).trans rfl; have hfz17_0 := blk_frozen BK986.out 0; have hfz17_1 := blk_frozen BK986.out 1) | ((with_reducible refine gate_callee (f := 67) rfl ?_); refine goesL_ (some 9) rfl rfl Try.func67 (by kernel_rfl) rfl #[.agg #[.bool a0_0, .slice A0_1 l0_1.length c0_1], .agg #[.bool a1_0, .slice A1_1 l1_1.length c1_1]] rfl za ?_; (with_reducible refine (impl_bigs.calls a0_0 _ _ l0_1 a1_0 _ _ l1_1 true _ ?side1 ?side2 ?side3 ?side4 A3.out).mono ?_); (case side1 => repeat (first | exact (Kd.V_reads' HO0_1.out).2.2 | (with_reducible refine Kd.C_alloc ?_ _) | (with_reducible refine Kd.C_drewN ?_ _) | (with_reducible refine Kd.C_drew ?_))); (case side2 => exact (Kd.V_reads' HO0_1.out).2.1); (case side3 => repeat (first | exact (Kd.V_reads' HO1_1.out).2.2 | (with_reducible refine Kd.C_alloc ?_ _) | (with_reducible refine Kd.C_drewN ?_ _) | (with_reducible refine Kd.C_drew ?_))); (case side4 => exact (Kd.V_reads' HO1_1.out).2.1); rintro e w18 ⟨rfl, hb⟩; refine ⟨_, rfl, ?_⟩; have n0_ := Aside0.mk (Kd.V_below (zV HO0_1.out) hb); have n1_ := Aside0.mk (Kd.V_below (zV HO1_1.out) hb); have n2_ := Aside0.mk (blk_below (g := gb985) (o := .cells #[.bool a0_0, .slice A0_1 l0_1.length c0_1] 27 (0, 0)) (zk BK985.out) hb); have n3_ := Aside0.mk (blk_below (g := gb986) (o := .cells #[.bool a1_0, .slice A1_1 l1_1.length c1_1] 27 (0, 0)) (zk BK986.out) hb); have n4_ := Aside0.mk (blk_below (g := gb987) (o := .cells #[.bool false, .slice none 0 0] 27 (0, 0)) (zk BK987.out) hb); have n5_ := Aside0.mk (below_step zb hb); clear HO0_1; clear HO1_1; clear BK985; clear BK986; clear BK987; clear HB; have HO0_1 := n0_; have HO1_1 := n1_; have BK985 := n2_; have BK986 := n3_; have BK987 := n4_; have HB := n5_; clear n0_ n1_ n2_ n3_ n4_ n5_; (try clear hb); (try clear hb2); (try clear hk); (try clear hi)))
    have n0_ := Aside0.mk (Kd.V_drew HO0_1.out)
    have n1_ := Aside0.mk (Kd.V_drew HO1_1.out)
    have n2_ := Aside0.mk (blk_drew BK985.out)
    have n3_ := Aside0.mk (blk_drew BK986.out)
    have n4_ := Aside0.mk (blk_drew BK987.out)
    have n5_ := Aside0.mk (below_drew1 HB.out)
    clear HO0_1
    clear HO1_1
    clear BK985
    clear BK986
    clear BK987
    clear HB
    have HO0_1 := n0_
    have HO1_1 := n1_
    have BK985 := n2_
    have BK986 := n3_
    have BK987 := n4_
    have HB := n5_
    clear n0_ n1_ n2_ n3_ n4_ n5_
    refine start_ (n := 8) (S := fun w' => w'.cell? ⟨gb985, 0, none⟩ = some (.bool a0_0) ∧ w'.cell? ⟨gb985, 1, none⟩ = some (.slice A0_1 l0_1.length c0_1) ∧ w'.cell? ⟨gb986, 0, none⟩ = some (.bool a1_0) ∧ w'.cell? ⟨gb986, 1, none⟩ = some (.slice A1_1 l1_1.length c1_1)) (ds := []) #[false, false, false, false, false, false, false, false] (by kernel_rfl) rfl rfl ⟨(blk_cell BK985.out 0).trans rfl, (blk_cell BK985.out 1).trans rfl, (blk_cell BK986.out 0).trans rfl, (blk_cell BK986.out 1).trans rfl⟩ (fun hHeld => ?_); refine with_tabW impl_BigSub.tab3 impl_BigSub.bits3 (fun HT_ HW_ => ?_)
    generalize w18.drew = w19 at HO0_1 HO1_1 BK985 BK986 BK987 HB hHeld ⊢
    refine take_ (i := 0) (N := some 12) (v := ?_) (a' := ?_) #[true, false, false, false, false, false, false, false] rfl rfl (take_ofW HT_.out HW_.out (by kernel_rfl)) (fun _ _ _ h => h) (Or.inl ⟨by rfl, ?_⟩) hHeld ?_ ?_
    rotate_left
    · rintro w' ⟨s0, s1, s2, s3⟩
      go_simp
      with_reducible rfl
    rotate_left
    · simp only [Act.put, List.setIfInBounds_toArray, List.set_cons_zero, List.set_cons_succ, i64_w, i32_w]
      rfl
    refine take_ (i := 2) (N := some 14) (v := ?_) (a' := ?_) #[true, false, true, false, false, false, false, false] rfl rfl (take_ofW HT_.out HW_.out (by kernel_rfl)) (fun _ _ _ h => h) (Or.inl ⟨by rfl, ?_⟩) hHeld ?_ ?_
    rotate_left
    · rintro w' ⟨s0, s1, s2, s3⟩
      go_simp
      with_reducible rfl
    rotate_left
    · simp only [Act.put, List.setIfInBounds_toArray, List.set_cons_zero, List.set_cons_succ, i64_w, i32_w]
      rfl
    refine join_ (σ := Value × Value × Value × Value × Nat) 1 #[true, true, true, true, true, true, true, false] (fun s_ => [(13, .agg #[.bool t989, s_.1]), (15, .agg #[.bool t993, s_.2.1]), (16, .agg #[.bool t997, s_.2.2.1]), (17, .agg #[.bool t1001, s_.2.2.2.1]), (6, .pointer (some ⟨s_.2.2.2.2, 0, none⟩))]) (fun s_ w' => (w'.cell? ⟨gb985, 0, none⟩ = some (.bool a0_0) ∧ w'.cell? ⟨gb985, 1, none⟩ = some (.slice A0_1 l0_1.length c0_1) ∧ w'.cell? ⟨gb986, 0, none⟩ = some (.bool a1_0) ∧ w'.cell? ⟨gb986, 1, none⟩ = some (.slice A1_1 l1_1.length c1_1)) ∧ (Kd.V (Kd.int .i64) 3 w' w.heap.size (fun k_ => ((P0_1_ k_ ∨ P1_1_ k_) ∨ w.heap.size ≤ k_) ∧ k_ ≠ gb985 ∧ k_ ≠ gb986 ∧ k_ ≠ gb987 ∧ k_ ≠ s_.2.2.2.2) (.slice A0_1 l0_1.length c0_1) l0_1) ∧ (Kd.V (Kd.int .i64) 3 w' w.heap.size (fun k_ => ((P0_1_ k_ ∨ P1_1_ k_) ∨ w.heap.size ≤ k_) ∧ k_ ≠ gb985 ∧ k_ ≠ gb986 ∧ k_ ≠ gb987 ∧ k_ ≠ s_.2.2.2.2) s_.2.2.1 t998) ∧ (Kd.V (Kd.int .i64) 3 w' w.heap.size (fun k_ => ((P0_1_ k_ ∨ P1_1_ k_) ∨ w.heap.size ≤ k_) ∧ k_ ≠ gb985 ∧ k_ ≠ gb986 ∧ k_ ≠ gb987 ∧ k_ ≠ s_.2.2.2.2) s_.2.2.2.1 t1002) ∧ (Kd.V (Kd.int .i64) 3 w' w.heap.size (fun k_ => ((P0_1_ k_ ∨ P1_1_ k_) ∨ w.heap.size ≤ k_) ∧ k_ ≠ gb985 ∧ k_ ≠ gb986 ∧ k_ ≠ gb987 ∧ k_ ≠ s_.2.2.2.2) (.slice A1_1 l1_1.length c1_1) l1_1) ∧ (Kd.V (Kd.int .i64) 3 w' w.heap.size (fun k_ => ((P0_1_ k_ ∨ P1_1_ k_) ∨ w.heap.size ≤ k_) ∧ k_ ≠ gb985 ∧ k_ ≠ gb986 ∧ k_ ≠ gb987 ∧ k_ ≠ s_.2.2.2.2) s_.1 t990) ∧ (Kd.V (Kd.int .i64) 3 w' w.heap.size (fun k_ => ((P0_1_ k_ ∨ P1_1_ k_) ∨ w.heap.size ≤ k_) ∧ k_ ≠ gb985 ∧ k_ ≠ gb986 ∧ k_ ≠ gb987 ∧ k_ ≠ s_.2.2.2.2) s_.2.1 t994) ∧ (w'.heap[s_.2.2.2.2]? = some (.cells #[.bool false, .slice none 0 0] 64 (0, 0))) ∧ (w'.heap[gb985]? = some (.cells #[.bool a0_0, .slice A0_1 l0_1.length c0_1] 27 (0, 0))) ∧ (w'.heap[gb986]? = some (.cells #[.bool a1_0, .slice A1_1 l1_1.length c1_1] 27 (0, 0))) ∧ (w'.heap[gb987]? = some (.cells #[.bool false, .slice none 0 0] 27 (0, 0))) ∧ (w.heap.size ≤ s_.2.2.2.2) ∧ (w.heap.size ≤ s_.2.2.2.2) ∧ (gb985 ≠ s_.2.2.2.2) ∧ (s_.2.2.2.2 ≠ gb985) ∧ (gb986 ≠ s_.2.2.2.2) ∧ (s_.2.2.2.2 ≠ gb986) ∧ (gb987 ≠ s_.2.2.2.2) ∧ (s_.2.2.2.2 ≠ gb987) ∧ (Below w.heap.size w w')) ?_ ?_
    rotate_left
    · intro hJ1_3_4_5_6
      refine join_ (σ := Value × Value × Value × Value) 2 #[true, true, true, true, true, true, false, false] (fun s_ => [(13, .agg #[.bool t989, s_.1]), (15, .agg #[.bool t993, s_.2.1]), (16, .agg #[.bool t997, s_.2.2.1]), (17, .agg #[.bool t1001, s_.2.2.2])]) (fun s_ w' => (w'.cell? ⟨gb985, 0, none⟩ = some (.bool a0_0) ∧ w'.cell? ⟨gb985, 1, none⟩ = some (.slice A0_1 l0_1.length c0_1) ∧ w'.cell? ⟨gb986, 0, none⟩ = some (.bool a1_0) ∧ w'.cell? ⟨gb986, 1, none⟩ = some (.slice A1_1 l1_1.length c1_1)) ∧ (Kd.V (Kd.int .i64) 3 w' w.heap.size (fun k_ => ((P0_1_ k_ ∨ P1_1_ k_) ∨ w.heap.size ≤ k_) ∧ k_ ≠ gb985 ∧ k_ ≠ gb986 ∧ k_ ≠ gb987) (.slice A0_1 l0_1.length c0_1) l0_1) ∧ (Kd.V (Kd.int .i64) 3 w' w.heap.size (fun k_ => ((P0_1_ k_ ∨ P1_1_ k_) ∨ w.heap.size ≤ k_) ∧ k_ ≠ gb985 ∧ k_ ≠ gb986 ∧ k_ ≠ gb987) s_.2.2.1 t998) ∧ (Kd.V (Kd.int .i64) 3 w' w.heap.size (fun k_ => ((P0_1_ k_ ∨ P1_1_ k_) ∨ w.heap.size ≤ k_) ∧ k_ ≠ gb985 ∧ k_ ≠ gb986 ∧ k_ ≠ gb987) s_.2.2.2 t1002) ∧ (Kd.V (Kd.int .i64) 3 w' w.heap.size (fun k_ => ((P0_1_ k_ ∨ P1_1_ k_) ∨ w.heap.size ≤ k_) ∧ k_ ≠ gb985 ∧ k_ ≠ gb986 ∧ k_ ≠ gb987) (.slice A1_1 l1_1.length c1_1) l1_1) ∧ (Kd.V (Kd.int .i64) 3 w' w.heap.size (fun k_ => ((P0_1_ k_ ∨ P1_1_ k_) ∨ w.heap.size ≤ k_) ∧ k_ ≠ gb985 ∧ k_ ≠ gb986 ∧ k_ ≠ gb987) s_.1 t990) ∧ (Kd.V (Kd.int .i64) 3 w' w.heap.size (fun k_ => ((P0_1_ k_ ∨ P1_1_ k_) ∨ w.heap.size ≤ k_) ∧ k_ ≠ gb985 ∧ k_ ≠ gb986 ∧ k_ ≠ gb987) s_.2.1 t994) ∧ (w'.heap[gb985]? = some (.cells #[.bool a0_0, .slice A0_1 l0_1.length c0_1] 27 (0, 0))) ∧ (w'.heap[gb986]? = some (.cells #[.bool a1_0, .slice A1_1 l1_1.length c1_1] 27 (0, 0))) ∧ (w'.heap[gb987]? = some (.cells #[.bool false, .slice none 0 0] 27 (0, 0))) ∧ (Below w.heap.size w w')) ?_ ?_
      rotate_left
      · intro hJ1_3_4_5
        refine join_ (σ := Value × Value × Value × Nat) 2 #[true, true, true, true, true, false, true, false] (fun s_ => [(13, .agg #[.bool t989, s_.1]), (15, .agg #[.bool t993, s_.2.1]), (16, .agg #[.bool t997, s_.2.2.1]), (6, .pointer (some ⟨s_.2.2.2, 0, none⟩))]) (fun s_ w' => (w'.cell? ⟨gb985, 0, none⟩ = some (.bool a0_0) ∧ w'.cell? ⟨gb985, 1, none⟩ = some (.slice A0_1 l0_1.length c0_1) ∧ w'.cell? ⟨gb986, 0, none⟩ = some (.bool a1_0) ∧ w'.cell? ⟨gb986, 1, none⟩ = some (.slice A1_1 l1_1.length c1_1)) ∧ (Kd.V (Kd.int .i64) 3 w' w.heap.size (fun k_ => ((P0_1_ k_ ∨ P1_1_ k_) ∨ w.heap.size ≤ k_) ∧ k_ ≠ gb985 ∧ k_ ≠ gb986 ∧ k_ ≠ gb987 ∧ k_ ≠ s_.2.2.2) (.slice A0_1 l0_1.length c0_1) l0_1) ∧ (Kd.V (Kd.int .i64) 3 w' w.heap.size (fun k_ => ((P0_1_ k_ ∨ P1_1_ k_) ∨ w.heap.size ≤ k_) ∧ k_ ≠ gb985 ∧ k_ ≠ gb986 ∧ k_ ≠ gb987 ∧ k_ ≠ s_.2.2.2) s_.2.2.1 t998) ∧ (Kd.V (Kd.int .i64) 3 w' w.heap.size (fun k_ => ((P0_1_ k_ ∨ P1_1_ k_) ∨ w.heap.size ≤ k_) ∧ k_ ≠ gb985 ∧ k_ ≠ gb986 ∧ k_ ≠ gb987 ∧ k_ ≠ s_.2.2.2) (.slice A1_1 l1_1.length c1_1) l1_1) ∧ (Kd.V (Kd.int .i64) 3 w' w.heap.size (fun k_ => ((P0_1_ k_ ∨ P1_1_ k_) ∨ w.heap.size ≤ k_) ∧ k_ ≠ gb985 ∧ k_ ≠ gb986 ∧ k_ ≠ gb987 ∧ k_ ≠ s_.2.2.2) s_.1 t990) ∧ (Kd.V (Kd.int .i64) 3 w' w.heap.size (fun k_ => ((P0_1_ k_ ∨ P1_1_ k_) ∨ w.heap.size ≤ k_) ∧ k_ ≠ gb985 ∧ k_ ≠ gb986 ∧ k_ ≠ gb987 ∧ k_ ≠ s_.2.2.2) s_.2.1 t994) ∧ (w'.heap[s_.2.2.2]? = some (.cells #[.bool false, .slice none 0 0] 64 (0, 0))) ∧ (w'.heap[gb985]? = some (.cells #[.bool a0_0, .slice A0_1 l0_1.length c0_1] 27 (0, 0))) ∧ (w'.heap[gb986]? = some (.cells #[.bool a1_0, .slice A1_1 l1_1.length c1_1] 27 (0, 0))) ∧ (w'.heap[gb987]? = some (.cells #[.bool false, .slice none 0 0] 27 (0, 0))) ∧ (w.heap.size ≤ s_.2.2.2) ∧ (w.heap.size ≤ s_.2.2.2) ∧ (gb985 ≠ s_.2.2.2) ∧ (s_.2.2.2 ≠ gb985) ∧ (gb986 ≠ s_.2.2.2) ∧ (s_.2.2.2 ≠ gb986) ∧ (gb987 ≠ s_.2.2.2) ∧ (s_.2.2.2 ≠ gb987) ∧ (Below w.heap.size w w')) ?_ ?_
        rotate_left
        · intro hJ1_3_4_6
          refine join_ (σ := Value × Value × Value) 3 #[true, true, true, true, true, false, false, false] (fun s_ => [(13, .agg #[.bool t989, s_.1]), (15, .agg #[.bool t993, s_.2.1]), (16, .agg #[.bool t997, s_.2.2])]) (fun s_ w' => (w'.cell? ⟨gb985, 0, none⟩ = some (.bool a0_0) ∧ w'.cell? ⟨gb985, 1, none⟩ = some (.slice A0_1 l0_1.length c0_1) ∧ w'.cell? ⟨gb986, 0, none⟩ = some (.bool a1_0) ∧ w'.cell? ⟨gb986, 1, none⟩ = some (.slice A1_1 l1_1.length c1_1)) ∧ (Kd.V (Kd.int .i64) 3 w' w.heap.size (fun k_ => ((P0_1_ k_ ∨ P1_1_ k_) ∨ w.heap.size ≤ k_) ∧ k_ ≠ gb985 ∧ k_ ≠ gb986 ∧ k_ ≠ gb987) (.slice A0_1 l0_1.length c0_1) l0_1) ∧ (Kd.V (Kd.int .i64) 3 w' w.heap.size (fun k_ => ((P0_1_ k_ ∨ P1_1_ k_) ∨ w.heap.size ≤ k_) ∧ k_ ≠ gb985 ∧ k_ ≠ gb986 ∧ k_ ≠ gb987) s_.2.2 t998) ∧ (Kd.V (Kd.int .i64) 3 w' w.heap.size (fun k_ => ((P0_1_ k_ ∨ P1_1_ k_) ∨ w.heap.size ≤ k_) ∧ k_ ≠ gb985 ∧ k_ ≠ gb986 ∧ k_ ≠ gb987) (.slice A1_1 l1_1.length c1_1) l1_1) ∧ (Kd.V (Kd.int .i64) 3 w' w.heap.size (fun k_ => ((P0_1_ k_ ∨ P1_1_ k_) ∨ w.heap.size ≤ k_) ∧ k_ ≠ gb985 ∧ k_ ≠ gb986 ∧ k_ ≠ gb987) s_.1 t990) ∧ (Kd.V (Kd.int .i64) 3 w' w.heap.size (fun k_ => ((P0_1_ k_ ∨ P1_1_ k_) ∨ w.heap.size ≤ k_) ∧ k_ ≠ gb985 ∧ k_ ≠ gb986 ∧ k_ ≠ gb987) s_.2.1 t994) ∧ (w'.heap[gb985]? = some (.cells #[.bool a0_0, .slice A0_1 l0_1.length c0_1] 27 (0, 0))) ∧ (w'.heap[gb986]? = some (.cells #[.bool a1_0, .slice A1_1 l1_1.length c1_1] 27 (0, 0))) ∧ (w'.heap[gb987]? = some (.cells #[.bool false, .slice none 0 0] 27 (0, 0))) ∧ (Below w.heap.size w w')) ?_ ?_
          rotate_left
          · intro hJ1_3_4
            refine join_ (σ := Value × Value × Nat) 3 #[true, true, true, true, false, false, true, false] (fun s_ => [(13, .agg #[.bool t989, s_.1]), (15, .agg #[.bool t993, s_.2.1]), (6, .pointer (some ⟨s_.2.2, 0, none⟩))]) (fun s_ w' => (w'.cell? ⟨gb985, 0, none⟩ = some (.bool a0_0) ∧ w'.cell? ⟨gb985, 1, none⟩ = some (.slice A0_1 l0_1.length c0_1) ∧ w'.cell? ⟨gb986, 0, none⟩ = some (.bool a1_0) ∧ w'.cell? ⟨gb986, 1, none⟩ = some (.slice A1_1 l1_1.length c1_1)) ∧ (Kd.V (Kd.int .i64) 3 w' w.heap.size (fun k_ => ((P0_1_ k_ ∨ P1_1_ k_) ∨ w.heap.size ≤ k_) ∧ k_ ≠ gb985 ∧ k_ ≠ gb986 ∧ k_ ≠ gb987 ∧ k_ ≠ s_.2.2) (.slice A0_1 l0_1.length c0_1) l0_1) ∧ (Kd.V (Kd.int .i64) 3 w' w.heap.size (fun k_ => ((P0_1_ k_ ∨ P1_1_ k_) ∨ w.heap.size ≤ k_) ∧ k_ ≠ gb985 ∧ k_ ≠ gb986 ∧ k_ ≠ gb987 ∧ k_ ≠ s_.2.2) (.slice A1_1 l1_1.length c1_1) l1_1) ∧ (Kd.V (Kd.int .i64) 3 w' w.heap.size (fun k_ => ((P0_1_ k_ ∨ P1_1_ k_) ∨ w.heap.size ≤ k_) ∧ k_ ≠ gb985 ∧ k_ ≠ gb986 ∧ k_ ≠ gb987 ∧ k_ ≠ s_.2.2) s_.1 t990) ∧ (Kd.V (Kd.int .i64) 3 w' w.heap.size (fun k_ => ((P0_1_ k_ ∨ P1_1_ k_) ∨ w.heap.size ≤ k_) ∧ k_ ≠ gb985 ∧ k_ ≠ gb986 ∧ k_ ≠ gb987 ∧ k_ ≠ s_.2.2) s_.2.1 t994) ∧ (w'.heap[s_.2.2]? = some (.cells #[.bool false, .slice none 0 0] 64 (0, 0))) ∧ (w'.heap[gb985]? = some (.cells #[.bool a0_0, .slice A0_1 l0_1.length c0_1] 27 (0, 0))) ∧ (w'.heap[gb986]? = some (.cells #[.bool a1_0, .slice A1_1 l1_1.length c1_1] 27 (0, 0))) ∧ (w'.heap[gb987]? = some (.cells #[.bool false, .slice none 0 0] 27 (0, 0))) ∧ (w.heap.size ≤ s_.2.2) ∧ (w.heap.size ≤ s_.2.2) ∧ (gb985 ≠ s_.2.2) ∧ (s_.2.2 ≠ gb985) ∧ (gb986 ≠ s_.2.2) ∧ (s_.2.2 ≠ gb986) ∧ (gb987 ≠ s_.2.2) ∧ (s_.2.2 ≠ gb987) ∧ (Below w.heap.size w w')) ?_ ?_
            rotate_left
            · intro hJ1_3_6
              refine join_ (σ := Value × Value) 4 #[true, true, true, true, false, false, false, false] (fun s_ => [(13, .agg #[.bool t989, s_.1]), (15, .agg #[.bool t993, s_.2])]) (fun s_ w' => (w'.cell? ⟨gb985, 0, none⟩ = some (.bool a0_0) ∧ w'.cell? ⟨gb985, 1, none⟩ = some (.slice A0_1 l0_1.length c0_1) ∧ w'.cell? ⟨gb986, 0, none⟩ = some (.bool a1_0) ∧ w'.cell? ⟨gb986, 1, none⟩ = some (.slice A1_1 l1_1.length c1_1)) ∧ (Kd.V (Kd.int .i64) 3 w' w.heap.size (fun k_ => ((P0_1_ k_ ∨ P1_1_ k_) ∨ w.heap.size ≤ k_) ∧ k_ ≠ gb985 ∧ k_ ≠ gb986 ∧ k_ ≠ gb987) (.slice A0_1 l0_1.length c0_1) l0_1) ∧ (Kd.V (Kd.int .i64) 3 w' w.heap.size (fun k_ => ((P0_1_ k_ ∨ P1_1_ k_) ∨ w.heap.size ≤ k_) ∧ k_ ≠ gb985 ∧ k_ ≠ gb986 ∧ k_ ≠ gb987) (.slice A1_1 l1_1.length c1_1) l1_1) ∧ (Kd.V (Kd.int .i64) 3 w' w.heap.size (fun k_ => ((P0_1_ k_ ∨ P1_1_ k_) ∨ w.heap.size ≤ k_) ∧ k_ ≠ gb985 ∧ k_ ≠ gb986 ∧ k_ ≠ gb987) s_.1 t990) ∧ (Kd.V (Kd.int .i64) 3 w' w.heap.size (fun k_ => ((P0_1_ k_ ∨ P1_1_ k_) ∨ w.heap.size ≤ k_) ∧ k_ ≠ gb985 ∧ k_ ≠ gb986 ∧ k_ ≠ gb987) s_.2 t994) ∧ (w'.heap[gb985]? = some (.cells #[.bool a0_0, .slice A0_1 l0_1.length c0_1] 27 (0, 0))) ∧ (w'.heap[gb986]? = some (.cells #[.bool a1_0, .slice A1_1 l1_1.length c1_1] 27 (0, 0))) ∧ (w'.heap[gb987]? = some (.cells #[.bool false, .slice none 0 0] 27 (0, 0))) ∧ (Below w.heap.size w w')) ?_ ?_
              rotate_left
              · intro hJ1_3
                refine join_ (σ := Value × Nat) 4 #[true, true, true, false, false, false, true, false] (fun s_ => [(13, .agg #[.bool t989, s_.1]), (6, .pointer (some ⟨s_.2, 0, none⟩))]) (fun s_ w' => (w'.cell? ⟨gb985, 0, none⟩ = some (.bool a0_0) ∧ w'.cell? ⟨gb985, 1, none⟩ = some (.slice A0_1 l0_1.length c0_1) ∧ w'.cell? ⟨gb986, 0, none⟩ = some (.bool a1_0) ∧ w'.cell? ⟨gb986, 1, none⟩ = some (.slice A1_1 l1_1.length c1_1)) ∧ (Kd.V (Kd.int .i64) 3 w' w.heap.size (fun k_ => ((P0_1_ k_ ∨ P1_1_ k_) ∨ w.heap.size ≤ k_) ∧ k_ ≠ gb985 ∧ k_ ≠ gb986 ∧ k_ ≠ gb987 ∧ k_ ≠ s_.2) (.slice A0_1 l0_1.length c0_1) l0_1) ∧ (Kd.V (Kd.int .i64) 3 w' w.heap.size (fun k_ => ((P0_1_ k_ ∨ P1_1_ k_) ∨ w.heap.size ≤ k_) ∧ k_ ≠ gb985 ∧ k_ ≠ gb986 ∧ k_ ≠ gb987 ∧ k_ ≠ s_.2) (.slice A1_1 l1_1.length c1_1) l1_1) ∧ (Kd.V (Kd.int .i64) 3 w' w.heap.size (fun k_ => ((P0_1_ k_ ∨ P1_1_ k_) ∨ w.heap.size ≤ k_) ∧ k_ ≠ gb985 ∧ k_ ≠ gb986 ∧ k_ ≠ gb987 ∧ k_ ≠ s_.2) s_.1 t990) ∧ (w'.heap[s_.2]? = some (.cells #[.bool false, .slice none 0 0] 64 (0, 0))) ∧ (w'.heap[gb985]? = some (.cells #[.bool a0_0, .slice A0_1 l0_1.length c0_1] 27 (0, 0))) ∧ (w'.heap[gb986]? = some (.cells #[.bool a1_0, .slice A1_1 l1_1.length c1_1] 27 (0, 0))) ∧ (w'.heap[gb987]? = some (.cells #[.bool false, .slice none 0 0] 27 (0, 0))) ∧ (w.heap.size ≤ s_.2) ∧ (w.heap.size ≤ s_.2) ∧ (gb985 ≠ s_.2) ∧ (s_.2 ≠ gb985) ∧ (gb986 ≠ s_.2) ∧ (s_.2 ≠ gb986) ∧ (gb987 ≠ s_.2) ∧ (s_.2 ≠ gb987) ∧ (Below w.heap.size w w')) ?_ ?_
                rotate_left
                · intro hJ1_6
                  refine join_ (σ := Value) 5 #[true, true, true, false, false, false, false, false] (fun s_ => [(13, .agg #[.bool t989, s_])]) (fun s_ w' => (w'.cell? ⟨gb985, 0, none⟩ = some (.bool a0_0) ∧ w'.cell? ⟨gb985, 1, none⟩ = some (.slice A0_1 l0_1.length c0_1) ∧ w'.cell? ⟨gb986, 0, none⟩ = some (.bool a1_0) ∧ w'.cell? ⟨gb986, 1, none⟩ = some (.slice A1_1 l1_1.length c1_1)) ∧ (Kd.V (Kd.int .i64) 3 w' w.heap.size (fun k_ => ((P0_1_ k_ ∨ P1_1_ k_) ∨ w.heap.size ≤ k_) ∧ k_ ≠ gb985 ∧ k_ ≠ gb986 ∧ k_ ≠ gb987) (.slice A0_1 l0_1.length c0_1) l0_1) ∧ (Kd.V (Kd.int .i64) 3 w' w.heap.size (fun k_ => ((P0_1_ k_ ∨ P1_1_ k_) ∨ w.heap.size ≤ k_) ∧ k_ ≠ gb985 ∧ k_ ≠ gb986 ∧ k_ ≠ gb987) (.slice A1_1 l1_1.length c1_1) l1_1) ∧ (Kd.V (Kd.int .i64) 3 w' w.heap.size (fun k_ => ((P0_1_ k_ ∨ P1_1_ k_) ∨ w.heap.size ≤ k_) ∧ k_ ≠ gb985 ∧ k_ ≠ gb986 ∧ k_ ≠ gb987) s_ t990) ∧ (w'.heap[gb985]? = some (.cells #[.bool a0_0, .slice A0_1 l0_1.length c0_1] 27 (0, 0))) ∧ (w'.heap[gb986]? = some (.cells #[.bool a1_0, .slice A1_1 l1_1.length c1_1] 27 (0, 0))) ∧ (w'.heap[gb987]? = some (.cells #[.bool false, .slice none 0 0] 27 (0, 0))) ∧ (Below w.heap.size w w')) ?_ ?_
                  rotate_left
                  · intro hJ1
                    refine join_ (σ := Nat) 5 #[true, false, true, false, false, false, true, false] (fun s_ => [(6, .pointer (some ⟨s_, 0, none⟩))]) (fun s_ w' => (w'.cell? ⟨gb985, 0, none⟩ = some (.bool a0_0) ∧ w'.cell? ⟨gb985, 1, none⟩ = some (.slice A0_1 l0_1.length c0_1) ∧ w'.cell? ⟨gb986, 0, none⟩ = some (.bool a1_0) ∧ w'.cell? ⟨gb986, 1, none⟩ = some (.slice A1_1 l1_1.length c1_1)) ∧ (Kd.V (Kd.int .i64) 3 w' w.heap.size (fun k_ => ((P0_1_ k_ ∨ P1_1_ k_) ∨ w.heap.size ≤ k_) ∧ k_ ≠ gb985 ∧ k_ ≠ gb986 ∧ k_ ≠ gb987 ∧ k_ ≠ s_) (.slice A0_1 l0_1.length c0_1) l0_1) ∧ (Kd.V (Kd.int .i64) 3 w' w.heap.size (fun k_ => ((P0_1_ k_ ∨ P1_1_ k_) ∨ w.heap.size ≤ k_) ∧ k_ ≠ gb985 ∧ k_ ≠ gb986 ∧ k_ ≠ gb987 ∧ k_ ≠ s_) (.slice A1_1 l1_1.length c1_1) l1_1) ∧ (w'.heap[s_]? = some (.cells #[.bool false, .slice none 0 0] 64 (0, 0))) ∧ (w'.heap[gb985]? = some (.cells #[.bool a0_0, .slice A0_1 l0_1.length c0_1] 27 (0, 0))) ∧ (w'.heap[gb986]? = some (.cells #[.bool a1_0, .slice A1_1 l1_1.length c1_1] 27 (0, 0))) ∧ (w'.heap[gb987]? = some (.cells #[.bool false, .slice none 0 0] 27 (0, 0))) ∧ (w.heap.size ≤ s_) ∧ (w.heap.size ≤ s_) ∧ (gb985 ≠ s_) ∧ (s_ ≠ gb985) ∧ (gb986 ≠ s_) ∧ (s_ ≠ gb986) ∧ (gb987 ≠ s_) ∧ (s_ ≠ gb987) ∧ (Below w.heap.size w w')) ?_ ?_
                    rotate_left
                    · intro hJ6
                      refine two_ (i := 1) (j := 6) (Ni := some 13) (Nj := some 6) #[true, true, true, false, false, false, false, false] #[true, false, true, false, false, false, true, false] rfl rfl rfl rfl (two_of HT_.out (by kernel_rfl)) (by decide) (by decide) (fun K hK => ?_) (fun K hK => ?_)
                      · skip
                        refine goes_ Try.func68 (by kernel_rfl) rfl #[.agg #[.bool a0_0, .slice A0_1 l0_1.length c0_1]] (by rfl) rfl rfl za ?_
                        with_reducible refine (impl_Big_signed.calls a0_0 (fun k_ => (((((P0_1_ k_ ∨ P1_1_ k_) ∨ w.heap.size ≤ k_) ∧ k_ ≠ gb985) ∧ k_ ≠ gb986) ∧ k_ ≠ gb987)) _ _ l0_1 t989 t990 _ ?side1 A5.out).mono ?_
                        (case side1 => exact HO0_1.out)
                        rintro e w20 ⟨v991, rfl, ho0, hb⟩
                        refine ⟨_, rfl, ?_⟩
                        have n0_ := Aside0.mk (Kd.V_below (zV HO0_1.out) hb)
                        have n1_ := Aside0.mk (Kd.V_below (zV HO1_1.out) hb)
                        have n2_ := Aside0.mk (Kd.V_lower (Kd.V_mono (ok' := fun k_ => ((P0_1_ k_ ∨ P1_1_ k_) ∨ w.heap.size ≤ k_) ∧ k_ ≠ gb985 ∧ k_ ≠ gb986 ∧ k_ ≠ gb987) ho0 (fun k_ hk_ => ⟨Or.elim hk_ (fun hs_ => hs_.1.1.1) (fun hn_ => (.inr (Nat.le_trans (below_size zb) hn_))), Or.elim hk_ (fun hs_ => hs_.1.1.2) (fun hn_ => (Kd.freshB (g := gb985) (o := .cells #[.bool a0_0, .slice A0_1 l0_1.length c0_1] 27 (0, 0)) (zk BK985.out) k_ hn_)), Or.elim hk_ (fun hs_ => hs_.1.2) (fun hn_ => (Kd.freshB (g := gb986) (o := .cells #[.bool a1_0, .slice A1_1 l1_1.length c1_1] 27 (0, 0)) (zk BK986.out) k_ hn_)), Or.elim hk_ (fun hs_ => hs_.2) (fun hn_ => (Kd.freshB (g := gb987) (o := .cells #[.bool false, .slice none 0 0] 27 (0, 0)) (zk BK987.out) k_ hn_))⟩)) (below_size zb))
                        have n3_ := Aside0.mk (blk_below (g := gb985) (o := .cells #[.bool a0_0, .slice A0_1 l0_1.length c0_1] 27 (0, 0)) (zk BK985.out) hb)
                        have n4_ := Aside0.mk (blk_below (g := gb986) (o := .cells #[.bool a1_0, .slice A1_1 l1_1.length c1_1] 27 (0, 0)) (zk BK986.out) hb)
                        have n5_ := Aside0.mk (blk_below (g := gb987) (o := .cells #[.bool false, .slice none 0 0] 27 (0, 0)) (zk BK987.out) hb)
                        have n6_ := Aside0.mk (below_step zb hb)
                        clear HO0_1
                        clear HO1_1
                        clear BK985
                        clear BK986
                        clear BK987
                        clear HB
                        have HO0_1 := n0_
                        have HO1_1 := n1_
                        have HO992 := n2_
                        have BK985 := n3_
                        have BK986 := n4_
                        have BK987 := n5_
                        have HB := n6_
                        clear n0_ n1_ n2_ n3_ n4_ n5_ n6_
                        (try clear hb)
                        (try clear hb2)
                        (try clear hk)
                        (try clear hi)
                        (try clear ho0)
                        refine hK.out _ _ ⟨(blk_cell BK985.out 0).trans rfl, (blk_cell BK985.out 1).trans rfl, (blk_cell BK986.out 0).trans rfl, (blk_cell BK986.out 1).trans rfl⟩ (fun hHeld => ?_)
                        clear hK K
                        refine norm_ (a' := ?_) ?_ ?_
                        rotate_left
                        · show Act.put _ (some 13) _ = _
                          simp only [Act.put, List.setIfInBounds_toArray, List.set_cons_zero, List.set_cons_succ, i64_w, i32_w]
                          rfl
                        exact norm_ (by first | (simp only [putAll, Act.put, List.setIfInBounds_toArray, List.set_cons_zero, List.set_cons_succ]; done) | (simp only [putAll, Act.put, List.setIfInBounds_toArray, List.set_cons_zero, List.set_cons_succ]; rfl)) (hJ1 (v991) _ ⟨hHeld, (by (with_reducible repeat (first | apply Kd.V_alloc | apply Kd.V_drewN | apply Kd.V_drew)); exact Kd.V_mono HO0_1.out (fun _ hk => ⟨hk.1.1.1, ⟨hk.1.1.2, ⟨hk.1.2, hk.2⟩⟩⟩)), (by (with_reducible repeat (first | apply Kd.V_alloc | apply Kd.V_drewN | apply Kd.V_drew)); exact Kd.V_mono HO1_1.out (fun _ hk => ⟨hk.1.1.1, ⟨hk.1.1.2, ⟨hk.1.2, hk.2⟩⟩⟩)), (zV HO992.out), (zk BK985.out), (zk BK986.out), (zk BK987.out), zb⟩)
                      · skip
                        refine box_step ?hg (N := 6) ?hd (cs := #[.bool false, .slice none 0 0]) (t := 64) ?hr ?_; (case hd => rfl); (case hg => rfl); (case hr => first | (go_simp; done) | (go_simp; rfl))
                        intro gb1005 hg w20 hbox hb
                        have n0_ := Aside0.mk (Kd.V_below (Kd.V_elderB (zV HO0_1.out) gb1005 (Nat.le_of_eq hg.symm)) hb)
                        have n1_ := Aside0.mk (Kd.V_below (Kd.V_elderB (zV HO1_1.out) gb1005 (Nat.le_of_eq hg.symm)) hb)
                        have n2_ := Aside0.mk (blk_below (g := gb985) (o := .cells #[.bool a0_0, .slice A0_1 l0_1.length c0_1] 27 (0, 0)) (zk BK985.out) hb)
                        have n3_ := Aside0.mk (blk_below (g := gb986) (o := .cells #[.bool a1_0, .slice A1_1 l1_1.length c1_1] 27 (0, 0)) (zk BK986.out) hb)
                        have n4_ := Aside0.mk (blk_below (g := gb987) (o := .cells #[.bool false, .slice none 0 0] 27 (0, 0)) (zk BK987.out) hb)
                        have n5_ := Aside0.mk (below_step zb hb)
                        have n6_ := Aside0.mk (hbox)
                        have n7_ := Aside0.mk ((by rw [hg]; exact (below_size zb) : w.heap.size ≤ gb1005))
                        have n8_ := Aside0.mk ((by rw [hg]; exact (below_size zb) : w.heap.size ≤ gb1005))
                        have n9_ := Aside0.mk ((by rw [hg]; exact Nat.ne_of_lt (blk_lt (g := gb985) (o := .cells #[.bool a0_0, .slice A0_1 l0_1.length c0_1] 27 (0, 0)) (zk BK985.out)) : gb985 ≠ gb1005))
                        have n10_ := Aside0.mk ((by rw [hg]; exact Nat.ne_of_gt (blk_lt (g := gb985) (o := .cells #[.bool a0_0, .slice A0_1 l0_1.length c0_1] 27 (0, 0)) (zk BK985.out)) : gb1005 ≠ gb985))
                        have n11_ := Aside0.mk ((by rw [hg]; exact Nat.ne_of_lt (blk_lt (g := gb986) (o := .cells #[.bool a1_0, .slice A1_1 l1_1.length c1_1] 27 (0, 0)) (zk BK986.out)) : gb986 ≠ gb1005))
                        have n12_ := Aside0.mk ((by rw [hg]; exact Nat.ne_of_gt (blk_lt (g := gb986) (o := .cells #[.bool a1_0, .slice A1_1 l1_1.length c1_1] 27 (0, 0)) (zk BK986.out)) : gb1005 ≠ gb986))
                        have n13_ := Aside0.mk ((by rw [hg]; exact Nat.ne_of_lt (blk_lt (g := gb987) (o := .cells #[.bool false, .slice none 0 0] 27 (0, 0)) (zk BK987.out)) : gb987 ≠ gb1005))
                        have n14_ := Aside0.mk ((by rw [hg]; exact Nat.ne_of_gt (blk_lt (g := gb987) (o := .cells #[.bool false, .slice none 0 0] 27 (0, 0)) (zk BK987.out)) : gb1005 ≠ gb987))
                        clear HO0_1
                        clear HO1_1
                        clear BK985
                        clear BK986
                        clear BK987
                        clear HB
                        have HO0_1 := n0_
                        have HO1_1 := n1_
                        have BK985 := n2_
                        have BK986 := n3_
                        have BK987 := n4_
                        have HB := n5_
                        have BK1005 := n6_
                        have GW1005 := n7_
                        have GE1005 := n8_
                        have NB985_1005 := n9_
                        have NB1005_985 := n10_
                        have NB986_1005 := n11_
                        have NB1005_986 := n12_
                        have NB987_1005 := n13_
                        have NB1005_987 := n14_
                        clear n0_ n1_ n2_ n3_ n4_ n5_ n6_ n7_ n8_ n9_ n10_ n11_ n12_ n13_ n14_
                        clear hb hbox hg
                        refine hK.out _ _ ⟨(blk_cell BK985.out 0).trans rfl, (blk_cell BK985.out 1).trans rfl, (blk_cell BK986.out 0).trans rfl, (blk_cell BK986.out 1).trans rfl⟩ (fun hHeld => ?_)
                        clear hK K
                        refine norm_ (a' := ?_) ?_ ?_
                        rotate_left
                        · show Act.put _ (some 6) _ = _
                          simp only [Act.put, List.setIfInBounds_toArray, List.set_cons_zero, List.set_cons_succ, i64_w, i32_w]
                          rfl
                        exact norm_ (by first | (simp only [putAll, Act.put, List.setIfInBounds_toArray, List.set_cons_zero, List.set_cons_succ]; done) | (simp only [putAll, Act.put, List.setIfInBounds_toArray, List.set_cons_zero, List.set_cons_succ]; rfl)) (hJ6 (gb1005) _ ⟨hHeld, (by (with_reducible repeat (first | apply Kd.V_alloc | apply Kd.V_drewN | apply Kd.V_drew)); exact Kd.V_mono HO0_1.out (fun _ hk => ⟨hk.1.1.1.1, ⟨hk.1.1.1.2, ⟨hk.1.1.2, ⟨hk.1.2, hk.2⟩⟩⟩⟩)), (by (with_reducible repeat (first | apply Kd.V_alloc | apply Kd.V_drewN | apply Kd.V_drew)); exact Kd.V_mono HO1_1.out (fun _ hk => ⟨hk.1.1.1.1, ⟨hk.1.1.1.2, ⟨hk.1.1.2, ⟨hk.1.2, hk.2⟩⟩⟩⟩)), (zk BK1005.out), (zk BK985.out), (zk BK986.out), (zk BK987.out), GW1005.out, GE1005.out, NB985_1005.out, NB1005_985.out, NB986_1005.out, NB1005_986.out, NB987_1005.out, NB1005_987.out, zb⟩)
                    · skip
                      rintro gb1005 w21 ⟨hS_, h0_, h1_, h2_, h3_, h4_, h5_, h6_, h7_, h8_, h9_, h10_, h11_, h12_, h13_, h14_⟩
                      have n0_ : Aside0 (Kd.V (Kd.int .i64) 3 w21 w.heap.size (fun k_ => ((P0_1_ k_ ∨ P1_1_ k_) ∨ w.heap.size ≤ k_) ∧ k_ ≠ gb985 ∧ k_ ≠ gb986 ∧ k_ ≠ gb987 ∧ k_ ≠ gb1005) (.slice A0_1 l0_1.length c0_1) l0_1) := ⟨h0_⟩
                      have n1_ : Aside0 (Kd.V (Kd.int .i64) 3 w21 w.heap.size (fun k_ => ((P0_1_ k_ ∨ P1_1_ k_) ∨ w.heap.size ≤ k_) ∧ k_ ≠ gb985 ∧ k_ ≠ gb986 ∧ k_ ≠ gb987 ∧ k_ ≠ gb1005) (.slice A1_1 l1_1.length c1_1) l1_1) := ⟨h1_⟩
                      have n2_ : Aside0 (w21.heap[gb1005]? = some (.cells #[.bool false, .slice none 0 0] 64 (0, 0))) := ⟨h2_⟩
                      have n3_ : Aside0 (w21.heap[gb985]? = some (.cells #[.bool a0_0, .slice A0_1 l0_1.length c0_1] 27 (0, 0))) := ⟨h3_⟩
                      have n4_ : Aside0 (w21.heap[gb986]? = some (.cells #[.bool a1_0, .slice A1_1 l1_1.length c1_1] 27 (0, 0))) := ⟨h4_⟩
                      have n5_ : Aside0 (w21.heap[gb987]? = some (.cells #[.bool false, .slice none 0 0] 27 (0, 0))) := ⟨h5_⟩
                      have n6_ : Aside0 (w.heap.size ≤ gb1005) := ⟨h6_⟩
                      have n7_ : Aside0 (w.heap.size ≤ gb1005) := ⟨h7_⟩
                      have n8_ : Aside0 (gb985 ≠ gb1005) := ⟨h8_⟩
                      have n9_ : Aside0 (gb1005 ≠ gb985) := ⟨h9_⟩
                      have n10_ : Aside0 (gb986 ≠ gb1005) := ⟨h10_⟩
                      have n11_ : Aside0 (gb1005 ≠ gb986) := ⟨h11_⟩
                      have n12_ : Aside0 (gb987 ≠ gb1005) := ⟨h12_⟩
                      have n13_ : Aside0 (gb1005 ≠ gb987) := ⟨h13_⟩
                      have n14_ : Aside0 (Below w.heap.size w w21) := ⟨h14_⟩
                      clear HO0_1
                      clear HO1_1
                      clear BK985
                      clear BK986
                      clear BK987
                      clear HB
                      clear h0_ h1_ h2_ h3_ h4_ h5_ h6_ h7_ h8_ h9_ h10_ h11_ h12_ h13_ h14_
                      have HO0_1 := n0_
                      have HO1_1 := n1_
                      have BK1005 := n2_
                      have BK985 := n3_
                      have BK986 := n4_
                      have BK987 := n5_
                      have GW1005 := n6_
                      have GE1005 := n7_
                      have NB985_1005 := n8_
                      have NB1005_985 := n9_
                      have NB986_1005 := n10_
                      have NB1005_986 := n11_
                      have NB987_1005 := n12_
                      have NB1005_987 := n13_
                      have HB := n14_
                      clear n0_ n1_ n2_ n3_ n4_ n5_ n6_ n7_ n8_ n9_ n10_ n11_ n12_ n13_ n14_
                      have hHeld : w21.cell? ⟨gb985, 0, none⟩ = some (.bool a0_0) ∧ w21.cell? ⟨gb985, 1, none⟩ = some (.slice A0_1 l0_1.length c0_1) ∧ w21.cell? ⟨gb986, 0, none⟩ = some (.bool a1_0) ∧ w21.cell? ⟨gb986, 1, none⟩ = some (.slice A1_1 l1_1.length c1_1) := hS_
                      refine norm_ (a' := ?_) ?_ ?_
                      rotate_left
                      · simp only [putAll, Act.put, List.setIfInBounds_toArray, List.set_cons_zero, List.set_cons_succ]
                        rfl
                      refine one_ (i := 1) (N := some 13) #[true, true, true, false, false, false, true, false] rfl rfl (one_of HT_.out (by kernel_rfl)) (by decide) (fun K hK => ?_)
                      refine goes_ Try.func68 (by kernel_rfl) rfl #[.agg #[.bool a0_0, .slice A0_1 l0_1.length c0_1]] (by rfl) rfl rfl za ?_
                      with_reducible refine (impl_Big_signed.calls a0_0 (fun k_ => (((P0_1_ k_ ∨ P1_1_ k_) ∨ w.heap.size ≤ k_) ∧ (k_ ≠ gb985 ∧ (k_ ≠ gb986 ∧ (k_ ≠ gb987 ∧ k_ ≠ gb1005))))) _ _ l0_1 t989 t990 _ ?side1 A5.out).mono ?_
                      (case side1 => exact HO0_1.out)
                      rintro e w22 ⟨v991, rfl, ho0, hb⟩
                      refine ⟨_, rfl, ?_⟩
                      have n0_ := Aside0.mk (Kd.V_below (zV HO0_1.out) hb)
                      have n1_ := Aside0.mk (Kd.V_below (zV HO1_1.out) hb)
                      have n2_ := Aside0.mk (Kd.V_lower (Kd.V_mono (ok' := fun k_ => ((P0_1_ k_ ∨ P1_1_ k_) ∨ w.heap.size ≤ k_) ∧ k_ ≠ gb985 ∧ k_ ≠ gb986 ∧ k_ ≠ gb987 ∧ k_ ≠ gb1005) ho0 (fun k_ hk_ => ⟨Or.elim hk_ (fun hs_ => hs_.1) (fun hn_ => (.inr (Nat.le_trans (below_size zb) hn_))), Or.elim hk_ (fun hs_ => hs_.2.1) (fun hn_ => (Kd.freshB (g := gb985) (o := .cells #[.bool a0_0, .slice A0_1 l0_1.length c0_1] 27 (0, 0)) (zk BK985.out) k_ hn_)), Or.elim hk_ (fun hs_ => hs_.2.2.1) (fun hn_ => (Kd.freshB (g := gb986) (o := .cells #[.bool a1_0, .slice A1_1 l1_1.length c1_1] 27 (0, 0)) (zk BK986.out) k_ hn_)), Or.elim hk_ (fun hs_ => hs_.2.2.2.1) (fun hn_ => (Kd.freshB (g := gb987) (o := .cells #[.bool false, .slice none 0 0] 27 (0, 0)) (zk BK987.out) k_ hn_)), Or.elim hk_ (fun hs_ => hs_.2.2.2.2) (fun hn_ => (Kd.freshB (g := gb1005) (o := .cells #[.bool false, .slice none 0 0] 64 (0, 0)) (zk BK1005.out) k_ hn_))⟩)) (below_size zb))
                      have n3_ := Aside0.mk (blk_below (g := gb985) (o := .cells #[.bool a0_0, .slice A0_1 l0_1.length c0_1] 27 (0, 0)) (zk BK985.out) hb)
                      have n4_ := Aside0.mk (blk_below (g := gb986) (o := .cells #[.bool a1_0, .slice A1_1 l1_1.length c1_1] 27 (0, 0)) (zk BK986.out) hb)
                      have n5_ := Aside0.mk (blk_below (g := gb987) (o := .cells #[.bool false, .slice none 0 0] 27 (0, 0)) (zk BK987.out) hb)
                      have n6_ := Aside0.mk (blk_below (g := gb1005) (o := .cells #[.bool false, .slice none 0 0] 64 (0, 0)) (zk BK1005.out) hb)
                      have n7_ := Aside0.mk (below_step zb hb)
                      clear HO0_1
                      clear HO1_1
                      clear BK985
                      clear BK986
                      clear BK987
                      clear BK1005
                      clear HB
                      have HO0_1 := n0_
                      have HO1_1 := n1_
                      have HO992 := n2_
                      have BK985 := n3_
                      have BK986 := n4_
                      have BK987 := n5_
                      have BK1005 := n6_
                      have HB := n7_
                      clear n0_ n1_ n2_ n3_ n4_ n5_ n6_ n7_
                      (try clear hb)
                      (try clear hb2)
                      (try clear hk)
                      (try clear hi)
                      (try clear ho0)
                      refine hK.out _ _ ⟨(blk_cell BK985.out 0).trans rfl, (blk_cell BK985.out 1).trans rfl, (blk_cell BK986.out 0).trans rfl, (blk_cell BK986.out 1).trans rfl⟩ (fun hHeld => ?_)
                      clear hK K
                      refine norm_ (a' := ?_) ?_ ?_
                      rotate_left
                      · show Act.put _ (some 13) _ = _
                        simp only [Act.put, List.setIfInBounds_toArray, List.set_cons_zero, List.set_cons_succ, i64_w, i32_w]
                        rfl
                      exact norm_ (by first | (simp only [putAll, Act.put, List.setIfInBounds_toArray, List.set_cons_zero, List.set_cons_succ]; done) | (simp only [putAll, Act.put, List.setIfInBounds_toArray, List.set_cons_zero, List.set_cons_succ]; rfl)) (hJ1_6 (v991, gb1005) _ ⟨hHeld, (zV HO0_1.out), (zV HO1_1.out), (zV HO992.out), (zk BK1005.out), (zk BK985.out), (zk BK986.out), (zk BK987.out), GW1005.out, GE1005.out, NB985_1005.out, NB1005_985.out, NB986_1005.out, NB1005_986.out, NB987_1005.out, NB1005_987.out, zb⟩)
                  · skip
                    rintro v991 w21 ⟨hS_, h0_, h1_, h2_, h3_, h4_, h5_, h6_⟩
                    have n0_ : Aside0 (Kd.V (Kd.int .i64) 3 w21 w.heap.size (fun k_ => ((P0_1_ k_ ∨ P1_1_ k_) ∨ w.heap.size ≤ k_) ∧ k_ ≠ gb985 ∧ k_ ≠ gb986 ∧ k_ ≠ gb987) (.slice A0_1 l0_1.length c0_1) l0_1) := ⟨h0_⟩
                    have n1_ : Aside0 (Kd.V (Kd.int .i64) 3 w21 w.heap.size (fun k_ => ((P0_1_ k_ ∨ P1_1_ k_) ∨ w.heap.size ≤ k_) ∧ k_ ≠ gb985 ∧ k_ ≠ gb986 ∧ k_ ≠ gb987) (.slice A1_1 l1_1.length c1_1) l1_1) := ⟨h1_⟩
                    have n2_ : Aside0 (Kd.V (Kd.int .i64) 3 w21 w.heap.size (fun k_ => ((P0_1_ k_ ∨ P1_1_ k_) ∨ w.heap.size ≤ k_) ∧ k_ ≠ gb985 ∧ k_ ≠ gb986 ∧ k_ ≠ gb987) v991 t990) := ⟨h2_⟩
                    have n3_ : Aside0 (w21.heap[gb985]? = some (.cells #[.bool a0_0, .slice A0_1 l0_1.length c0_1] 27 (0, 0))) := ⟨h3_⟩
                    have n4_ : Aside0 (w21.heap[gb986]? = some (.cells #[.bool a1_0, .slice A1_1 l1_1.length c1_1] 27 (0, 0))) := ⟨h4_⟩
                    have n5_ : Aside0 (w21.heap[gb987]? = some (.cells #[.bool false, .slice none 0 0] 27 (0, 0))) := ⟨h5_⟩
                    have n6_ : Aside0 (Below w.heap.size w w21) := ⟨h6_⟩
                    clear HO0_1
                    clear HO1_1
                    clear BK985
                    clear BK986
                    clear BK987
                    clear HB
                    clear h0_ h1_ h2_ h3_ h4_ h5_ h6_
                    have HO0_1 := n0_
                    have HO1_1 := n1_
                    have HO992 := n2_
                    have BK985 := n3_
                    have BK986 := n4_
                    have BK987 := n5_
                    have HB := n6_
                    clear n0_ n1_ n2_ n3_ n4_ n5_ n6_
                    have hHeld : w21.cell? ⟨gb985, 0, none⟩ = some (.bool a0_0) ∧ w21.cell? ⟨gb985, 1, none⟩ = some (.slice A0_1 l0_1.length c0_1) ∧ w21.cell? ⟨gb986, 0, none⟩ = some (.bool a1_0) ∧ w21.cell? ⟨gb986, 1, none⟩ = some (.slice A1_1 l1_1.length c1_1) := hS_
                    refine norm_ (a' := ?_) ?_ ?_
                    rotate_left
                    · simp only [putAll, Act.put, List.setIfInBounds_toArray, List.set_cons_zero, List.set_cons_succ]
                      rfl
                    refine two_ (i := 3) (j := 6) (Ni := some 15) (Nj := some 6) #[true, true, true, true, false, false, false, false] #[true, true, true, false, false, false, true, false] rfl rfl rfl rfl (two_of HT_.out (by kernel_rfl)) (by decide) (by decide) (fun K hK => ?_) (fun K hK => ?_)
                    · skip
                      refine goes_ Try.func68 (by kernel_rfl) rfl #[.agg #[.bool a1_0, .slice A1_1 l1_1.length c1_1]] (by rfl) rfl rfl za ?_
                      with_reducible refine (impl_Big_signed.calls a1_0 (fun k_ => (((P0_1_ k_ ∨ P1_1_ k_) ∨ w.heap.size ≤ k_) ∧ (k_ ≠ gb985 ∧ (k_ ≠ gb986 ∧ k_ ≠ gb987)))) _ _ l1_1 t993 t994 _ ?side1 A6.out).mono ?_
                      (case side1 => exact HO1_1.out)
                      rintro e w22 ⟨v995, rfl, ho0, hb⟩
                      refine ⟨_, rfl, ?_⟩
                      have n0_ := Aside0.mk (Kd.V_below (zV HO0_1.out) hb)
                      have n1_ := Aside0.mk (Kd.V_below (zV HO1_1.out) hb)
                      have n2_ := Aside0.mk (Kd.V_below (zV HO992.out) hb)
                      have n3_ := Aside0.mk (Kd.V_lower (Kd.V_mono (ok' := fun k_ => ((P0_1_ k_ ∨ P1_1_ k_) ∨ w.heap.size ≤ k_) ∧ k_ ≠ gb985 ∧ k_ ≠ gb986 ∧ k_ ≠ gb987) ho0 (fun k_ hk_ => ⟨Or.elim hk_ (fun hs_ => hs_.1) (fun hn_ => (.inr (Nat.le_trans (below_size zb) hn_))), Or.elim hk_ (fun hs_ => hs_.2.1) (fun hn_ => (Kd.freshB (g := gb985) (o := .cells #[.bool a0_0, .slice A0_1 l0_1.length c0_1] 27 (0, 0)) (zk BK985.out) k_ hn_)), Or.elim hk_ (fun hs_ => hs_.2.2.1) (fun hn_ => (Kd.freshB (g := gb986) (o := .cells #[.bool a1_0, .slice A1_1 l1_1.length c1_1] 27 (0, 0)) (zk BK986.out) k_ hn_)), Or.elim hk_ (fun hs_ => hs_.2.2.2) (fun hn_ => (Kd.freshB (g := gb987) (o := .cells #[.bool false, .slice none 0 0] 27 (0, 0)) (zk BK987.out) k_ hn_))⟩)) (below_size zb))
                      have n4_ := Aside0.mk (blk_below (g := gb985) (o := .cells #[.bool a0_0, .slice A0_1 l0_1.length c0_1] 27 (0, 0)) (zk BK985.out) hb)
                      have n5_ := Aside0.mk (blk_below (g := gb986) (o := .cells #[.bool a1_0, .slice A1_1 l1_1.length c1_1] 27 (0, 0)) (zk BK986.out) hb)
                      have n6_ := Aside0.mk (blk_below (g := gb987) (o := .cells #[.bool false, .slice none 0 0] 27 (0, 0)) (zk BK987.out) hb)
                      have n7_ := Aside0.mk (below_step zb hb)
                      clear HO0_1
                      clear HO1_1
                      clear HO992
                      clear BK985
                      clear BK986
                      clear BK987
                      clear HB
                      have HO0_1 := n0_
                      have HO1_1 := n1_
                      have HO992 := n2_
                      have HO996 := n3_
                      have BK985 := n4_
                      have BK986 := n5_
                      have BK987 := n6_
                      have HB := n7_
                      clear n0_ n1_ n2_ n3_ n4_ n5_ n6_ n7_
                      (try clear hb)
                      (try clear hb2)
                      (try clear hk)
                      (try clear hi)
                      (try clear ho0)
                      refine hK.out _ _ ⟨(blk_cell BK985.out 0).trans rfl, (blk_cell BK985.out 1).trans rfl, (blk_cell BK986.out 0).trans rfl, (blk_cell BK986.out 1).trans rfl⟩ (fun hHeld => ?_)
                      clear hK K
                      refine norm_ (a' := ?_) ?_ ?_
                      rotate_left
                      · show Act.put _ (some 15) _ = _
                        simp only [Act.put, List.setIfInBounds_toArray, List.set_cons_zero, List.set_cons_succ, i64_w, i32_w]
                        rfl
                      exact norm_ (by first | (simp only [putAll, Act.put, List.setIfInBounds_toArray, List.set_cons_zero, List.set_cons_succ]; done) | (simp only [putAll, Act.put, List.setIfInBounds_toArray, List.set_cons_zero, List.set_cons_succ]; rfl)) (hJ1_3 (v991, v995) _ ⟨hHeld, (zV HO0_1.out), (zV HO1_1.out), (zV HO992.out), (zV HO996.out), (zk BK985.out), (zk BK986.out), (zk BK987.out), zb⟩)
                    · skip
                      refine box_step ?hg (N := 6) ?hd (cs := #[.bool false, .slice none 0 0]) (t := 64) ?hr ?_; (case hd => rfl); (case hg => rfl); (case hr => first | (go_simp; done) | (go_simp; rfl))
                      intro gb1005 hg w22 hbox hb
                      have n0_ := Aside0.mk (Kd.V_below (Kd.V_elderB (zV HO0_1.out) gb1005 (Nat.le_of_eq hg.symm)) hb)
                      have n1_ := Aside0.mk (Kd.V_below (Kd.V_elderB (zV HO1_1.out) gb1005 (Nat.le_of_eq hg.symm)) hb)
                      have n2_ := Aside0.mk (Kd.V_below (Kd.V_elderB (zV HO992.out) gb1005 (Nat.le_of_eq hg.symm)) hb)
                      have n3_ := Aside0.mk (blk_below (g := gb985) (o := .cells #[.bool a0_0, .slice A0_1 l0_1.length c0_1] 27 (0, 0)) (zk BK985.out) hb)
                      have n4_ := Aside0.mk (blk_below (g := gb986) (o := .cells #[.bool a1_0, .slice A1_1 l1_1.length c1_1] 27 (0, 0)) (zk BK986.out) hb)
                      have n5_ := Aside0.mk (blk_below (g := gb987) (o := .cells #[.bool false, .slice none 0 0] 27 (0, 0)) (zk BK987.out) hb)
                      have n6_ := Aside0.mk (below_step zb hb)
                      have n7_ := Aside0.mk (hbox)
                      have n8_ := Aside0.mk ((by rw [hg]; exact (below_size zb) : w.heap.size ≤ gb1005))
                      have n9_ := Aside0.mk ((by rw [hg]; exact (below_size zb) : w.heap.size ≤ gb1005))
                      have n10_ := Aside0.mk ((by rw [hg]; exact Nat.ne_of_lt (blk_lt (g := gb985) (o := .cells #[.bool a0_0, .slice A0_1 l0_1.length c0_1] 27 (0, 0)) (zk BK985.out)) : gb985 ≠ gb1005))
                      have n11_ := Aside0.mk ((by rw [hg]; exact Nat.ne_of_gt (blk_lt (g := gb985) (o := .cells #[.bool a0_0, .slice A0_1 l0_1.length c0_1] 27 (0, 0)) (zk BK985.out)) : gb1005 ≠ gb985))
                      have n12_ := Aside0.mk ((by rw [hg]; exact Nat.ne_of_lt (blk_lt (g := gb986) (o := .cells #[.bool a1_0, .slice A1_1 l1_1.length c1_1] 27 (0, 0)) (zk BK986.out)) : gb986 ≠ gb1005))
                      have n13_ := Aside0.mk ((by rw [hg]; exact Nat.ne_of_gt (blk_lt (g := gb986) (o := .cells #[.bool a1_0, .slice A1_1 l1_1.length c1_1] 27 (0, 0)) (zk BK986.out)) : gb1005 ≠ gb986))
                      have n14_ := Aside0.mk ((by rw [hg]; exact Nat.ne_of_lt (blk_lt (g := gb987) (o := .cells #[.bool false, .slice none 0 0] 27 (0, 0)) (zk BK987.out)) : gb987 ≠ gb1005))
                      have n15_ := Aside0.mk ((by rw [hg]; exact Nat.ne_of_gt (blk_lt (g := gb987) (o := .cells #[.bool false, .slice none 0 0] 27 (0, 0)) (zk BK987.out)) : gb1005 ≠ gb987))
                      clear HO0_1
                      clear HO1_1
                      clear HO992
                      clear BK985
                      clear BK986
                      clear BK987
                      clear HB
                      have HO0_1 := n0_
                      have HO1_1 := n1_
                      have HO992 := n2_
                      have BK985 := n3_
                      have BK986 := n4_
                      have BK987 := n5_
                      have HB := n6_
                      have BK1005 := n7_
                      have GW1005 := n8_
                      have GE1005 := n9_
                      have NB985_1005 := n10_
                      have NB1005_985 := n11_
                      have NB986_1005 := n12_
                      have NB1005_986 := n13_
                      have NB987_1005 := n14_
                      have NB1005_987 := n15_
                      clear n0_ n1_ n2_ n3_ n4_ n5_ n6_ n7_ n8_ n9_ n10_ n11_ n12_ n13_ n14_ n15_
                      clear hb hbox hg
                      refine hK.out _ _ ⟨(blk_cell BK985.out 0).trans rfl, (blk_cell BK985.out 1).trans rfl, (blk_cell BK986.out 0).trans rfl, (blk_cell BK986.out 1).trans rfl⟩ (fun hHeld => ?_)
                      clear hK K
                      refine norm_ (a' := ?_) ?_ ?_
                      rotate_left
                      · show Act.put _ (some 6) _ = _
                        simp only [Act.put, List.setIfInBounds_toArray, List.set_cons_zero, List.set_cons_succ, i64_w, i32_w]
                        rfl
                      exact norm_ (by first | (simp only [putAll, Act.put, List.setIfInBounds_toArray, List.set_cons_zero, List.set_cons_succ]; done) | (simp only [putAll, Act.put, List.setIfInBounds_toArray, List.set_cons_zero, List.set_cons_succ]; rfl)) (hJ1_6 (v991, gb1005) _ ⟨hHeld, (by (with_reducible repeat (first | apply Kd.V_alloc | apply Kd.V_drewN | apply Kd.V_drew)); exact Kd.V_mono HO0_1.out (fun _ hk => ⟨hk.1.1, ⟨hk.1.2.1, ⟨hk.1.2.2.1, ⟨hk.1.2.2.2, hk.2⟩⟩⟩⟩)), (by (with_reducible repeat (first | apply Kd.V_alloc | apply Kd.V_drewN | apply Kd.V_drew)); exact Kd.V_mono HO1_1.out (fun _ hk => ⟨hk.1.1, ⟨hk.1.2.1, ⟨hk.1.2.2.1, ⟨hk.1.2.2.2, hk.2⟩⟩⟩⟩)), (by (with_reducible repeat (first | apply Kd.V_alloc | apply Kd.V_drewN | apply Kd.V_drew)); exact Kd.V_mono HO992.out (fun _ hk => ⟨hk.1.1, ⟨hk.1.2.1, ⟨hk.1.2.2.1, ⟨hk.1.2.2.2, hk.2⟩⟩⟩⟩)), (zk BK1005.out), (zk BK985.out), (zk BK986.out), (zk BK987.out), GW1005.out, GE1005.out, NB985_1005.out, NB1005_985.out, NB986_1005.out, NB1005_986.out, NB987_1005.out, NB1005_987.out, zb⟩)
                · skip
                  rintro ⟨v991, gb1005⟩ w22 ⟨hS_, h0_, h1_, h2_, h3_, h4_, h5_, h6_, h7_, h8_, h9_, h10_, h11_, h12_, h13_, h14_, h15_⟩
                  have n0_ : Aside0 (Kd.V (Kd.int .i64) 3 w22 w.heap.size (fun k_ => ((P0_1_ k_ ∨ P1_1_ k_) ∨ w.heap.size ≤ k_) ∧ k_ ≠ gb985 ∧ k_ ≠ gb986 ∧ k_ ≠ gb987 ∧ k_ ≠ gb1005) (.slice A0_1 l0_1.length c0_1) l0_1) := ⟨h0_⟩
                  have n1_ : Aside0 (Kd.V (Kd.int .i64) 3 w22 w.heap.size (fun k_ => ((P0_1_ k_ ∨ P1_1_ k_) ∨ w.heap.size ≤ k_) ∧ k_ ≠ gb985 ∧ k_ ≠ gb986 ∧ k_ ≠ gb987 ∧ k_ ≠ gb1005) (.slice A1_1 l1_1.length c1_1) l1_1) := ⟨h1_⟩
                  have n2_ : Aside0 (Kd.V (Kd.int .i64) 3 w22 w.heap.size (fun k_ => ((P0_1_ k_ ∨ P1_1_ k_) ∨ w.heap.size ≤ k_) ∧ k_ ≠ gb985 ∧ k_ ≠ gb986 ∧ k_ ≠ gb987 ∧ k_ ≠ gb1005) v991 t990) := ⟨h2_⟩
                  have n3_ : Aside0 (w22.heap[gb1005]? = some (.cells #[.bool false, .slice none 0 0] 64 (0, 0))) := ⟨h3_⟩
                  have n4_ : Aside0 (w22.heap[gb985]? = some (.cells #[.bool a0_0, .slice A0_1 l0_1.length c0_1] 27 (0, 0))) := ⟨h4_⟩
                  have n5_ : Aside0 (w22.heap[gb986]? = some (.cells #[.bool a1_0, .slice A1_1 l1_1.length c1_1] 27 (0, 0))) := ⟨h5_⟩
                  have n6_ : Aside0 (w22.heap[gb987]? = some (.cells #[.bool false, .slice none 0 0] 27 (0, 0))) := ⟨h6_⟩
                  have n7_ : Aside0 (w.heap.size ≤ gb1005) := ⟨h7_⟩
                  have n8_ : Aside0 (w.heap.size ≤ gb1005) := ⟨h8_⟩
                  have n9_ : Aside0 (gb985 ≠ gb1005) := ⟨h9_⟩
                  have n10_ : Aside0 (gb1005 ≠ gb985) := ⟨h10_⟩
                  have n11_ : Aside0 (gb986 ≠ gb1005) := ⟨h11_⟩
                  have n12_ : Aside0 (gb1005 ≠ gb986) := ⟨h12_⟩
                  have n13_ : Aside0 (gb987 ≠ gb1005) := ⟨h13_⟩
                  have n14_ : Aside0 (gb1005 ≠ gb987) := ⟨h14_⟩
                  have n15_ : Aside0 (Below w.heap.size w w22) := ⟨h15_⟩
                  clear HO0_1
                  clear HO1_1
                  clear BK985
                  clear BK986
                  clear BK987
                  clear HB
                  clear h0_ h1_ h2_ h3_ h4_ h5_ h6_ h7_ h8_ h9_ h10_ h11_ h12_ h13_ h14_ h15_
                  have HO0_1 := n0_
                  have HO1_1 := n1_
                  have HO992 := n2_
                  have BK1005 := n3_
                  have BK985 := n4_
                  have BK986 := n5_
                  have BK987 := n6_
                  have GW1005 := n7_
                  have GE1005 := n8_
                  have NB985_1005 := n9_
                  have NB1005_985 := n10_
                  have NB986_1005 := n11_
                  have NB1005_986 := n12_
                  have NB987_1005 := n13_
                  have NB1005_987 := n14_
                  have HB := n15_
                  clear n0_ n1_ n2_ n3_ n4_ n5_ n6_ n7_ n8_ n9_ n10_ n11_ n12_ n13_ n14_ n15_
                  have hHeld : w22.cell? ⟨gb985, 0, none⟩ = some (.bool a0_0) ∧ w22.cell? ⟨gb985, 1, none⟩ = some (.slice A0_1 l0_1.length c0_1) ∧ w22.cell? ⟨gb986, 0, none⟩ = some (.bool a1_0) ∧ w22.cell? ⟨gb986, 1, none⟩ = some (.slice A1_1 l1_1.length c1_1) := hS_
                  refine norm_ (a' := ?_) ?_ ?_
                  rotate_left
                  · simp only [putAll, Act.put, List.setIfInBounds_toArray, List.set_cons_zero, List.set_cons_succ]
                    rfl
                  refine one_ (i := 3) (N := some 15) #[true, true, true, true, false, false, true, false] rfl rfl (one_of HT_.out (by kernel_rfl)) (by decide) (fun K hK => ?_)
                  refine goes_ Try.func68 (by kernel_rfl) rfl #[.agg #[.bool a1_0, .slice A1_1 l1_1.length c1_1]] (by rfl) rfl rfl za ?_
                  with_reducible refine (impl_Big_signed.calls a1_0 (fun k_ => (((P0_1_ k_ ∨ P1_1_ k_) ∨ w.heap.size ≤ k_) ∧ (k_ ≠ gb985 ∧ (k_ ≠ gb986 ∧ (k_ ≠ gb987 ∧ k_ ≠ gb1005))))) _ _ l1_1 t993 t994 _ ?side1 A6.out).mono ?_
                  (case side1 => exact HO1_1.out)
                  rintro e w23 ⟨v995, rfl, ho0, hb⟩
                  refine ⟨_, rfl, ?_⟩
                  have n0_ := Aside0.mk (Kd.V_below (zV HO0_1.out) hb)
                  have n1_ := Aside0.mk (Kd.V_below (zV HO1_1.out) hb)
                  have n2_ := Aside0.mk (Kd.V_below (zV HO992.out) hb)
                  have n3_ := Aside0.mk (Kd.V_lower (Kd.V_mono (ok' := fun k_ => ((P0_1_ k_ ∨ P1_1_ k_) ∨ w.heap.size ≤ k_) ∧ k_ ≠ gb985 ∧ k_ ≠ gb986 ∧ k_ ≠ gb987 ∧ k_ ≠ gb1005) ho0 (fun k_ hk_ => ⟨Or.elim hk_ (fun hs_ => hs_.1) (fun hn_ => (.inr (Nat.le_trans (below_size zb) hn_))), Or.elim hk_ (fun hs_ => hs_.2.1) (fun hn_ => (Kd.freshB (g := gb985) (o := .cells #[.bool a0_0, .slice A0_1 l0_1.length c0_1] 27 (0, 0)) (zk BK985.out) k_ hn_)), Or.elim hk_ (fun hs_ => hs_.2.2.1) (fun hn_ => (Kd.freshB (g := gb986) (o := .cells #[.bool a1_0, .slice A1_1 l1_1.length c1_1] 27 (0, 0)) (zk BK986.out) k_ hn_)), Or.elim hk_ (fun hs_ => hs_.2.2.2.1) (fun hn_ => (Kd.freshB (g := gb987) (o := .cells #[.bool false, .slice none 0 0] 27 (0, 0)) (zk BK987.out) k_ hn_)), Or.elim hk_ (fun hs_ => hs_.2.2.2.2) (fun hn_ => (Kd.freshB (g := gb1005) (o := .cells #[.bool false, .slice none 0 0] 64 (0, 0)) (zk BK1005.out) k_ hn_))⟩)) (below_size zb))
                  have n4_ := Aside0.mk (blk_below (g := gb985) (o := .cells #[.bool a0_0, .slice A0_1 l0_1.length c0_1] 27 (0, 0)) (zk BK985.out) hb)
                  have n5_ := Aside0.mk (blk_below (g := gb986) (o := .cells #[.bool a1_0, .slice A1_1 l1_1.length c1_1] 27 (0, 0)) (zk BK986.out) hb)
                  have n6_ := Aside0.mk (blk_below (g := gb987) (o := .cells #[.bool false, .slice none 0 0] 27 (0, 0)) (zk BK987.out) hb)
                  have n7_ := Aside0.mk (blk_below (g := gb1005) (o := .cells #[.bool false, .slice none 0 0] 64 (0, 0)) (zk BK1005.out) hb)
                  have n8_ := Aside0.mk (below_step zb hb)
                  clear HO0_1
                  clear HO1_1
                  clear HO992
                  clear BK985
                  clear BK986
                  clear BK987
                  clear BK1005
                  clear HB
                  have HO0_1 := n0_
                  have HO1_1 := n1_
                  have HO992 := n2_
                  have HO996 := n3_
                  have BK985 := n4_
                  have BK986 := n5_
                  have BK987 := n6_
                  have BK1005 := n7_
                  have HB := n8_
                  clear n0_ n1_ n2_ n3_ n4_ n5_ n6_ n7_ n8_
                  (try clear hb)
                  (try clear hb2)
                  (try clear hk)
                  (try clear hi)
                  (try clear ho0)
                  refine hK.out _ _ ⟨(blk_cell BK985.out 0).trans rfl, (blk_cell BK985.out 1).trans rfl, (blk_cell BK986.out 0).trans rfl, (blk_cell BK986.out 1).trans rfl⟩ (fun hHeld => ?_)
                  clear hK K
                  refine norm_ (a' := ?_) ?_ ?_
                  rotate_left
                  · show Act.put _ (some 15) _ = _
                    simp only [Act.put, List.setIfInBounds_toArray, List.set_cons_zero, List.set_cons_succ, i64_w, i32_w]
                    rfl
                  exact norm_ (by first | (simp only [putAll, Act.put, List.setIfInBounds_toArray, List.set_cons_zero, List.set_cons_succ]; done) | (simp only [putAll, Act.put, List.setIfInBounds_toArray, List.set_cons_zero, List.set_cons_succ]; rfl)) (hJ1_3_6 (v991, v995, gb1005) _ ⟨hHeld, (zV HO0_1.out), (zV HO1_1.out), (zV HO992.out), (zV HO996.out), (zk BK1005.out), (zk BK985.out), (zk BK986.out), (zk BK987.out), GW1005.out, GE1005.out, NB985_1005.out, NB1005_985.out, NB986_1005.out, NB1005_986.out, NB987_1005.out, NB1005_987.out, zb⟩)
              · skip
                rintro ⟨v991, v995⟩ w22 ⟨hS_, h0_, h1_, h2_, h3_, h4_, h5_, h6_, h7_⟩
                have n0_ : Aside0 (Kd.V (Kd.int .i64) 3 w22 w.heap.size (fun k_ => ((P0_1_ k_ ∨ P1_1_ k_) ∨ w.heap.size ≤ k_) ∧ k_ ≠ gb985 ∧ k_ ≠ gb986 ∧ k_ ≠ gb987) (.slice A0_1 l0_1.length c0_1) l0_1) := ⟨h0_⟩
                have n1_ : Aside0 (Kd.V (Kd.int .i64) 3 w22 w.heap.size (fun k_ => ((P0_1_ k_ ∨ P1_1_ k_) ∨ w.heap.size ≤ k_) ∧ k_ ≠ gb985 ∧ k_ ≠ gb986 ∧ k_ ≠ gb987) (.slice A1_1 l1_1.length c1_1) l1_1) := ⟨h1_⟩
                have n2_ : Aside0 (Kd.V (Kd.int .i64) 3 w22 w.heap.size (fun k_ => ((P0_1_ k_ ∨ P1_1_ k_) ∨ w.heap.size ≤ k_) ∧ k_ ≠ gb985 ∧ k_ ≠ gb986 ∧ k_ ≠ gb987) v991 t990) := ⟨h2_⟩
                have n3_ : Aside0 (Kd.V (Kd.int .i64) 3 w22 w.heap.size (fun k_ => ((P0_1_ k_ ∨ P1_1_ k_) ∨ w.heap.size ≤ k_) ∧ k_ ≠ gb985 ∧ k_ ≠ gb986 ∧ k_ ≠ gb987) v995 t994) := ⟨h3_⟩
                have n4_ : Aside0 (w22.heap[gb985]? = some (.cells #[.bool a0_0, .slice A0_1 l0_1.length c0_1] 27 (0, 0))) := ⟨h4_⟩
                have n5_ : Aside0 (w22.heap[gb986]? = some (.cells #[.bool a1_0, .slice A1_1 l1_1.length c1_1] 27 (0, 0))) := ⟨h5_⟩
                have n6_ : Aside0 (w22.heap[gb987]? = some (.cells #[.bool false, .slice none 0 0] 27 (0, 0))) := ⟨h6_⟩
                have n7_ : Aside0 (Below w.heap.size w w22) := ⟨h7_⟩
                clear HO0_1
                clear HO1_1
                clear BK985
                clear BK986
                clear BK987
                clear HB
                clear h0_ h1_ h2_ h3_ h4_ h5_ h6_ h7_
                have HO0_1 := n0_
                have HO1_1 := n1_
                have HO992 := n2_
                have HO996 := n3_
                have BK985 := n4_
                have BK986 := n5_
                have BK987 := n6_
                have HB := n7_
                clear n0_ n1_ n2_ n3_ n4_ n5_ n6_ n7_
                have hHeld : w22.cell? ⟨gb985, 0, none⟩ = some (.bool a0_0) ∧ w22.cell? ⟨gb985, 1, none⟩ = some (.slice A0_1 l0_1.length c0_1) ∧ w22.cell? ⟨gb986, 0, none⟩ = some (.bool a1_0) ∧ w22.cell? ⟨gb986, 1, none⟩ = some (.slice A1_1 l1_1.length c1_1) := hS_
                obtain ⟨Ao23, co23, eo23⟩ := Kd.V_slice HO996.out
                (first | subst eo23 | (injection eo23 with f1_ f2_ f3_; have f4_ := f1_.symm; have f5_ := f3_.symm; clear f1_ f2_ f3_; subst f4_; subst f5_))
                refine norm_ (a' := ?_) ?_ ?_
                rotate_left
                · simp only [putAll, Act.put, List.setIfInBounds_toArray, List.set_cons_zero, List.set_cons_succ]
                  rfl
                refine two_ (i := 4) (j := 6) (Ni := some 16) (Nj := some 6) #[true, true, true, true, true, false, false, false] #[true, true, true, true, false, false, true, false] rfl rfl rfl rfl (two_of HT_.out (by kernel_rfl)) (by decide) (by decide) (fun K hK => ?_) (fun K hK => ?_)
                · skip
                  refine goes_ Try.func72 (by kernel_rfl) rfl #[.agg #[.bool t993, .slice Ao23 t994.length co23]] (by rfl) rfl rfl za ?_
                  with_reducible refine (impl_signed_minus.calls t993 (fun k_ => (((P0_1_ k_ ∨ P1_1_ k_) ∨ w.heap.size ≤ k_) ∧ (k_ ≠ gb985 ∧ (k_ ≠ gb986 ∧ k_ ≠ gb987)))) _ _ t994 t997 t998 _ ?side1 A7.out).mono ?_
                  (case side1 => exact HO996.out)
                  rintro e w24 ⟨v999, rfl, ho0, hb⟩
                  refine ⟨_, rfl, ?_⟩
                  have n0_ := Aside0.mk (Kd.V_below (zV HO0_1.out) hb)
                  have n1_ := Aside0.mk (Kd.V_below (zV HO1_1.out) hb)
                  have n2_ := Aside0.mk (Kd.V_below (zV HO992.out) hb)
                  have n3_ := Aside0.mk (Kd.V_below (zV HO996.out) hb)
                  have n4_ := Aside0.mk (Kd.V_lower (Kd.V_mono (ok' := fun k_ => ((P0_1_ k_ ∨ P1_1_ k_) ∨ w.heap.size ≤ k_) ∧ k_ ≠ gb985 ∧ k_ ≠ gb986 ∧ k_ ≠ gb987) ho0 (fun k_ hk_ => ⟨Or.elim hk_ (fun hs_ => hs_.1) (fun hn_ => (.inr (Nat.le_trans (below_size zb) hn_))), Or.elim hk_ (fun hs_ => hs_.2.1) (fun hn_ => (Kd.freshB (g := gb985) (o := .cells #[.bool a0_0, .slice A0_1 l0_1.length c0_1] 27 (0, 0)) (zk BK985.out) k_ hn_)), Or.elim hk_ (fun hs_ => hs_.2.2.1) (fun hn_ => (Kd.freshB (g := gb986) (o := .cells #[.bool a1_0, .slice A1_1 l1_1.length c1_1] 27 (0, 0)) (zk BK986.out) k_ hn_)), Or.elim hk_ (fun hs_ => hs_.2.2.2) (fun hn_ => (Kd.freshB (g := gb987) (o := .cells #[.bool false, .slice none 0 0] 27 (0, 0)) (zk BK987.out) k_ hn_))⟩)) (below_size zb))
                  have n5_ := Aside0.mk (blk_below (g := gb985) (o := .cells #[.bool a0_0, .slice A0_1 l0_1.length c0_1] 27 (0, 0)) (zk BK985.out) hb)
                  have n6_ := Aside0.mk (blk_below (g := gb986) (o := .cells #[.bool a1_0, .slice A1_1 l1_1.length c1_1] 27 (0, 0)) (zk BK986.out) hb)
                  have n7_ := Aside0.mk (blk_below (g := gb987) (o := .cells #[.bool false, .slice none 0 0] 27 (0, 0)) (zk BK987.out) hb)
                  have n8_ := Aside0.mk (below_step zb hb)
                  clear HO0_1
                  clear HO1_1
                  clear HO992
                  clear HO996
                  clear BK985
                  clear BK986
                  clear BK987
                  clear HB
                  have HO0_1 := n0_
                  have HO1_1 := n1_
                  have HO992 := n2_
                  have HO996 := n3_
                  have HO1000 := n4_
                  have BK985 := n5_
                  have BK986 := n6_
                  have BK987 := n7_
                  have HB := n8_
                  clear n0_ n1_ n2_ n3_ n4_ n5_ n6_ n7_ n8_
                  (try clear hb)
                  (try clear hb2)
                  (try clear hk)
                  (try clear hi)
                  (try clear ho0)
                  refine hK.out _ _ ⟨(blk_cell BK985.out 0).trans rfl, (blk_cell BK985.out 1).trans rfl, (blk_cell BK986.out 0).trans rfl, (blk_cell BK986.out 1).trans rfl⟩ (fun hHeld => ?_)
                  clear hK K
                  refine norm_ (a' := ?_) ?_ ?_
                  rotate_left
                  · show Act.put _ (some 16) _ = _
                    simp only [Act.put, List.setIfInBounds_toArray, List.set_cons_zero, List.set_cons_succ, i64_w, i32_w]
                    rfl
                  exact norm_ (by first | (simp only [putAll, Act.put, List.setIfInBounds_toArray, List.set_cons_zero, List.set_cons_succ]; done) | (simp only [putAll, Act.put, List.setIfInBounds_toArray, List.set_cons_zero, List.set_cons_succ]; rfl)) (hJ1_3_4 (v991, .slice Ao23 t994.length co23, v999) _ ⟨hHeld, (zV HO0_1.out), (zV HO1000.out), (zV HO1_1.out), (zV HO992.out), (zV HO996.out), (zk BK985.out), (zk BK986.out), (zk BK987.out), zb⟩)
                · skip
                  refine box_step ?hg (N := 6) ?hd (cs := #[.bool false, .slice none 0 0]) (t := 64) ?hr ?_; (case hd => rfl); (case hg => rfl); (case hr => first | (go_simp; done) | (go_simp; rfl))
                  intro gb1005 hg w23 hbox hb
                  have n0_ := Aside0.mk (Kd.V_below (Kd.V_elderB (zV HO0_1.out) gb1005 (Nat.le_of_eq hg.symm)) hb)
                  have n1_ := Aside0.mk (Kd.V_below (Kd.V_elderB (zV HO1_1.out) gb1005 (Nat.le_of_eq hg.symm)) hb)
                  have n2_ := Aside0.mk (Kd.V_below (Kd.V_elderB (zV HO992.out) gb1005 (Nat.le_of_eq hg.symm)) hb)
                  have n3_ := Aside0.mk (Kd.V_below (Kd.V_elderB (zV HO996.out) gb1005 (Nat.le_of_eq hg.symm)) hb)
                  have n4_ := Aside0.mk (blk_below (g := gb985) (o := .cells #[.bool a0_0, .slice A0_1 l0_1.length c0_1] 27 (0, 0)) (zk BK985.out) hb)
                  have n5_ := Aside0.mk (blk_below (g := gb986) (o := .cells #[.bool a1_0, .slice A1_1 l1_1.length c1_1] 27 (0, 0)) (zk BK986.out) hb)
                  have n6_ := Aside0.mk (blk_below (g := gb987) (o := .cells #[.bool false, .slice none 0 0] 27 (0, 0)) (zk BK987.out) hb)
                  have n7_ := Aside0.mk (below_step zb hb)
                  have n8_ := Aside0.mk (hbox)
                  have n9_ := Aside0.mk ((by rw [hg]; exact (below_size zb) : w.heap.size ≤ gb1005))
                  have n10_ := Aside0.mk ((by rw [hg]; exact (below_size zb) : w.heap.size ≤ gb1005))
                  have n11_ := Aside0.mk ((by rw [hg]; exact Nat.ne_of_lt (blk_lt (g := gb985) (o := .cells #[.bool a0_0, .slice A0_1 l0_1.length c0_1] 27 (0, 0)) (zk BK985.out)) : gb985 ≠ gb1005))
                  have n12_ := Aside0.mk ((by rw [hg]; exact Nat.ne_of_gt (blk_lt (g := gb985) (o := .cells #[.bool a0_0, .slice A0_1 l0_1.length c0_1] 27 (0, 0)) (zk BK985.out)) : gb1005 ≠ gb985))
                  have n13_ := Aside0.mk ((by rw [hg]; exact Nat.ne_of_lt (blk_lt (g := gb986) (o := .cells #[.bool a1_0, .slice A1_1 l1_1.length c1_1] 27 (0, 0)) (zk BK986.out)) : gb986 ≠ gb1005))
                  have n14_ := Aside0.mk ((by rw [hg]; exact Nat.ne_of_gt (blk_lt (g := gb986) (o := .cells #[.bool a1_0, .slice A1_1 l1_1.length c1_1] 27 (0, 0)) (zk BK986.out)) : gb1005 ≠ gb986))
                  have n15_ := Aside0.mk ((by rw [hg]; exact Nat.ne_of_lt (blk_lt (g := gb987) (o := .cells #[.bool false, .slice none 0 0] 27 (0, 0)) (zk BK987.out)) : gb987 ≠ gb1005))
                  have n16_ := Aside0.mk ((by rw [hg]; exact Nat.ne_of_gt (blk_lt (g := gb987) (o := .cells #[.bool false, .slice none 0 0] 27 (0, 0)) (zk BK987.out)) : gb1005 ≠ gb987))
                  clear HO0_1
                  clear HO1_1
                  clear HO992
                  clear HO996
                  clear BK985
                  clear BK986
                  clear BK987
                  clear HB
                  have HO0_1 := n0_
                  have HO1_1 := n1_
                  have HO992 := n2_
                  have HO996 := n3_
                  have BK985 := n4_
                  have BK986 := n5_
                  have BK987 := n6_
                  have HB := n7_
                  have BK1005 := n8_
                  have GW1005 := n9_
                  have GE1005 := n10_
                  have NB985_1005 := n11_
                  have NB1005_985 := n12_
                  have NB986_1005 := n13_
                  have NB1005_986 := n14_
                  have NB987_1005 := n15_
                  have NB1005_987 := n16_
                  clear n0_ n1_ n2_ n3_ n4_ n5_ n6_ n7_ n8_ n9_ n10_ n11_ n12_ n13_ n14_ n15_ n16_
                  clear hb hbox hg
                  refine hK.out _ _ ⟨(blk_cell BK985.out 0).trans rfl, (blk_cell BK985.out 1).trans rfl, (blk_cell BK986.out 0).trans rfl, (blk_cell BK986.out 1).trans rfl⟩ (fun hHeld => ?_)
                  clear hK K
                  refine norm_ (a' := ?_) ?_ ?_
                  rotate_left
                  · show Act.put _ (some 6) _ = _
                    simp only [Act.put, List.setIfInBounds_toArray, List.set_cons_zero, List.set_cons_succ, i64_w, i32_w]
                    rfl
                  exact norm_ (by first | (simp only [putAll, Act.put, List.setIfInBounds_toArray, List.set_cons_zero, List.set_cons_succ]; done) | (simp only [putAll, Act.put, List.setIfInBounds_toArray, List.set_cons_zero, List.set_cons_succ]; rfl)) (hJ1_3_6 (v991, (.slice Ao23 t994.length co23), gb1005) _ ⟨hHeld, (by (with_reducible repeat (first | apply Kd.V_alloc | apply Kd.V_drewN | apply Kd.V_drew)); exact Kd.V_mono HO0_1.out (fun _ hk => ⟨hk.1.1, ⟨hk.1.2.1, ⟨hk.1.2.2.1, ⟨hk.1.2.2.2, hk.2⟩⟩⟩⟩)), (by (with_reducible repeat (first | apply Kd.V_alloc | apply Kd.V_drewN | apply Kd.V_drew)); exact Kd.V_mono HO1_1.out (fun _ hk => ⟨hk.1.1, ⟨hk.1.2.1, ⟨hk.1.2.2.1, ⟨hk.1.2.2.2, hk.2⟩⟩⟩⟩)), (by (with_reducible repeat (first | apply Kd.V_alloc | apply Kd.V_drewN | apply Kd.V_drew)); exact Kd.V_mono HO992.out (fun _ hk => ⟨hk.1.1, ⟨hk.1.2.1, ⟨hk.1.2.2.1, ⟨hk.1.2.2.2, hk.2⟩⟩⟩⟩)), (by (with_reducible repeat (first | apply Kd.V_alloc | apply Kd.V_drewN | apply Kd.V_drew)); exact Kd.V_mono HO996.out (fun _ hk => ⟨hk.1.1, ⟨hk.1.2.1, ⟨hk.1.2.2.1, ⟨hk.1.2.2.2, hk.2⟩⟩⟩⟩)), (zk BK1005.out), (zk BK985.out), (zk BK986.out), (zk BK987.out), GW1005.out, GE1005.out, NB985_1005.out, NB1005_985.out, NB986_1005.out, NB1005_986.out, NB987_1005.out, NB1005_987.out, zb⟩)
            · skip
              rintro ⟨v991, v995, gb1005⟩ w23 ⟨hS_, h0_, h1_, h2_, h3_, h4_, h5_, h6_, h7_, h8_, h9_, h10_, h11_, h12_, h13_, h14_, h15_, h16_⟩
              have n0_ : Aside0 (Kd.V (Kd.int .i64) 3 w23 w.heap.size (fun k_ => ((P0_1_ k_ ∨ P1_1_ k_) ∨ w.heap.size ≤ k_) ∧ k_ ≠ gb985 ∧ k_ ≠ gb986 ∧ k_ ≠ gb987 ∧ k_ ≠ gb1005) (.slice A0_1 l0_1.length c0_1) l0_1) := ⟨h0_⟩
              have n1_ : Aside0 (Kd.V (Kd.int .i64) 3 w23 w.heap.size (fun k_ => ((P0_1_ k_ ∨ P1_1_ k_) ∨ w.heap.size ≤ k_) ∧ k_ ≠ gb985 ∧ k_ ≠ gb986 ∧ k_ ≠ gb987 ∧ k_ ≠ gb1005) (.slice A1_1 l1_1.length c1_1) l1_1) := ⟨h1_⟩
              have n2_ : Aside0 (Kd.V (Kd.int .i64) 3 w23 w.heap.size (fun k_ => ((P0_1_ k_ ∨ P1_1_ k_) ∨ w.heap.size ≤ k_) ∧ k_ ≠ gb985 ∧ k_ ≠ gb986 ∧ k_ ≠ gb987 ∧ k_ ≠ gb1005) v991 t990) := ⟨h2_⟩
              have n3_ : Aside0 (Kd.V (Kd.int .i64) 3 w23 w.heap.size (fun k_ => ((P0_1_ k_ ∨ P1_1_ k_) ∨ w.heap.size ≤ k_) ∧ k_ ≠ gb985 ∧ k_ ≠ gb986 ∧ k_ ≠ gb987 ∧ k_ ≠ gb1005) v995 t994) := ⟨h3_⟩
              have n4_ : Aside0 (w23.heap[gb1005]? = some (.cells #[.bool false, .slice none 0 0] 64 (0, 0))) := ⟨h4_⟩
              have n5_ : Aside0 (w23.heap[gb985]? = some (.cells #[.bool a0_0, .slice A0_1 l0_1.length c0_1] 27 (0, 0))) := ⟨h5_⟩
              have n6_ : Aside0 (w23.heap[gb986]? = some (.cells #[.bool a1_0, .slice A1_1 l1_1.length c1_1] 27 (0, 0))) := ⟨h6_⟩
              have n7_ : Aside0 (w23.heap[gb987]? = some (.cells #[.bool false, .slice none 0 0] 27 (0, 0))) := ⟨h7_⟩
              have n8_ : Aside0 (w.heap.size ≤ gb1005) := ⟨h8_⟩
              have n9_ : Aside0 (w.heap.size ≤ gb1005) := ⟨h9_⟩
              have n10_ : Aside0 (gb985 ≠ gb1005) := ⟨h10_⟩
              have n11_ : Aside0 (gb1005 ≠ gb985) := ⟨h11_⟩
              have n12_ : Aside0 (gb986 ≠ gb1005) := ⟨h12_⟩
              have n13_ : Aside0 (gb1005 ≠ gb986) := ⟨h13_⟩
              have n14_ : Aside0 (gb987 ≠ gb1005) := ⟨h14_⟩
              have n15_ : Aside0 (gb1005 ≠ gb987) := ⟨h15_⟩
              have n16_ : Aside0 (Below w.heap.size w w23) := ⟨h16_⟩
              clear HO0_1
              clear HO1_1
              clear BK985
              clear BK986
              clear BK987
              clear HB
              clear h0_ h1_ h2_ h3_ h4_ h5_ h6_ h7_ h8_ h9_ h10_ h11_ h12_ h13_ h14_ h15_ h16_
              have HO0_1 := n0_
              have HO1_1 := n1_
              have HO992 := n2_
              have HO996 := n3_
              have BK1005 := n4_
              have BK985 := n5_
              have BK986 := n6_
              have BK987 := n7_
              have GW1005 := n8_
              have GE1005 := n9_
              have NB985_1005 := n10_
              have NB1005_985 := n11_
              have NB986_1005 := n12_
              have NB1005_986 := n13_
              have NB987_1005 := n14_
              have NB1005_987 := n15_
              have HB := n16_
              clear n0_ n1_ n2_ n3_ n4_ n5_ n6_ n7_ n8_ n9_ n10_ n11_ n12_ n13_ n14_ n15_ n16_
              have hHeld : w23.cell? ⟨gb985, 0, none⟩ = some (.bool a0_0) ∧ w23.cell? ⟨gb985, 1, none⟩ = some (.slice A0_1 l0_1.length c0_1) ∧ w23.cell? ⟨gb986, 0, none⟩ = some (.bool a1_0) ∧ w23.cell? ⟨gb986, 1, none⟩ = some (.slice A1_1 l1_1.length c1_1) := hS_
              obtain ⟨Ao24, co24, eo24⟩ := Kd.V_slice HO996.out
              (first | subst eo24 | (injection eo24 with f1_ f2_ f3_; have f4_ := f1_.symm; have f5_ := f3_.symm; clear f1_ f2_ f3_; subst f4_; subst f5_))
              refine norm_ (a' := ?_) ?_ ?_
              rotate_left
              · simp only [putAll, Act.put, List.setIfInBounds_toArray, List.set_cons_zero, List.set_cons_succ]
                rfl
              refine one_ (i := 4) (N := some 16) #[true, true, true, true, true, false, true, false] rfl rfl (one_of HT_.out (by kernel_rfl)) (by decide) (fun K hK => ?_)
              refine goes_ Try.func72 (by kernel_rfl) rfl #[.agg #[.bool t993, .slice Ao24 t994.length co24]] (by rfl) rfl rfl za ?_
              with_reducible refine (impl_signed_minus.calls t993 (fun k_ => (((P0_1_ k_ ∨ P1_1_ k_) ∨ w.heap.size ≤ k_) ∧ (k_ ≠ gb985 ∧ (k_ ≠ gb986 ∧ (k_ ≠ gb987 ∧ k_ ≠ gb1005))))) _ _ t994 t997 t998 _ ?side1 A7.out).mono ?_
              (case side1 => exact HO996.out)
              rintro e w25 ⟨v999, rfl, ho0, hb⟩
              refine ⟨_, rfl, ?_⟩
              have n0_ := Aside0.mk (Kd.V_below (zV HO0_1.out) hb)
              have n1_ := Aside0.mk (Kd.V_below (zV HO1_1.out) hb)
              have n2_ := Aside0.mk (Kd.V_below (zV HO992.out) hb)
              have n3_ := Aside0.mk (Kd.V_below (zV HO996.out) hb)
              have n4_ := Aside0.mk (Kd.V_lower (Kd.V_mono (ok' := fun k_ => ((P0_1_ k_ ∨ P1_1_ k_) ∨ w.heap.size ≤ k_) ∧ k_ ≠ gb985 ∧ k_ ≠ gb986 ∧ k_ ≠ gb987 ∧ k_ ≠ gb1005) ho0 (fun k_ hk_ => ⟨Or.elim hk_ (fun hs_ => hs_.1) (fun hn_ => (.inr (Nat.le_trans (below_size zb) hn_))), Or.elim hk_ (fun hs_ => hs_.2.1) (fun hn_ => (Kd.freshB (g := gb985) (o := .cells #[.bool a0_0, .slice A0_1 l0_1.length c0_1] 27 (0, 0)) (zk BK985.out) k_ hn_)), Or.elim hk_ (fun hs_ => hs_.2.2.1) (fun hn_ => (Kd.freshB (g := gb986) (o := .cells #[.bool a1_0, .slice A1_1 l1_1.length c1_1] 27 (0, 0)) (zk BK986.out) k_ hn_)), Or.elim hk_ (fun hs_ => hs_.2.2.2.1) (fun hn_ => (Kd.freshB (g := gb987) (o := .cells #[.bool false, .slice none 0 0] 27 (0, 0)) (zk BK987.out) k_ hn_)), Or.elim hk_ (fun hs_ => hs_.2.2.2.2) (fun hn_ => (Kd.freshB (g := gb1005) (o := .cells #[.bool false, .slice none 0 0] 64 (0, 0)) (zk BK1005.out) k_ hn_))⟩)) (below_size zb))
              have n5_ := Aside0.mk (blk_below (g := gb985) (o := .cells #[.bool a0_0, .slice A0_1 l0_1.length c0_1] 27 (0, 0)) (zk BK985.out) hb)
              have n6_ := Aside0.mk (blk_below (g := gb986) (o := .cells #[.bool a1_0, .slice A1_1 l1_1.length c1_1] 27 (0, 0)) (zk BK986.out) hb)
              have n7_ := Aside0.mk (blk_below (g := gb987) (o := .cells #[.bool false, .slice none 0 0] 27 (0, 0)) (zk BK987.out) hb)
              have n8_ := Aside0.mk (blk_below (g := gb1005) (o := .cells #[.bool false, .slice none 0 0] 64 (0, 0)) (zk BK1005.out) hb)
              have n9_ := Aside0.mk (below_step zb hb)
              clear HO0_1
              clear HO1_1
              clear HO992
              clear HO996
              clear BK985
              clear BK986
              clear BK987
              clear BK1005
              clear HB
              have HO0_1 := n0_
              have HO1_1 := n1_
              have HO992 := n2_
              have HO996 := n3_
              have HO1000 := n4_
              have BK985 := n5_
              have BK986 := n6_
              have BK987 := n7_
              have BK1005 := n8_
              have HB := n9_
              clear n0_ n1_ n2_ n3_ n4_ n5_ n6_ n7_ n8_ n9_
              (try clear hb)
              (try clear hb2)
              (try clear hk)
              (try clear hi)
              (try clear ho0)
              refine hK.out _ _ ⟨(blk_cell BK985.out 0).trans rfl, (blk_cell BK985.out 1).trans rfl, (blk_cell BK986.out 0).trans rfl, (blk_cell BK986.out 1).trans rfl⟩ (fun hHeld => ?_)
              clear hK K
              refine norm_ (a' := ?_) ?_ ?_
              rotate_left
              · show Act.put _ (some 16) _ = _
                simp only [Act.put, List.setIfInBounds_toArray, List.set_cons_zero, List.set_cons_succ, i64_w, i32_w]
                rfl
              exact norm_ (by first | (simp only [putAll, Act.put, List.setIfInBounds_toArray, List.set_cons_zero, List.set_cons_succ]; done) | (simp only [putAll, Act.put, List.setIfInBounds_toArray, List.set_cons_zero, List.set_cons_succ]; rfl)) (hJ1_3_4_6 (v991, .slice Ao24 t994.length co24, v999, gb1005) _ ⟨hHeld, (zV HO0_1.out), (zV HO1000.out), (zV HO1_1.out), (zV HO992.out), (zV HO996.out), (zk BK1005.out), (zk BK985.out), (zk BK986.out), (zk BK987.out), GW1005.out, GE1005.out, NB985_1005.out, NB1005_985.out, NB986_1005.out, NB1005_986.out, NB987_1005.out, NB1005_987.out, zb⟩)
          · skip
            rintro ⟨v991, v995, v999⟩ w24 ⟨hS_, h0_, h1_, h2_, h3_, h4_, h5_, h6_, h7_, h8_⟩
            have n0_ : Aside0 (Kd.V (Kd.int .i64) 3 w24 w.heap.size (fun k_ => ((P0_1_ k_ ∨ P1_1_ k_) ∨ w.heap.size ≤ k_) ∧ k_ ≠ gb985 ∧ k_ ≠ gb986 ∧ k_ ≠ gb987) (.slice A0_1 l0_1.length c0_1) l0_1) := ⟨h0_⟩
            have n1_ : Aside0 (Kd.V (Kd.int .i64) 3 w24 w.heap.size (fun k_ => ((P0_1_ k_ ∨ P1_1_ k_) ∨ w.heap.size ≤ k_) ∧ k_ ≠ gb985 ∧ k_ ≠ gb986 ∧ k_ ≠ gb987) v999 t998) := ⟨h1_⟩
            have n2_ : Aside0 (Kd.V (Kd.int .i64) 3 w24 w.heap.size (fun k_ => ((P0_1_ k_ ∨ P1_1_ k_) ∨ w.heap.size ≤ k_) ∧ k_ ≠ gb985 ∧ k_ ≠ gb986 ∧ k_ ≠ gb987) (.slice A1_1 l1_1.length c1_1) l1_1) := ⟨h2_⟩
            have n3_ : Aside0 (Kd.V (Kd.int .i64) 3 w24 w.heap.size (fun k_ => ((P0_1_ k_ ∨ P1_1_ k_) ∨ w.heap.size ≤ k_) ∧ k_ ≠ gb985 ∧ k_ ≠ gb986 ∧ k_ ≠ gb987) v991 t990) := ⟨h3_⟩
            have n4_ : Aside0 (Kd.V (Kd.int .i64) 3 w24 w.heap.size (fun k_ => ((P0_1_ k_ ∨ P1_1_ k_) ∨ w.heap.size ≤ k_) ∧ k_ ≠ gb985 ∧ k_ ≠ gb986 ∧ k_ ≠ gb987) v995 t994) := ⟨h4_⟩
            have n5_ : Aside0 (w24.heap[gb985]? = some (.cells #[.bool a0_0, .slice A0_1 l0_1.length c0_1] 27 (0, 0))) := ⟨h5_⟩
            have n6_ : Aside0 (w24.heap[gb986]? = some (.cells #[.bool a1_0, .slice A1_1 l1_1.length c1_1] 27 (0, 0))) := ⟨h6_⟩
            have n7_ : Aside0 (w24.heap[gb987]? = some (.cells #[.bool false, .slice none 0 0] 27 (0, 0))) := ⟨h7_⟩
            have n8_ : Aside0 (Below w.heap.size w w24) := ⟨h8_⟩
            clear HO0_1
            clear HO1_1
            clear BK985
            clear BK986
            clear BK987
            clear HB
            clear h0_ h1_ h2_ h3_ h4_ h5_ h6_ h7_ h8_
            have HO0_1 := n0_
            have HO1000 := n1_
            have HO1_1 := n2_
            have HO992 := n3_
            have HO996 := n4_
            have BK985 := n5_
            have BK986 := n6_
            have BK987 := n7_
            have HB := n8_
            clear n0_ n1_ n2_ n3_ n4_ n5_ n6_ n7_ n8_
            have hHeld : w24.cell? ⟨gb985, 0, none⟩ = some (.bool a0_0) ∧ w24.cell? ⟨gb985, 1, none⟩ = some (.slice A0_1 l0_1.length c0_1) ∧ w24.cell? ⟨gb986, 0, none⟩ = some (.bool a1_0) ∧ w24.cell? ⟨gb986, 1, none⟩ = some (.slice A1_1 l1_1.length c1_1) := hS_
            obtain ⟨Ao25, co25, eo25⟩ := Kd.V_slice HO992.out
            (first | subst eo25 | (injection eo25 with f1_ f2_ f3_; have f4_ := f1_.symm; have f5_ := f3_.symm; clear f1_ f2_ f3_; subst f4_; subst f5_))
            obtain ⟨Ao26, co26, eo26⟩ := Kd.V_slice HO1000.out
            (first | subst eo26 | (injection eo26 with f1_ f2_ f3_; have f4_ := f1_.symm; have f5_ := f3_.symm; clear f1_ f2_ f3_; subst f4_; subst f5_))
            refine norm_ (a' := ?_) ?_ ?_
            rotate_left
            · simp only [putAll, Act.put, List.setIfInBounds_toArray, List.set_cons_zero, List.set_cons_succ]
              rfl
            refine two_ (i := 5) (j := 6) (Ni := some 17) (Nj := some 6) #[true, true, true, true, true, true, false, false] #[true, true, true, true, true, false, true, false] rfl rfl rfl rfl (two_of HT_.out (by kernel_rfl)) (by decide) (by decide) (fun K hK => ?_) (fun K hK => ?_)
            · skip
              refine goes_ Try.func69 (by kernel_rfl) rfl #[.agg #[.bool t989, .slice Ao25 t990.length co25], .agg #[.bool t997, .slice Ao26 t998.length co26]] (by rfl) rfl rfl za ?_
              with_reducible refine (impl_signed_add.calls k t989 _ _ t990 t997 _ _ t998 t1001 t1002 _ ?side1 ?side2 ?side3 ?side4 A8.out).mono ?_
              (case side1 => repeat (first | exact (Kd.V_reads' HO992.out).2.2 | (with_reducible refine Kd.C_alloc ?_ _) | (with_reducible refine Kd.C_drewN ?_ _) | (with_reducible refine Kd.C_drew ?_)))
              (case side2 => exact (Kd.V_reads' HO992.out).2.1)
              (case side3 => repeat (first | exact (Kd.V_reads' HO1000.out).2.2 | (with_reducible refine Kd.C_alloc ?_ _) | (with_reducible refine Kd.C_drewN ?_ _) | (with_reducible refine Kd.C_drew ?_)))
              (case side4 => exact (Kd.V_reads' HO1000.out).2.1)
              rintro e w27 ⟨v1003, rfl, ho0, hb⟩
              refine ⟨_, rfl, ?_⟩
              have n0_ := Aside0.mk (Kd.V_below (zV HO0_1.out) hb)
              have n1_ := Aside0.mk (Kd.V_below (zV HO1_1.out) hb)
              have n2_ := Aside0.mk (Kd.V_below (zV HO992.out) hb)
              have n3_ := Aside0.mk (Kd.V_below (zV HO996.out) hb)
              have n4_ := Aside0.mk (Kd.V_below (zV HO1000.out) hb)
              have n5_ := Aside0.mk (Kd.V_lower (Kd.V_mono (ok' := fun k_ => ((P0_1_ k_ ∨ P1_1_ k_) ∨ w.heap.size ≤ k_) ∧ k_ ≠ gb985 ∧ k_ ≠ gb986 ∧ k_ ≠ gb987) ho0 (fun k_ hk_ => ⟨(.inr (Nat.le_trans (below_size zb) hk_)), (Kd.freshB (g := gb985) (o := .cells #[.bool a0_0, .slice A0_1 l0_1.length c0_1] 27 (0, 0)) (zk BK985.out) k_ hk_), (Kd.freshB (g := gb986) (o := .cells #[.bool a1_0, .slice A1_1 l1_1.length c1_1] 27 (0, 0)) (zk BK986.out) k_ hk_), (Kd.freshB (g := gb987) (o := .cells #[.bool false, .slice none 0 0] 27 (0, 0)) (zk BK987.out) k_ hk_)⟩)) (below_size zb))
              have n6_ := Aside0.mk (blk_below (g := gb985) (o := .cells #[.bool a0_0, .slice A0_1 l0_1.length c0_1] 27 (0, 0)) (zk BK985.out) hb)
              have n7_ := Aside0.mk (blk_below (g := gb986) (o := .cells #[.bool a1_0, .slice A1_1 l1_1.length c1_1] 27 (0, 0)) (zk BK986.out) hb)
              have n8_ := Aside0.mk (blk_below (g := gb987) (o := .cells #[.bool false, .slice none 0 0] 27 (0, 0)) (zk BK987.out) hb)
              have n9_ := Aside0.mk (below_step zb hb)
              clear HO0_1
              clear HO1_1
              clear HO992
              clear HO996
              clear HO1000
              clear BK985
              clear BK986
              clear BK987
              clear HB
              have HO0_1 := n0_
              have HO1_1 := n1_
              have HO992 := n2_
              have HO996 := n3_
              have HO1000 := n4_
              have HO1004 := n5_
              have BK985 := n6_
              have BK986 := n7_
              have BK987 := n8_
              have HB := n9_
              clear n0_ n1_ n2_ n3_ n4_ n5_ n6_ n7_ n8_ n9_
              (try clear hb)
              (try clear hb2)
              (try clear hk)
              (try clear hi)
              (try clear ho0)
              refine hK.out _ _ ⟨(blk_cell BK985.out 0).trans rfl, (blk_cell BK985.out 1).trans rfl, (blk_cell BK986.out 0).trans rfl, (blk_cell BK986.out 1).trans rfl⟩ (fun hHeld => ?_)
              clear hK K
              refine norm_ (a' := ?_) ?_ ?_
              rotate_left
              · show Act.put _ (some 17) _ = _
                simp only [Act.put, List.setIfInBounds_toArray, List.set_cons_zero, List.set_cons_succ, i64_w, i32_w]
                rfl
              exact norm_ (by first | (simp only [putAll, Act.put, List.setIfInBounds_toArray, List.set_cons_zero, List.set_cons_succ]; done) | (simp only [putAll, Act.put, List.setIfInBounds_toArray, List.set_cons_zero, List.set_cons_succ]; rfl)) (hJ1_3_4_5 (.slice Ao25 t990.length co25, v995, .slice Ao26 t998.length co26, v1003) _ ⟨hHeld, (zV HO0_1.out), (zV HO1000.out), (zV HO1004.out), (zV HO1_1.out), (zV HO992.out), (zV HO996.out), (zk BK985.out), (zk BK986.out), (zk BK987.out), zb⟩)
            · skip
              refine box_step ?hg (N := 6) ?hd (cs := #[.bool false, .slice none 0 0]) (t := 64) ?hr ?_; (case hd => rfl); (case hg => rfl); (case hr => first | (go_simp; done) | (go_simp; rfl))
              intro gb1005 hg w25 hbox hb
              have n0_ := Aside0.mk (Kd.V_below (Kd.V_elderB (zV HO0_1.out) gb1005 (Nat.le_of_eq hg.symm)) hb)
              have n1_ := Aside0.mk (Kd.V_below (Kd.V_elderB (zV HO1_1.out) gb1005 (Nat.le_of_eq hg.symm)) hb)
              have n2_ := Aside0.mk (Kd.V_below (Kd.V_elderB (zV HO992.out) gb1005 (Nat.le_of_eq hg.symm)) hb)
              have n3_ := Aside0.mk (Kd.V_below (Kd.V_elderB (zV HO996.out) gb1005 (Nat.le_of_eq hg.symm)) hb)
              have n4_ := Aside0.mk (Kd.V_below (Kd.V_elderB (zV HO1000.out) gb1005 (Nat.le_of_eq hg.symm)) hb)
              have n5_ := Aside0.mk (blk_below (g := gb985) (o := .cells #[.bool a0_0, .slice A0_1 l0_1.length c0_1] 27 (0, 0)) (zk BK985.out) hb)
              have n6_ := Aside0.mk (blk_below (g := gb986) (o := .cells #[.bool a1_0, .slice A1_1 l1_1.length c1_1] 27 (0, 0)) (zk BK986.out) hb)
              have n7_ := Aside0.mk (blk_below (g := gb987) (o := .cells #[.bool false, .slice none 0 0] 27 (0, 0)) (zk BK987.out) hb)
              have n8_ := Aside0.mk (below_step zb hb)
              have n9_ := Aside0.mk (hbox)
              have n10_ := Aside0.mk ((by rw [hg]; exact (below_size zb) : w.heap.size ≤ gb1005))
              have n11_ := Aside0.mk ((by rw [hg]; exact (below_size zb) : w.heap.size ≤ gb1005))
              have n12_ := Aside0.mk ((by rw [hg]; exact Nat.ne_of_lt (blk_lt (g := gb985) (o := .cells #[.bool a0_0, .slice A0_1 l0_1.length c0_1] 27 (0, 0)) (zk BK985.out)) : gb985 ≠ gb1005))
              have n13_ := Aside0.mk ((by rw [hg]; exact Nat.ne_of_gt (blk_lt (g := gb985) (o := .cells #[.bool a0_0, .slice A0_1 l0_1.length c0_1] 27 (0, 0)) (zk BK985.out)) : gb1005 ≠ gb985))
              have n14_ := Aside0.mk ((by rw [hg]; exact Nat.ne_of_lt (blk_lt (g := gb986) (o := .cells #[.bool a1_0, .slice A1_1 l1_1.length c1_1] 27 (0, 0)) (zk BK986.out)) : gb986 ≠ gb1005))
              have n15_ := Aside0.mk ((by rw [hg]; exact Nat.ne_of_gt (blk_lt (g := gb986) (o := .cells #[.bool a1_0, .slice A1_1 l1_1.length c1_1] 27 (0, 0)) (zk BK986.out)) : gb1005 ≠ gb986))
              have n16_ := Aside0.mk ((by rw [hg]; exact Nat.ne_of_lt (blk_lt (g := gb987) (o := .cells #[.bool false, .slice none 0 0] 27 (0, 0)) (zk BK987.out)) : gb987 ≠ gb1005))
              have n17_ := Aside0.mk ((by rw [hg]; exact Nat.ne_of_gt (blk_lt (g := gb987) (o := .cells #[.bool false, .slice none 0 0] 27 (0, 0)) (zk BK987.out)) : gb1005 ≠ gb987))
              clear HO0_1
              clear HO1_1
              clear HO992
              clear HO996
              clear HO1000
              clear BK985
              clear BK986
              clear BK987
              clear HB
              have HO0_1 := n0_
              have HO1_1 := n1_
              have HO992 := n2_
              have HO996 := n3_
              have HO1000 := n4_
              have BK985 := n5_
              have BK986 := n6_
              have BK987 := n7_
              have HB := n8_
              have BK1005 := n9_
              have GW1005 := n10_
              have GE1005 := n11_
              have NB985_1005 := n12_
              have NB1005_985 := n13_
              have NB986_1005 := n14_
              have NB1005_986 := n15_
              have NB987_1005 := n16_
              have NB1005_987 := n17_
              clear n0_ n1_ n2_ n3_ n4_ n5_ n6_ n7_ n8_ n9_ n10_ n11_ n12_ n13_ n14_ n15_ n16_ n17_
              clear hb hbox hg
              refine hK.out _ _ ⟨(blk_cell BK985.out 0).trans rfl, (blk_cell BK985.out 1).trans rfl, (blk_cell BK986.out 0).trans rfl, (blk_cell BK986.out 1).trans rfl⟩ (fun hHeld => ?_)
              clear hK K
              refine norm_ (a' := ?_) ?_ ?_
              rotate_left
              · show Act.put _ (some 6) _ = _
                simp only [Act.put, List.setIfInBounds_toArray, List.set_cons_zero, List.set_cons_succ, i64_w, i32_w]
                rfl
              exact norm_ (by first | (simp only [putAll, Act.put, List.setIfInBounds_toArray, List.set_cons_zero, List.set_cons_succ]; done) | (simp only [putAll, Act.put, List.setIfInBounds_toArray, List.set_cons_zero, List.set_cons_succ]; rfl)) (hJ1_3_4_6 ((.slice Ao25 t990.length co25), v995, (.slice Ao26 t998.length co26), gb1005) _ ⟨hHeld, (by (with_reducible repeat (first | apply Kd.V_alloc | apply Kd.V_drewN | apply Kd.V_drew)); exact Kd.V_mono HO0_1.out (fun _ hk => ⟨hk.1.1, ⟨hk.1.2.1, ⟨hk.1.2.2.1, ⟨hk.1.2.2.2, hk.2⟩⟩⟩⟩)), (by (with_reducible repeat (first | apply Kd.V_alloc | apply Kd.V_drewN | apply Kd.V_drew)); exact Kd.V_mono HO1000.out (fun _ hk => ⟨hk.1.1, ⟨hk.1.2.1, ⟨hk.1.2.2.1, ⟨hk.1.2.2.2, hk.2⟩⟩⟩⟩)), (by (with_reducible repeat (first | apply Kd.V_alloc | apply Kd.V_drewN | apply Kd.V_drew)); exact Kd.V_mono HO1_1.out (fun _ hk => ⟨hk.1.1, ⟨hk.1.2.1, ⟨hk.1.2.2.1, ⟨hk.1.2.2.2, hk.2⟩⟩⟩⟩)), (by (with_reducible repeat (first | apply Kd.V_alloc | apply Kd.V_drewN | apply Kd.V_drew)); exact Kd.V_mono HO992.out (fun _ hk => ⟨hk.1.1, ⟨hk.1.2.1, ⟨hk.1.2.2.1, ⟨hk.1.2.2.2, hk.2⟩⟩⟩⟩)), (by (with_reducible repeat (first | apply Kd.V_alloc | apply Kd.V_drewN | apply Kd.V_drew)); exact Kd.V_mono HO996.out (fun _ hk => ⟨hk.1.1, ⟨hk.1.2.1, ⟨hk.1.2.2.1, ⟨hk.1.2.2.2, hk.2⟩⟩⟩⟩)), (zk BK1005.out), (zk BK985.out), (zk BK986.out), (zk BK987.out), GW1005.out, GE1005.out, NB985_1005.out, NB1005_985.out, NB986_1005.out, NB1005_986.out, NB987_1005.out, NB1005_987.out, zb⟩)
        · skip
          rintro ⟨v991, v995, v999, gb1005⟩ w25 ⟨hS_, h0_, h1_, h2_, h3_, h4_, h5_, h6_, h7_, h8_, h9_, h10_, h11_, h12_, h13_, h14_, h15_, h16_, h17_⟩
          have n0_ : Aside0 (Kd.V (Kd.int .i64) 3 w25 w.heap.size (fun k_ => ((P0_1_ k_ ∨ P1_1_ k_) ∨ w.heap.size ≤ k_) ∧ k_ ≠ gb985 ∧ k_ ≠ gb986 ∧ k_ ≠ gb987 ∧ k_ ≠ gb1005) (.slice A0_1 l0_1.length c0_1) l0_1) := ⟨h0_⟩
          have n1_ : Aside0 (Kd.V (Kd.int .i64) 3 w25 w.heap.size (fun k_ => ((P0_1_ k_ ∨ P1_1_ k_) ∨ w.heap.size ≤ k_) ∧ k_ ≠ gb985 ∧ k_ ≠ gb986 ∧ k_ ≠ gb987 ∧ k_ ≠ gb1005) v999 t998) := ⟨h1_⟩
          have n2_ : Aside0 (Kd.V (Kd.int .i64) 3 w25 w.heap.size (fun k_ => ((P0_1_ k_ ∨ P1_1_ k_) ∨ w.heap.size ≤ k_) ∧ k_ ≠ gb985 ∧ k_ ≠ gb986 ∧ k_ ≠ gb987 ∧ k_ ≠ gb1005) (.slice A1_1 l1_1.length c1_1) l1_1) := ⟨h2_⟩
          have n3_ : Aside0 (Kd.V (Kd.int .i64) 3 w25 w.heap.size (fun k_ => ((P0_1_ k_ ∨ P1_1_ k_) ∨ w.heap.size ≤ k_) ∧ k_ ≠ gb985 ∧ k_ ≠ gb986 ∧ k_ ≠ gb987 ∧ k_ ≠ gb1005) v991 t990) := ⟨h3_⟩
          have n4_ : Aside0 (Kd.V (Kd.int .i64) 3 w25 w.heap.size (fun k_ => ((P0_1_ k_ ∨ P1_1_ k_) ∨ w.heap.size ≤ k_) ∧ k_ ≠ gb985 ∧ k_ ≠ gb986 ∧ k_ ≠ gb987 ∧ k_ ≠ gb1005) v995 t994) := ⟨h4_⟩
          have n5_ : Aside0 (w25.heap[gb1005]? = some (.cells #[.bool false, .slice none 0 0] 64 (0, 0))) := ⟨h5_⟩
          have n6_ : Aside0 (w25.heap[gb985]? = some (.cells #[.bool a0_0, .slice A0_1 l0_1.length c0_1] 27 (0, 0))) := ⟨h6_⟩
          have n7_ : Aside0 (w25.heap[gb986]? = some (.cells #[.bool a1_0, .slice A1_1 l1_1.length c1_1] 27 (0, 0))) := ⟨h7_⟩
          have n8_ : Aside0 (w25.heap[gb987]? = some (.cells #[.bool false, .slice none 0 0] 27 (0, 0))) := ⟨h8_⟩
          have n9_ : Aside0 (w.heap.size ≤ gb1005) := ⟨h9_⟩
          have n10_ : Aside0 (w.heap.size ≤ gb1005) := ⟨h10_⟩
          have n11_ : Aside0 (gb985 ≠ gb1005) := ⟨h11_⟩
          have n12_ : Aside0 (gb1005 ≠ gb985) := ⟨h12_⟩
          have n13_ : Aside0 (gb986 ≠ gb1005) := ⟨h13_⟩
          have n14_ : Aside0 (gb1005 ≠ gb986) := ⟨h14_⟩
          have n15_ : Aside0 (gb987 ≠ gb1005) := ⟨h15_⟩
          have n16_ : Aside0 (gb1005 ≠ gb987) := ⟨h16_⟩
          have n17_ : Aside0 (Below w.heap.size w w25) := ⟨h17_⟩
          clear HO0_1
          clear HO1_1
          clear BK985
          clear BK986
          clear BK987
          clear HB
          clear h0_ h1_ h2_ h3_ h4_ h5_ h6_ h7_ h8_ h9_ h10_ h11_ h12_ h13_ h14_ h15_ h16_ h17_
          have HO0_1 := n0_
          have HO1000 := n1_
          have HO1_1 := n2_
          have HO992 := n3_
          have HO996 := n4_
          have BK1005 := n5_
          have BK985 := n6_
          have BK986 := n7_
          have BK987 := n8_
          have GW1005 := n9_
          have GE1005 := n10_
          have NB985_1005 := n11_
          have NB1005_985 := n12_
          have NB986_1005 := n13_
          have NB1005_986 := n14_
          have NB987_1005 := n15_
          have NB1005_987 := n16_
          have HB := n17_
          clear n0_ n1_ n2_ n3_ n4_ n5_ n6_ n7_ n8_ n9_ n10_ n11_ n12_ n13_ n14_ n15_ n16_ n17_
          have hHeld : w25.cell? ⟨gb985, 0, none⟩ = some (.bool a0_0) ∧ w25.cell? ⟨gb985, 1, none⟩ = some (.slice A0_1 l0_1.length c0_1) ∧ w25.cell? ⟨gb986, 0, none⟩ = some (.bool a1_0) ∧ w25.cell? ⟨gb986, 1, none⟩ = some (.slice A1_1 l1_1.length c1_1) := hS_
          obtain ⟨Ao26, co26, eo26⟩ := Kd.V_slice HO992.out
          (first | subst eo26 | (injection eo26 with f1_ f2_ f3_; have f4_ := f1_.symm; have f5_ := f3_.symm; clear f1_ f2_ f3_; subst f4_; subst f5_))
          obtain ⟨Ao27, co27, eo27⟩ := Kd.V_slice HO1000.out
          (first | subst eo27 | (injection eo27 with f1_ f2_ f3_; have f4_ := f1_.symm; have f5_ := f3_.symm; clear f1_ f2_ f3_; subst f4_; subst f5_))
          refine norm_ (a' := ?_) ?_ ?_
          rotate_left
          · simp only [putAll, Act.put, List.setIfInBounds_toArray, List.set_cons_zero, List.set_cons_succ]
            rfl
          refine one_ (i := 5) (N := some 17) #[true, true, true, true, true, true, true, false] rfl rfl (one_of HT_.out (by kernel_rfl)) (by decide) (fun K hK => ?_)
          refine goes_ Try.func69 (by kernel_rfl) rfl #[.agg #[.bool t989, .slice Ao26 t990.length co26], .agg #[.bool t997, .slice Ao27 t998.length co27]] (by rfl) rfl rfl za ?_
          with_reducible refine (impl_signed_add.calls k t989 _ _ t990 t997 _ _ t998 t1001 t1002 _ ?side1 ?side2 ?side3 ?side4 A8.out).mono ?_
          (case side1 => repeat (first | exact (Kd.V_reads' HO992.out).2.2 | (with_reducible refine Kd.C_alloc ?_ _) | (with_reducible refine Kd.C_drewN ?_ _) | (with_reducible refine Kd.C_drew ?_)))
          (case side2 => exact (Kd.V_reads' HO992.out).2.1)
          (case side3 => repeat (first | exact (Kd.V_reads' HO1000.out).2.2 | (with_reducible refine Kd.C_alloc ?_ _) | (with_reducible refine Kd.C_drewN ?_ _) | (with_reducible refine Kd.C_drew ?_)))
          (case side4 => exact (Kd.V_reads' HO1000.out).2.1)
          rintro e w28 ⟨v1003, rfl, ho0, hb⟩
          refine ⟨_, rfl, ?_⟩
          have n0_ := Aside0.mk (Kd.V_below (zV HO0_1.out) hb)
          have n1_ := Aside0.mk (Kd.V_below (zV HO1_1.out) hb)
          have n2_ := Aside0.mk (Kd.V_below (zV HO992.out) hb)
          have n3_ := Aside0.mk (Kd.V_below (zV HO996.out) hb)
          have n4_ := Aside0.mk (Kd.V_below (zV HO1000.out) hb)
          have n5_ := Aside0.mk (Kd.V_lower (Kd.V_mono (ok' := fun k_ => ((P0_1_ k_ ∨ P1_1_ k_) ∨ w.heap.size ≤ k_) ∧ k_ ≠ gb985 ∧ k_ ≠ gb986 ∧ k_ ≠ gb987 ∧ k_ ≠ gb1005) ho0 (fun k_ hk_ => ⟨(.inr (Nat.le_trans (below_size zb) hk_)), (Kd.freshB (g := gb985) (o := .cells #[.bool a0_0, .slice A0_1 l0_1.length c0_1] 27 (0, 0)) (zk BK985.out) k_ hk_), (Kd.freshB (g := gb986) (o := .cells #[.bool a1_0, .slice A1_1 l1_1.length c1_1] 27 (0, 0)) (zk BK986.out) k_ hk_), (Kd.freshB (g := gb987) (o := .cells #[.bool false, .slice none 0 0] 27 (0, 0)) (zk BK987.out) k_ hk_), (Kd.freshB (g := gb1005) (o := .cells #[.bool false, .slice none 0 0] 64 (0, 0)) (zk BK1005.out) k_ hk_)⟩)) (below_size zb))
          have n6_ := Aside0.mk (blk_below (g := gb985) (o := .cells #[.bool a0_0, .slice A0_1 l0_1.length c0_1] 27 (0, 0)) (zk BK985.out) hb)
          have n7_ := Aside0.mk (blk_below (g := gb986) (o := .cells #[.bool a1_0, .slice A1_1 l1_1.length c1_1] 27 (0, 0)) (zk BK986.out) hb)
          have n8_ := Aside0.mk (blk_below (g := gb987) (o := .cells #[.bool false, .slice none 0 0] 27 (0, 0)) (zk BK987.out) hb)
          have n9_ := Aside0.mk (blk_below (g := gb1005) (o := .cells #[.bool false, .slice none 0 0] 64 (0, 0)) (zk BK1005.out) hb)
          have n10_ := Aside0.mk (below_step zb hb)
          clear HO0_1
          clear HO1_1
          clear HO992
          clear HO996
          clear HO1000
          clear BK985
          clear BK986
          clear BK987
          clear BK1005
          clear HB
          have HO0_1 := n0_
          have HO1_1 := n1_
          have HO992 := n2_
          have HO996 := n3_
          have HO1000 := n4_
          have HO1004 := n5_
          have BK985 := n6_
          have BK986 := n7_
          have BK987 := n8_
          have BK1005 := n9_
          have HB := n10_
          clear n0_ n1_ n2_ n3_ n4_ n5_ n6_ n7_ n8_ n9_ n10_
          (try clear hb)
          (try clear hb2)
          (try clear hk)
          (try clear hi)
          (try clear ho0)
          refine hK.out _ _ ⟨(blk_cell BK985.out 0).trans rfl, (blk_cell BK985.out 1).trans rfl, (blk_cell BK986.out 0).trans rfl, (blk_cell BK986.out 1).trans rfl⟩ (fun hHeld => ?_)
          clear hK K
          refine norm_ (a' := ?_) ?_ ?_
          rotate_left
          · show Act.put _ (some 17) _ = _
            simp only [Act.put, List.setIfInBounds_toArray, List.set_cons_zero, List.set_cons_succ, i64_w, i32_w]
            rfl
          exact norm_ (by first | (simp only [putAll, Act.put, List.setIfInBounds_toArray, List.set_cons_zero, List.set_cons_succ]; done) | (simp only [putAll, Act.put, List.setIfInBounds_toArray, List.set_cons_zero, List.set_cons_succ]; rfl)) (hJ1_3_4_5_6 (.slice Ao26 t990.length co26, v995, .slice Ao27 t998.length co27, v1003, gb1005) _ ⟨hHeld, (zV HO0_1.out), (zV HO1000.out), (zV HO1004.out), (zV HO1_1.out), (zV HO992.out), (zV HO996.out), (zk BK1005.out), (zk BK985.out), (zk BK986.out), (zk BK987.out), GW1005.out, GE1005.out, NB985_1005.out, NB1005_985.out, NB986_1005.out, NB1005_986.out, NB987_1005.out, NB1005_987.out, zb⟩)
      · skip
        rintro ⟨v991, v995, v999, v1003⟩ w27 ⟨hS_, h0_, h1_, h2_, h3_, h4_, h5_, h6_, h7_, h8_, h9_⟩
        have n0_ : Aside0 (Kd.V (Kd.int .i64) 3 w27 w.heap.size (fun k_ => ((P0_1_ k_ ∨ P1_1_ k_) ∨ w.heap.size ≤ k_) ∧ k_ ≠ gb985 ∧ k_ ≠ gb986 ∧ k_ ≠ gb987) (.slice A0_1 l0_1.length c0_1) l0_1) := ⟨h0_⟩
        have n1_ : Aside0 (Kd.V (Kd.int .i64) 3 w27 w.heap.size (fun k_ => ((P0_1_ k_ ∨ P1_1_ k_) ∨ w.heap.size ≤ k_) ∧ k_ ≠ gb985 ∧ k_ ≠ gb986 ∧ k_ ≠ gb987) v999 t998) := ⟨h1_⟩
        have n2_ : Aside0 (Kd.V (Kd.int .i64) 3 w27 w.heap.size (fun k_ => ((P0_1_ k_ ∨ P1_1_ k_) ∨ w.heap.size ≤ k_) ∧ k_ ≠ gb985 ∧ k_ ≠ gb986 ∧ k_ ≠ gb987) v1003 t1002) := ⟨h2_⟩
        have n3_ : Aside0 (Kd.V (Kd.int .i64) 3 w27 w.heap.size (fun k_ => ((P0_1_ k_ ∨ P1_1_ k_) ∨ w.heap.size ≤ k_) ∧ k_ ≠ gb985 ∧ k_ ≠ gb986 ∧ k_ ≠ gb987) (.slice A1_1 l1_1.length c1_1) l1_1) := ⟨h3_⟩
        have n4_ : Aside0 (Kd.V (Kd.int .i64) 3 w27 w.heap.size (fun k_ => ((P0_1_ k_ ∨ P1_1_ k_) ∨ w.heap.size ≤ k_) ∧ k_ ≠ gb985 ∧ k_ ≠ gb986 ∧ k_ ≠ gb987) v991 t990) := ⟨h4_⟩
        have n5_ : Aside0 (Kd.V (Kd.int .i64) 3 w27 w.heap.size (fun k_ => ((P0_1_ k_ ∨ P1_1_ k_) ∨ w.heap.size ≤ k_) ∧ k_ ≠ gb985 ∧ k_ ≠ gb986 ∧ k_ ≠ gb987) v995 t994) := ⟨h5_⟩
        have n6_ : Aside0 (w27.heap[gb985]? = some (.cells #[.bool a0_0, .slice A0_1 l0_1.length c0_1] 27 (0, 0))) := ⟨h6_⟩
        have n7_ : Aside0 (w27.heap[gb986]? = some (.cells #[.bool a1_0, .slice A1_1 l1_1.length c1_1] 27 (0, 0))) := ⟨h7_⟩
        have n8_ : Aside0 (w27.heap[gb987]? = some (.cells #[.bool false, .slice none 0 0] 27 (0, 0))) := ⟨h8_⟩
        have n9_ : Aside0 (Below w.heap.size w w27) := ⟨h9_⟩
        clear HO0_1
        clear HO1_1
        clear BK985
        clear BK986
        clear BK987
        clear HB
        clear h0_ h1_ h2_ h3_ h4_ h5_ h6_ h7_ h8_ h9_
        have HO0_1 := n0_
        have HO1000 := n1_
        have HO1004 := n2_
        have HO1_1 := n3_
        have HO992 := n4_
        have HO996 := n5_
        have BK985 := n6_
        have BK986 := n7_
        have BK987 := n8_
        have HB := n9_
        clear n0_ n1_ n2_ n3_ n4_ n5_ n6_ n7_ n8_ n9_
        have hHeld : w27.cell? ⟨gb985, 0, none⟩ = some (.bool a0_0) ∧ w27.cell? ⟨gb985, 1, none⟩ = some (.slice A0_1 l0_1.length c0_1) ∧ w27.cell? ⟨gb986, 0, none⟩ = some (.bool a1_0) ∧ w27.cell? ⟨gb986, 1, none⟩ = some (.slice A1_1 l1_1.length c1_1) := hS_
        refine norm_ (a' := ?_) ?_ ?_
        rotate_left
        · simp only [putAll, Act.put, List.setIfInBounds_toArray, List.set_cons_zero, List.set_cons_succ]
          rfl
        refine one_ (i := 6) (N := some 6) #[true, true, true, true, true, true, true, false] rfl rfl (one_of HT_.out (by kernel_rfl)) (by decide) (fun K hK => ?_)
        refine box_step ?hg (N := 6) ?hd (cs := #[.bool false, .slice none 0 0]) (t := 64) ?hr ?_; (case hd => rfl); (case hg => rfl); (case hr => first | (go_simp; done) | (go_simp; rfl))
        intro gb1005 hg w28 hbox hb
        have n0_ := Aside0.mk (Kd.V_below (Kd.V_elderB (zV HO0_1.out) gb1005 (Nat.le_of_eq hg.symm)) hb)
        have n1_ := Aside0.mk (Kd.V_below (Kd.V_elderB (zV HO1_1.out) gb1005 (Nat.le_of_eq hg.symm)) hb)
        have n2_ := Aside0.mk (Kd.V_below (Kd.V_elderB (zV HO992.out) gb1005 (Nat.le_of_eq hg.symm)) hb)
        have n3_ := Aside0.mk (Kd.V_below (Kd.V_elderB (zV HO996.out) gb1005 (Nat.le_of_eq hg.symm)) hb)
        have n4_ := Aside0.mk (Kd.V_below (Kd.V_elderB (zV HO1000.out) gb1005 (Nat.le_of_eq hg.symm)) hb)
        have n5_ := Aside0.mk (Kd.V_below (Kd.V_elderB (zV HO1004.out) gb1005 (Nat.le_of_eq hg.symm)) hb)
        have n6_ := Aside0.mk (blk_below (g := gb985) (o := .cells #[.bool a0_0, .slice A0_1 l0_1.length c0_1] 27 (0, 0)) (zk BK985.out) hb)
        have n7_ := Aside0.mk (blk_below (g := gb986) (o := .cells #[.bool a1_0, .slice A1_1 l1_1.length c1_1] 27 (0, 0)) (zk BK986.out) hb)
        have n8_ := Aside0.mk (blk_below (g := gb987) (o := .cells #[.bool false, .slice none 0 0] 27 (0, 0)) (zk BK987.out) hb)
        have n9_ := Aside0.mk (below_step zb hb)
        have n10_ := Aside0.mk (hbox)
        have n11_ := Aside0.mk ((by rw [hg]; exact (below_size zb) : w.heap.size ≤ gb1005))
        have n12_ := Aside0.mk ((by rw [hg]; exact (below_size zb) : w.heap.size ≤ gb1005))
        have n13_ := Aside0.mk ((by rw [hg]; exact Nat.ne_of_lt (blk_lt (g := gb985) (o := .cells #[.bool a0_0, .slice A0_1 l0_1.length c0_1] 27 (0, 0)) (zk BK985.out)) : gb985 ≠ gb1005))
        have n14_ := Aside0.mk ((by rw [hg]; exact Nat.ne_of_gt (blk_lt (g := gb985) (o := .cells #[.bool a0_0, .slice A0_1 l0_1.length c0_1] 27 (0, 0)) (zk BK985.out)) : gb1005 ≠ gb985))
        have n15_ := Aside0.mk ((by rw [hg]; exact Nat.ne_of_lt (blk_lt (g := gb986) (o := .cells #[.bool a1_0, .slice A1_1 l1_1.length c1_1] 27 (0, 0)) (zk BK986.out)) : gb986 ≠ gb1005))
        have n16_ := Aside0.mk ((by rw [hg]; exact Nat.ne_of_gt (blk_lt (g := gb986) (o := .cells #[.bool a1_0, .slice A1_1 l1_1.length c1_1] 27 (0, 0)) (zk BK986.out)) : gb1005 ≠ gb986))
        have n17_ := Aside0.mk ((by rw [hg]; exact Nat.ne_of_lt (blk_lt (g := gb987) (o := .cells #[.bool false, .slice none 0 0] 27 (0, 0)) (zk BK987.out)) : gb987 ≠ gb1005))
        have n18_ := Aside0.mk ((by rw [hg]; exact Nat.ne_of_gt (blk_lt (g := gb987) (o := .cells #[.bool false, .slice none 0 0] 27 (0, 0)) (zk BK987.out)) : gb1005 ≠ gb987))
        clear HO0_1
        clear HO1_1
        clear HO992
        clear HO996
        clear HO1000
        clear HO1004
        clear BK985
        clear BK986
        clear BK987
        clear HB
        have HO0_1 := n0_
        have HO1_1 := n1_
        have HO992 := n2_
        have HO996 := n3_
        have HO1000 := n4_
        have HO1004 := n5_
        have BK985 := n6_
        have BK986 := n7_
        have BK987 := n8_
        have HB := n9_
        have BK1005 := n10_
        have GW1005 := n11_
        have GE1005 := n12_
        have NB985_1005 := n13_
        have NB1005_985 := n14_
        have NB986_1005 := n15_
        have NB1005_986 := n16_
        have NB987_1005 := n17_
        have NB1005_987 := n18_
        clear n0_ n1_ n2_ n3_ n4_ n5_ n6_ n7_ n8_ n9_ n10_ n11_ n12_ n13_ n14_ n15_ n16_ n17_ n18_
        clear hb hbox hg
        refine hK.out _ _ ⟨(blk_cell BK985.out 0).trans rfl, (blk_cell BK985.out 1).trans rfl, (blk_cell BK986.out 0).trans rfl, (blk_cell BK986.out 1).trans rfl⟩ (fun hHeld => ?_)
        clear hK K
        refine norm_ (a' := ?_) ?_ ?_
        rotate_left
        · show Act.put _ (some 6) _ = _
          simp only [Act.put, List.setIfInBounds_toArray, List.set_cons_zero, List.set_cons_succ, i64_w, i32_w]
          rfl
        exact norm_ (by first | (simp only [putAll, Act.put, List.setIfInBounds_toArray, List.set_cons_zero, List.set_cons_succ]; done) | (simp only [putAll, Act.put, List.setIfInBounds_toArray, List.set_cons_zero, List.set_cons_succ]; rfl)) (hJ1_3_4_5_6 (v991, v995, v999, v1003, gb1005) _ ⟨hHeld, (by (with_reducible repeat (first | apply Kd.V_alloc | apply Kd.V_drewN | apply Kd.V_drew)); exact Kd.V_mono HO0_1.out (fun _ hk => ⟨hk.1.1, ⟨hk.1.2.1, ⟨hk.1.2.2.1, ⟨hk.1.2.2.2, hk.2⟩⟩⟩⟩)), (by (with_reducible repeat (first | apply Kd.V_alloc | apply Kd.V_drewN | apply Kd.V_drew)); exact Kd.V_mono HO1000.out (fun _ hk => ⟨hk.1.1, ⟨hk.1.2.1, ⟨hk.1.2.2.1, ⟨hk.1.2.2.2, hk.2⟩⟩⟩⟩)), (by (with_reducible repeat (first | apply Kd.V_alloc | apply Kd.V_drewN | apply Kd.V_drew)); exact Kd.V_mono HO1004.out (fun _ hk => ⟨hk.1.1, ⟨hk.1.2.1, ⟨hk.1.2.2.1, ⟨hk.1.2.2.2, hk.2⟩⟩⟩⟩)), (by (with_reducible repeat (first | apply Kd.V_alloc | apply Kd.V_drewN | apply Kd.V_drew)); exact Kd.V_mono HO1_1.out (fun _ hk => ⟨hk.1.1, ⟨hk.1.2.1, ⟨hk.1.2.2.1, ⟨hk.1.2.2.2, hk.2⟩⟩⟩⟩)), (by (with_reducible repeat (first | apply Kd.V_alloc | apply Kd.V_drewN | apply Kd.V_drew)); exact Kd.V_mono HO992.out (fun _ hk => ⟨hk.1.1, ⟨hk.1.2.1, ⟨hk.1.2.2.1, ⟨hk.1.2.2.2, hk.2⟩⟩⟩⟩)), (by (with_reducible repeat (first | apply Kd.V_alloc | apply Kd.V_drewN | apply Kd.V_drew)); exact Kd.V_mono HO996.out (fun _ hk => ⟨hk.1.1, ⟨hk.1.2.1, ⟨hk.1.2.2.1, ⟨hk.1.2.2.2, hk.2⟩⟩⟩⟩)), (zk BK1005.out), (zk BK985.out), (zk BK986.out), (zk BK987.out), GW1005.out, GE1005.out, NB985_1005.out, NB1005_985.out, NB986_1005.out, NB1005_986.out, NB987_1005.out, NB1005_987.out, zb⟩)
    rintro ⟨v991, v995, v999, v1003, gb1005⟩ w28 ⟨hS_, h0_, h1_, h2_, h3_, h4_, h5_, h6_, h7_, h8_, h9_, h10_, h11_, h12_, h13_, h14_, h15_, h16_, h17_, h18_⟩
    have n0_ : Aside0 (Kd.V (Kd.int .i64) 3 w28 w.heap.size (fun k_ => ((P0_1_ k_ ∨ P1_1_ k_) ∨ w.heap.size ≤ k_) ∧ k_ ≠ gb985 ∧ k_ ≠ gb986 ∧ k_ ≠ gb987 ∧ k_ ≠ gb1005) (.slice A0_1 l0_1.length c0_1) l0_1) := ⟨h0_⟩
    have n1_ : Aside0 (Kd.V (Kd.int .i64) 3 w28 w.heap.size (fun k_ => ((P0_1_ k_ ∨ P1_1_ k_) ∨ w.heap.size ≤ k_) ∧ k_ ≠ gb985 ∧ k_ ≠ gb986 ∧ k_ ≠ gb987 ∧ k_ ≠ gb1005) v999 t998) := ⟨h1_⟩
    have n2_ : Aside0 (Kd.V (Kd.int .i64) 3 w28 w.heap.size (fun k_ => ((P0_1_ k_ ∨ P1_1_ k_) ∨ w.heap.size ≤ k_) ∧ k_ ≠ gb985 ∧ k_ ≠ gb986 ∧ k_ ≠ gb987 ∧ k_ ≠ gb1005) v1003 t1002) := ⟨h2_⟩
    have n3_ : Aside0 (Kd.V (Kd.int .i64) 3 w28 w.heap.size (fun k_ => ((P0_1_ k_ ∨ P1_1_ k_) ∨ w.heap.size ≤ k_) ∧ k_ ≠ gb985 ∧ k_ ≠ gb986 ∧ k_ ≠ gb987 ∧ k_ ≠ gb1005) (.slice A1_1 l1_1.length c1_1) l1_1) := ⟨h3_⟩
    have n4_ : Aside0 (Kd.V (Kd.int .i64) 3 w28 w.heap.size (fun k_ => ((P0_1_ k_ ∨ P1_1_ k_) ∨ w.heap.size ≤ k_) ∧ k_ ≠ gb985 ∧ k_ ≠ gb986 ∧ k_ ≠ gb987 ∧ k_ ≠ gb1005) v991 t990) := ⟨h4_⟩
    have n5_ : Aside0 (Kd.V (Kd.int .i64) 3 w28 w.heap.size (fun k_ => ((P0_1_ k_ ∨ P1_1_ k_) ∨ w.heap.size ≤ k_) ∧ k_ ≠ gb985 ∧ k_ ≠ gb986 ∧ k_ ≠ gb987 ∧ k_ ≠ gb1005) v995 t994) := ⟨h5_⟩
    have n6_ : Aside0 (w28.heap[gb1005]? = some (.cells #[.bool false, .slice none 0 0] 64 (0, 0))) := ⟨h6_⟩
    have n7_ : Aside0 (w28.heap[gb985]? = some (.cells #[.bool a0_0, .slice A0_1 l0_1.length c0_1] 27 (0, 0))) := ⟨h7_⟩
    have n8_ : Aside0 (w28.heap[gb986]? = some (.cells #[.bool a1_0, .slice A1_1 l1_1.length c1_1] 27 (0, 0))) := ⟨h8_⟩
    have n9_ : Aside0 (w28.heap[gb987]? = some (.cells #[.bool false, .slice none 0 0] 27 (0, 0))) := ⟨h9_⟩
    have n10_ : Aside0 (w.heap.size ≤ gb1005) := ⟨h10_⟩
    have n11_ : Aside0 (w.heap.size ≤ gb1005) := ⟨h11_⟩
    have n12_ : Aside0 (gb985 ≠ gb1005) := ⟨h12_⟩
    have n13_ : Aside0 (gb1005 ≠ gb985) := ⟨h13_⟩
    have n14_ : Aside0 (gb986 ≠ gb1005) := ⟨h14_⟩
    have n15_ : Aside0 (gb1005 ≠ gb986) := ⟨h15_⟩
    have n16_ : Aside0 (gb987 ≠ gb1005) := ⟨h16_⟩
    have n17_ : Aside0 (gb1005 ≠ gb987) := ⟨h17_⟩
    have n18_ : Aside0 (Below w.heap.size w w28) := ⟨h18_⟩
    clear HO0_1
    clear HO1_1
    clear BK985
    clear BK986
    clear BK987
    clear HB
    clear h0_ h1_ h2_ h3_ h4_ h5_ h6_ h7_ h8_ h9_ h10_ h11_ h12_ h13_ h14_ h15_ h16_ h17_ h18_
    have HO0_1 := n0_
    have HO1000 := n1_
    have HO1004 := n2_
    have HO1_1 := n3_
    have HO992 := n4_
    have HO996 := n5_
    have BK1005 := n6_
    have BK985 := n7_
    have BK986 := n8_
    have BK987 := n9_
    have GW1005 := n10_
    have GE1005 := n11_
    have NB985_1005 := n12_
    have NB1005_985 := n13_
    have NB986_1005 := n14_
    have NB1005_986 := n15_
    have NB987_1005 := n16_
    have NB1005_987 := n17_
    have HB := n18_
    clear n0_ n1_ n2_ n3_ n4_ n5_ n6_ n7_ n8_ n9_ n10_ n11_ n12_ n13_ n14_ n15_ n16_ n17_ n18_
    have hHeld : w28.cell? ⟨gb985, 0, none⟩ = some (.bool a0_0) ∧ w28.cell? ⟨gb985, 1, none⟩ = some (.slice A0_1 l0_1.length c0_1) ∧ w28.cell? ⟨gb986, 0, none⟩ = some (.bool a1_0) ∧ w28.cell? ⟨gb986, 1, none⟩ = some (.slice A1_1 l1_1.length c1_1) := hS_
    obtain ⟨Ao30, co30, eo30⟩ := Kd.V_slice HO1004.out
    (first | subst eo30 | (injection eo30 with f1_ f2_ f3_; have f4_ := f1_.symm; have f5_ := f3_.symm; clear f1_ f2_ f3_; subst f4_; subst f5_))
    refine norm_ (a' := ?_) ?_ ?_
    rotate_left
    · simp only [putAll, Act.put, List.setIfInBounds_toArray, List.set_cons_zero, List.set_cons_succ]
      rfl
    refine one_ (i := 7) (N := none) #[true, true, true, true, true, true, true, true] rfl rfl (one_of HT_.out (by kernel_rfl)) (by decide) (fun K hK => ?_)
    have hs29 : w28.cell? ⟨gb1005, 0, none⟩ = some (.bool false) := (blk_cell BK1005.out 0).trans rfl
    have hfs29 := blk_frozen BK1005.out 0
    have hns29_0 := NB985_1005.out
    have hns29_1 := NB986_1005.out
    have hns29_2 := NB987_1005.out
    have hms29_0 := NB1005_985.out
    have hms29_1 := NB1005_986.out
    have hms29_2 := NB1005_987.out
    have hs31 : w28.cell? ⟨gb1005, 1, none⟩ = some (.slice none 0 0) := (blk_cell BK1005.out 1).trans rfl
    have hfs31 := blk_frozen BK1005.out 1
    have hns31_0 := NB985_1005.out
    have hns31_1 := NB986_1005.out
    have hns31_2 := NB987_1005.out
    have hms31_0 := NB1005_985.out
    have hms31_1 := NB1005_986.out
    have hms31_2 := NB1005_987.out
    refine skip_ (w1 := ?_) (by rfl) rfl ?_ ?_
    rotate_left
    · go_simp
      rfl
    refine hK.out _ _ ⟨((cell_far (p := ⟨gb1005, _, none⟩) NB985_1005.out _).trans (((cell_far (p := ⟨gb1005, _, none⟩) NB985_1005.out _).trans (hHeld.1)))), ((cell_far (p := ⟨gb1005, _, none⟩) NB985_1005.out _).trans (((cell_far (p := ⟨gb1005, _, none⟩) NB985_1005.out _).trans (hHeld.2.1)))), ((cell_far (p := ⟨gb1005, _, none⟩) NB986_1005.out _).trans (((cell_far (p := ⟨gb1005, _, none⟩) NB986_1005.out _).trans (hHeld.2.2.1)))), ((cell_far (p := ⟨gb1005, _, none⟩) NB986_1005.out _).trans (((cell_far (p := ⟨gb1005, _, none⟩) NB986_1005.out _).trans (hHeld.2.2.2))))⟩ (fun hHeld => ?_)
    clear hK K
    refine done_ (done_of HT_.out (by kernel_rfl)) ?_
    have n0_ : Aside0 (Kd.V (Kd.int .i64) 3 ((w28.setCell ⟨gb1005, 0, none⟩ (.bool t1001)).setCell ⟨gb1005, 1, none⟩ (.slice Ao30 t1002.length co30)) w.heap.size (fun k_ => ((P0_1_ k_ ∨ P1_1_ k_) ∨ w.heap.size ≤ k_) ∧ k_ ≠ gb985 ∧ k_ ≠ gb986 ∧ k_ ≠ gb987 ∧ k_ ≠ gb1005) (.slice A0_1 l0_1.length c0_1) l0_1) := ⟨by (with_reducible repeat (first | apply Kd.V_alloc | apply Kd.V_drewN | apply Kd.V_drew)); exact Kd.V_mono (Kd.V_far (p := ⟨gb1005, 1, none⟩) (Kd.V_far (p := ⟨gb1005, 0, none⟩) (Kd.V_mono HO0_1.out (fun k_ hk => (⟨hk, hk.2.2.2.2⟩ : _ ∧ k_ ≠ gb1005))) (fun _ hk => hk.2) (.bool t1001)) (fun _ hk => hk.2) (.slice Ao30 t1002.length co30)) (fun _ hk => ⟨hk.1.1, ⟨hk.1.2.1, ⟨hk.1.2.2.1, ⟨hk.1.2.2.2.1, hk.1.2.2.2.2⟩⟩⟩⟩)⟩
    have n1_ : Aside0 (Kd.V (Kd.int .i64) 3 ((w28.setCell ⟨gb1005, 0, none⟩ (.bool t1001)).setCell ⟨gb1005, 1, none⟩ (.slice Ao30 t1002.length co30)) w.heap.size (fun k_ => ((P0_1_ k_ ∨ P1_1_ k_) ∨ w.heap.size ≤ k_) ∧ k_ ≠ gb985 ∧ k_ ≠ gb986 ∧ k_ ≠ gb987 ∧ k_ ≠ gb1005) (.slice A1_1 l1_1.length c1_1) l1_1) := ⟨by (with_reducible repeat (first | apply Kd.V_alloc | apply Kd.V_drewN | apply Kd.V_drew)); exact Kd.V_mono (Kd.V_far (p := ⟨gb1005, 1, none⟩) (Kd.V_far (p := ⟨gb1005, 0, none⟩) (Kd.V_mono HO1_1.out (fun k_ hk => (⟨hk, hk.2.2.2.2⟩ : _ ∧ k_ ≠ gb1005))) (fun _ hk => hk.2) (.bool t1001)) (fun _ hk => hk.2) (.slice Ao30 t1002.length co30)) (fun _ hk => ⟨hk.1.1, ⟨hk.1.2.1, ⟨hk.1.2.2.1, ⟨hk.1.2.2.2.1, hk.1.2.2.2.2⟩⟩⟩⟩)⟩
    have n2_ : Aside0 (Kd.V (Kd.int .i64) 3 ((w28.setCell ⟨gb1005, 0, none⟩ (.bool t1001)).setCell ⟨gb1005, 1, none⟩ (.slice Ao30 t1002.length co30)) w.heap.size (fun k_ => ((P0_1_ k_ ∨ P1_1_ k_) ∨ w.heap.size ≤ k_) ∧ k_ ≠ gb985 ∧ k_ ≠ gb986 ∧ k_ ≠ gb987 ∧ k_ ≠ gb1005) v991 t990) := ⟨by (with_reducible repeat (first | apply Kd.V_alloc | apply Kd.V_drewN | apply Kd.V_drew)); exact Kd.V_mono (Kd.V_far (p := ⟨gb1005, 1, none⟩) (Kd.V_far (p := ⟨gb1005, 0, none⟩) (Kd.V_mono HO992.out (fun k_ hk => (⟨hk, hk.2.2.2.2⟩ : _ ∧ k_ ≠ gb1005))) (fun _ hk => hk.2) (.bool t1001)) (fun _ hk => hk.2) (.slice Ao30 t1002.length co30)) (fun _ hk => ⟨hk.1.1, ⟨hk.1.2.1, ⟨hk.1.2.2.1, ⟨hk.1.2.2.2.1, hk.1.2.2.2.2⟩⟩⟩⟩)⟩
    have n3_ : Aside0 (Kd.V (Kd.int .i64) 3 ((w28.setCell ⟨gb1005, 0, none⟩ (.bool t1001)).setCell ⟨gb1005, 1, none⟩ (.slice Ao30 t1002.length co30)) w.heap.size (fun k_ => ((P0_1_ k_ ∨ P1_1_ k_) ∨ w.heap.size ≤ k_) ∧ k_ ≠ gb985 ∧ k_ ≠ gb986 ∧ k_ ≠ gb987 ∧ k_ ≠ gb1005) v995 t994) := ⟨by (with_reducible repeat (first | apply Kd.V_alloc | apply Kd.V_drewN | apply Kd.V_drew)); exact Kd.V_mono (Kd.V_far (p := ⟨gb1005, 1, none⟩) (Kd.V_far (p := ⟨gb1005, 0, none⟩) (Kd.V_mono HO996.out (fun k_ hk => (⟨hk, hk.2.2.2.2⟩ : _ ∧ k_ ≠ gb1005))) (fun _ hk => hk.2) (.bool t1001)) (fun _ hk => hk.2) (.slice Ao30 t1002.length co30)) (fun _ hk => ⟨hk.1.1, ⟨hk.1.2.1, ⟨hk.1.2.2.1, ⟨hk.1.2.2.2.1, hk.1.2.2.2.2⟩⟩⟩⟩)⟩
    have n4_ : Aside0 (Kd.V (Kd.int .i64) 3 ((w28.setCell ⟨gb1005, 0, none⟩ (.bool t1001)).setCell ⟨gb1005, 1, none⟩ (.slice Ao30 t1002.length co30)) w.heap.size (fun k_ => ((P0_1_ k_ ∨ P1_1_ k_) ∨ w.heap.size ≤ k_) ∧ k_ ≠ gb985 ∧ k_ ≠ gb986 ∧ k_ ≠ gb987 ∧ k_ ≠ gb1005) v999 t998) := ⟨by (with_reducible repeat (first | apply Kd.V_alloc | apply Kd.V_drewN | apply Kd.V_drew)); exact Kd.V_mono (Kd.V_far (p := ⟨gb1005, 1, none⟩) (Kd.V_far (p := ⟨gb1005, 0, none⟩) (Kd.V_mono HO1000.out (fun k_ hk => (⟨hk, hk.2.2.2.2⟩ : _ ∧ k_ ≠ gb1005))) (fun _ hk => hk.2) (.bool t1001)) (fun _ hk => hk.2) (.slice Ao30 t1002.length co30)) (fun _ hk => ⟨hk.1.1, ⟨hk.1.2.1, ⟨hk.1.2.2.1, ⟨hk.1.2.2.2.1, hk.1.2.2.2.2⟩⟩⟩⟩)⟩
    have n5_ : Aside0 (Kd.V (Kd.int .i64) 3 ((w28.setCell ⟨gb1005, 0, none⟩ (.bool t1001)).setCell ⟨gb1005, 1, none⟩ (.slice Ao30 t1002.length co30)) w.heap.size (fun k_ => ((P0_1_ k_ ∨ P1_1_ k_) ∨ w.heap.size ≤ k_) ∧ k_ ≠ gb985 ∧ k_ ≠ gb986 ∧ k_ ≠ gb987 ∧ k_ ≠ gb1005) (.slice Ao30 t1002.length co30) t1002) := ⟨by (with_reducible repeat (first | apply Kd.V_alloc | apply Kd.V_drewN | apply Kd.V_drew)); exact Kd.V_mono (Kd.V_far (p := ⟨gb1005, 1, none⟩) (Kd.V_far (p := ⟨gb1005, 0, none⟩) (Kd.V_mono HO1004.out (fun k_ hk => (⟨hk, hk.2.2.2.2⟩ : _ ∧ k_ ≠ gb1005))) (fun _ hk => hk.2) (.bool t1001)) (fun _ hk => hk.2) (.slice Ao30 t1002.length co30)) (fun _ hk => ⟨hk.1.1, ⟨hk.1.2.1, ⟨hk.1.2.2.1, ⟨hk.1.2.2.2.1, hk.1.2.2.2.2⟩⟩⟩⟩)⟩
    have n6_ : Aside0 (((w28.setCell ⟨gb1005, 0, none⟩ (.bool t1001)).setCell ⟨gb1005, 1, none⟩ (.slice Ao30 t1002.length co30)).heap[gb985]? = some (.cells #[.bool a0_0, .slice A0_1 l0_1.length c0_1] 27 (0, 0))) := ⟨by (with_reducible repeat (first | refine blk_drewN ?_ _ | refine blk_drew ?_ | refine blk_alloc ?_ _)); refine blk_far ?_ NB985_1005.out _; (with_reducible repeat (first | refine blk_drewN ?_ _ | refine blk_drew ?_ | refine blk_alloc ?_ _)); refine blk_far ?_ NB985_1005.out _; (with_reducible repeat (first | refine blk_drewN ?_ _ | refine blk_drew ?_ | refine blk_alloc ?_ _)); exact BK985.out⟩
    have n7_ : Aside0 (((w28.setCell ⟨gb1005, 0, none⟩ (.bool t1001)).setCell ⟨gb1005, 1, none⟩ (.slice Ao30 t1002.length co30)).heap[gb986]? = some (.cells #[.bool a1_0, .slice A1_1 l1_1.length c1_1] 27 (0, 0))) := ⟨by (with_reducible repeat (first | refine blk_drewN ?_ _ | refine blk_drew ?_ | refine blk_alloc ?_ _)); refine blk_far ?_ NB986_1005.out _; (with_reducible repeat (first | refine blk_drewN ?_ _ | refine blk_drew ?_ | refine blk_alloc ?_ _)); refine blk_far ?_ NB986_1005.out _; (with_reducible repeat (first | refine blk_drewN ?_ _ | refine blk_drew ?_ | refine blk_alloc ?_ _)); exact BK986.out⟩
    have n8_ : Aside0 (((w28.setCell ⟨gb1005, 0, none⟩ (.bool t1001)).setCell ⟨gb1005, 1, none⟩ (.slice Ao30 t1002.length co30)).heap[gb987]? = some (.cells #[.bool false, .slice none 0 0] 27 (0, 0))) := ⟨by (with_reducible repeat (first | refine blk_drewN ?_ _ | refine blk_drew ?_ | refine blk_alloc ?_ _)); refine blk_far ?_ NB987_1005.out _; (with_reducible repeat (first | refine blk_drewN ?_ _ | refine blk_drew ?_ | refine blk_alloc ?_ _)); refine blk_far ?_ NB987_1005.out _; (with_reducible repeat (first | refine blk_drewN ?_ _ | refine blk_drew ?_ | refine blk_alloc ?_ _)); exact BK987.out⟩
    have n9_ : Aside0 (((w28.setCell ⟨gb1005, 0, none⟩ (.bool t1001)).setCell ⟨gb1005, 1, none⟩ (.slice Ao30 t1002.length co30)).heap[gb1005]? = some (.cells #[.bool t1001, .slice Ao30 t1002.length co30] 64 (0, 0))) := ⟨by (with_reducible repeat (first | refine blk_drewN ?_ _ | refine blk_drew ?_ | refine blk_alloc ?_ _)); refine blk_put (cs := #[.bool t1001, .slice none 0 0]) ?_ 1 _ rfl; (with_reducible repeat (first | refine blk_drewN ?_ _ | refine blk_drew ?_ | refine blk_alloc ?_ _)); refine blk_put (cs := #[.bool false, .slice none 0 0]) ?_ 0 _ rfl; (with_reducible repeat (first | refine blk_drewN ?_ _ | refine blk_drew ?_ | refine blk_alloc ?_ _)); exact BK1005.out⟩
    have n10_ : Aside0 (Below w.heap.size w ((w28.setCell ⟨gb1005, 0, none⟩ (.bool t1001)).setCell ⟨gb1005, 1, none⟩ (.slice Ao30 t1002.length co30))) := ⟨zb⟩
    (try clear HO0_1)
    (try clear HO1_1)
    (try clear HO992)
    (try clear HO996)
    (try clear HO1000)
    (try clear HO1004)
    (try clear BK985)
    (try clear BK986)
    (try clear BK987)
    (try clear BK1005)
    (try clear HB)
    generalize ((w28.setCell ⟨gb1005, 0, none⟩ (.bool t1001)).setCell ⟨gb1005, 1, none⟩ (.slice Ao30 t1002.length co30)) = w32 at n0_ n1_ n2_ n3_ n4_ n5_ n6_ n7_ n8_ n9_ n10_ ⊢
    have HO0_1 := n0_
    have HO1_1 := n1_
    have HO992 := n2_
    have HO996 := n3_
    have HO1000 := n4_
    have HO1004 := n5_
    have BK985 := n6_
    have BK986 := n7_
    have BK987 := n8_
    have BK1005 := n9_
    have HB := n10_
    clear n0_ n1_ n2_ n3_ n4_ n5_ n6_ n7_ n8_ n9_ n10_
    have hnb33 := NB1005_985.out
    have hnc33 := NB985_1005.out
    have hnb34 := NB1005_986.out
    have hnc34 := NB986_1005.out
    have hnb35 := NB1005_987.out
    have hnc35 := NB987_1005.out
    have hcz36_0 : w32.cell? ⟨gb1005, 0, none⟩ = some (.bool t1001) := (blk_cell BK1005.out 0).trans rfl
    have hcz36_1 : w32.cell? ⟨gb1005, 1, none⟩ = some (.slice Ao30 t1002.length co30) := (blk_cell BK1005.out 1).trans rfl
    have hfz36_0 := blk_frozen BK1005.out 0
    have hfz36_1 := blk_frozen BK1005.out 1
    try go_wp2_with (first | ((with_reducible refine gate_callee (f := 55) rfl ?_); refine goesL_ (some 22) rfl rfl Try.func55 (by kernel_rfl) rfl #[.bool t1001, .slice Ao30 t1002.length co30] rfl za ?_; (with_reducible refine (impl_big.calls k t1001 (fun k_ => (((P0_1_ k_ ∨ P1_1_ k_) ∨ w.heap.size ≤ k_) ∧ (k_ ≠ gb985 ∧ (k_ ≠ gb986 ∧ (k_ ≠ gb987 ∧ k_ ≠ gb1005))))) _ _ t1002 t1006 t1007 t1010 _ ?side1 A9.out).mono ?_); (case side1 => exact HO1004.out); rintro e w37 ⟨v1008, rfl, ho0, hb⟩; refine ⟨_, rfl, ?_⟩; have n0_ := Aside0.mk (Kd.V_below (zV HO0_1.out) hb); have n1_ := Aside0.mk (Kd.V_below (zV HO1_1.out) hb); have n2_ := Aside0.mk (Kd.V_below (zV HO992.out) hb); have n3_ := Aside0.mk (Kd.V_below (zV HO996.out) hb); have n4_ := Aside0.mk (Kd.V_below (zV HO1000.out) hb); have n5_ := Aside0.mk (Kd.V_below (zV HO1004.out) hb); have n6_ := Aside0.mk (Kd.V_lower (Kd.V_mono (ok' := fun k_ => ((P0_1_ k_ ∨ P1_1_ k_) ∨ w.heap.size ≤ k_) ∧ k_ ≠ gb985 ∧ k_ ≠ gb986 ∧ k_ ≠ gb987 ∧ k_ ≠ gb1005) ho0 (fun k_ hk_ => ⟨Or.elim hk_ (fun hs_ => hs_.1) (fun hn_ => (.inr (Nat.le_trans (below_size zb) hn_))), Or.elim hk_ (fun hs_ => hs_.2.1) (fun hn_ => (Kd.freshB (g := gb985) (o := .cells #[.bool a0_0, .slice A0_1 l0_1.length c0_1] 27 (0, 0)) (zk BK985.out) k_ hn_)), Or.elim hk_ (fun hs_ => hs_.2.2.1) (fun hn_ => (Kd.freshB (g := gb986) (o := .cells #[.bool a1_0, .slice A1_1 l1_1.length c1_1] 27 (0, 0)) (zk BK986.out) k_ hn_)), Or.elim hk_ (fun hs_ => hs_.2.2.2.1) (fun hn_ => (Kd.freshB (g := gb987) (o := .cells #[.bool false, .slice none 0 0] 27 (0, 0)) (zk BK987.out) k_ hn_)), Or.elim hk_ (fun hs_ => hs_.2.2.2.2) (fun hn_ => (Kd.freshB (g := gb1005) (o := .cells #[.bool t1001, .slice Ao30 t1002.length co30] 64 (0, 0)) (zk BK1005.out) k_ hn_))⟩)) (below_size zb)); have n7_ := Aside0.mk (blk_below (g := gb985) (o := .cells #[.bool a0_0, .slice A0_1 l0_1.length c0_1] 27 (0, 0)) (zk BK985.out) hb); have n8_ := Aside0.mk (blk_below (g := gb986) (o := .cells #[.bool a1_0, .slice A1_1 l1_1.length c1_1] 27 (0, 0)) (zk BK986.out) hb); have n9_ := Aside0.mk (blk_below (g := gb987) (o := .cells #[.bool false, .slice none 0 0] 27 (0, 0)) (zk BK987.out) hb); have n10_ := Aside0.mk (blk_below (g := gb1005) (o := .cells #[.bool t1001, .slice Ao30 t1002.length co30] 64 (0, 0)) (zk BK1005.out) hb); have n11_ := Aside0.mk (below_step zb hb); clear HO0_1; clear HO1_1; clear HO992; clear HO996; clear HO1000; clear HO1004; clear BK985; clear BK986; clear BK987; clear BK1005; clear HB; have HO0_1 := n0_; have HO1_1 := n1_; have HO992 := n2_; have HO996 := n3_; have HO1000 := n4_; have HO1004 := n5_; have HO1009 := n6_; have BK985 := n7_; have BK986 := n8_; have BK987 := n9_; have BK1005 := n10_; have HB := n11_; clear n0_ n1_ n2_ n3_ n4_ n5_ n6_ n7_ n8_ n9_ n10_ n11_; (try clear hb); (try clear hb2); (try clear hk); (try clear hi); (try clear ho0); have hcz38_0 : w37.cell? ⟨gb987, 0, none⟩ = some (.bool false) := (blk_cell BK987.out 0).trans rfl; have hcz38_1 : w37.cell? ⟨gb987, 1, none⟩ = some (.slice none 0 0) := (blk_cell BK987.out 1).trans rfl; have hfz38_0 := blk_frozen BK987.out 0; have hfz38_1 := blk_frozen BK987.out 1; obtain ⟨Ao39, co39, eo39⟩ := Kd.V_slice HO1009.out; subst eo39))
    refine bodyPost_ret (results_ct rfl _ _ gb987 27 #[.bool t1006, .slice Ao39 t1007.length co39] (0, 0) _ rfl (by (with_reducible repeat (first | refine blk_drewN ?_ _ | refine blk_drew ?_ | refine blk_alloc ?_ _)); refine blk_put (cs := #[.bool t1006, .slice none 0 0]) ?_ 1 _ rfl; (with_reducible repeat (first | refine blk_drewN ?_ _ | refine blk_drew ?_ | refine blk_alloc ?_ _)); refine blk_put (cs := #[.bool false, .slice none 0 0]) ?_ 0 _ rfl; (with_reducible repeat (first | refine blk_drewN ?_ _ | refine blk_drew ?_ | refine blk_alloc ?_ _)); exact BK987.out) Try.underlying27 rfl (by kernel_rfl)) rfl ?_
    exact ⟨_, by first | rfl | (simp [errW_none, errW_some] <;> rfl) | (simp [*, errW_none, errW_some] <;> rfl), by (with_reducible repeat (first | apply Kd.V_alloc | apply Kd.V_drewN | apply Kd.V_drew)); exact Kd.V_mono (Kd.V_far (p := ⟨gb987, 1, none⟩) (Kd.V_far (p := ⟨gb987, 0, none⟩) (Kd.V_mono HO1009.out (fun k_ hk => (⟨hk, hk.2.2.2.1⟩ : _ ∧ k_ ≠ gb987))) (fun _ hk => hk.2) (.bool t1006)) (fun _ hk => hk.2) (.slice Ao39 t1007.length co39)) (fun _ hk => hk.1.1), zb⟩
  · replace c4 := Bool.eq_false_iff.mpr c4
    subst c4
    have H1 : (some (false, ([] : List Int), false)) = some (r1, r2, r3) := by rw [if_neg (show ¬ (false = true) by decide)] at H; exact H
    clear H
    have H := H1
    clear H1
    simp only [Option.some.injEq, Prod.mk.injEq] at H
    obtain ⟨rfl, rfl, rfl⟩ := H
    go_enter Try.func41, Try.ntmps41
    go_wp2_with (first | ((with_reducible refine gate_dst (N := 2) rfl ?_); refine box_event ?hg (N := 2) ?hd (cs := #[.bool a0_0, .slice A0_1 l0_1.length c0_1]) (t := 27) ?hr ?_; (case hd => rfl); (case hg => rfl); (case hr => first | (go_simp; done) | (go_simp; rfl)); intro gb985 hg w40 hbox hb; have n0_ := Aside0.mk (Kd.V_below (Kd.V_elderB (zV HO0_1.out) gb985 (Nat.le_of_eq hg.symm)) hb); have n1_ := Aside0.mk (Kd.V_below (Kd.V_elderB (zV HO1_1.out) gb985 (Nat.le_of_eq hg.symm)) hb); have n2_ := Aside0.mk (below_step zb hb); have n3_ := Aside0.mk (hbox); have n4_ := Aside0.mk ((by rw [hg]; exact (below_size zb) : w.heap.size ≤ gb985)); have n5_ := Aside0.mk ((by rw [hg]; exact (below_size zb) : w.heap.size ≤ gb985)); clear HO0_1; clear HO1_1; clear HB; have HO0_1 := n0_; have HO1_1 := n1_; have HB := n2_; have BK985 := n3_; have GW985 := n4_; have GE985 := n5_; clear n0_ n1_ n2_ n3_ n4_ n5_; clear hb hbox hg) | ((with_reducible refine gate_dst (N := 3) rfl ?_); refine box_event ?hg (N := 3) ?hd (cs := #[.bool a1_0, .slice A1_1 l1_1.length c1_1]) (t := 27) ?hr ?_; (case hd => rfl); (case hg => rfl); (case hr => first | (go_simp; done) | (go_simp; rfl)); intro gb986 hg w41 hbox hb; have n0_ := Aside0.mk (Kd.V_below (Kd.V_elderB (zV HO0_1.out) gb986 (Nat.le_of_eq hg.symm)) hb); have n1_ := Aside0.mk (Kd.V_below (Kd.V_elderB (zV HO1_1.out) gb986 (Nat.le_of_eq hg.symm)) hb); have n2_ := Aside0.mk (blk_below (g := gb985) (o := .cells #[.bool a0_0, .slice A0_1 l0_1.length c0_1] 27 (0, 0)) (zk BK985.out) hb); have n3_ := Aside0.mk (below_step zb hb); have n4_ := Aside0.mk (hbox); have n5_ := Aside0.mk ((by rw [hg]; exact (below_size zb) : w.heap.size ≤ gb986)); have n6_ := Aside0.mk ((by rw [hg]; exact (below_size zb) : w.heap.size ≤ gb986)); have n7_ := Aside0.mk ((by rw [hg]; exact Nat.ne_of_lt (blk_lt (g := gb985) (o := .cells #[.bool a0_0, .slice A0_1 l0_1.length c0_1] 27 (0, 0)) (zk BK985.out)) : gb985 ≠ gb986)); have n8_ := Aside0.mk ((by rw [hg]; exact Nat.ne_of_gt (blk_lt (g := gb985) (o := .cells #[.bool a0_0, .slice A0_1 l0_1.length c0_1] 27 (0, 0)) (zk BK985.out)) : gb986 ≠ gb985)); clear HO0_1; clear HO1_1; clear BK985; clear HB; have HO0_1 := n0_; have HO1_1 := n1_; have BK985 := n2_; have HB := n3_; have BK986 := n4_; have GW986 := n5_; have GE986 := n6_; have NB985_986 := n7_; have NB986_985 := n8_; clear n0_ n1_ n2_ n3_ n4_ n5_ n6_ n7_ n8_; clear hb hbox hg) | ((with_reducible refine gate_dst (N := 4) rfl ?_); refine box_event ?hg (N := 4) ?hd (cs := #[.bool false, .slice none 0 0]) (t := 27) ?hr ?_; (case hd => rfl); (case hg => rfl); (case hr => first | (go_simp; done) | (go_simp; rfl)); intro gb987 hg w42 hbox hb; have n0_ := Aside0.mk (Kd.V_below (Kd.V_elderB (zV HO0_1.out) gb987 (Nat.le_of_eq hg.symm)) hb); have n1_ := Aside0.mk (Kd.V_below (Kd.V_elderB (zV HO1_1.out) gb987 (Nat.le_of_eq hg.symm)) hb); have n2_ := Aside0.mk (blk_below (g := gb985) (o := .cells #[.bool a0_0, .slice A0_1 l0_1.length c0_1] 27 (0, 0)) (zk BK985.out) hb); have n3_ := Aside0.mk (blk_below (g := gb986) (o := .cells #[.bool a1_0, .slice A1_1 l1_1.length c1_1] 27 (0, 0)) (zk BK986.out) hb); have n4_ := Aside0.mk (below_step zb hb); have n5_ := Aside0.mk (hbox); have n6_ := Aside0.mk ((by rw [hg]; exact (below_size zb) : w.heap.size ≤ gb987)); have n7_ := Aside0.mk ((by rw [hg]; exact (below_size zb) : w.heap.size ≤ gb987)); have n8_ := Aside0.mk ((by rw [hg]; exact Nat.ne_of_lt (blk_lt (g := gb985) (o := .cells #[.bool a0_0, .slice A0_1 l0_1.length c0_1] 27 (0, 0)) (zk BK985.out)) : gb985 ≠ gb987)); have n9_ := Aside0.mk ((by rw [hg]; exact Nat.ne_of_gt (blk_lt (g := gb985) (o := .cells #[.bool a0_0, .slice A0_1 l0_1.length c0_1] 27 (0, 0)) (zk BK985.out)) : gb987 ≠ gb985)); have n10_ := Aside0.mk ((by rw [hg]; exact Nat.ne_of_lt (blk_lt (g := gb986) (o := .cells #[.bool a1_0, .slice A1_1 l1_1.length c1_1] 27 (0, 0)) (zk BK986.out)) : gb986 ≠ gb987)); have n11_ := Aside0.mk ((by rw [hg]; exact Nat.ne_of_gt (blk_lt (g := gb986) (o := .cells #[.bool a1_0, .slice A1_1 l1_1.length c1_1] 27 (0, 0)) (zk BK986.out)) : gb987 ≠ gb986)); clear HO0_1; clear HO1_1; clear BK985; clear BK986; clear HB; have HO0_1 := n0_; have HO1_1 := n1_; have BK985 := n2_; have BK986 := n3_; have HB := n4_; have BK987 := n5_; have GW987 := n6_; have GE987 := n7_; have NB985_987 := n8_; have NB987_985 := n9_; have NB986_987 := n10_; have NB987_986 := n11_; clear n0_ n1_ n2_ n3_ n4_ n5_ n6_ n7_ n8_ n9_ n10_ n11_; clear hb hbox hg; have hnb43 := NB985_986.out; have hnc43 := NB986_985.out; have hnb44 := NB985_987.out; have hnc44 := NB987_985.out; have hcz45_0 : w42.cell? ⟨gb985, 0, none⟩ = some (.bool a0_0) := (blk_cell BK985.out 0).trans rfl; have hcz45_1 : w42.cell? ⟨gb985, 1, none⟩ = some (.slice A0_1 l0_1.length c0_1) := (blk_cell BK985.out 1).trans rfl; have hfz45_0 := blk_frozen BK985.out 0; have hfz45_1 := blk_frozen BK985.out 1; have hnb46 := NB986_987.out; have hnc46 := NB987_986.out; have hcz47_0 : w42.cell? ⟨gb986, 0, none⟩ = some (.bool a1_0) := (blk_cell BK986.out 0).trans rfl; have hcz47_1 : w42.cell? ⟨gb986, 1, none⟩ = some (.slice A1_1 l1_1.length c1_1) := (blk_cell BK986.out 1).trans rfl; have hfz47_0 := blk_frozen BK986.out 0; have hfz47_1 := blk_frozen BK986.out 1) | ((with_reducible refine gate_callee (f := 67) rfl ?_); refine goesL_ (some 9) rfl rfl Try.func67 (by kernel_rfl) rfl #[.agg #[.bool a0_0, .slice A0_1 l0_1.length c0_1], .agg #[.bool a1_0, .slice A1_1 l1_1.length c1_1]] rfl za ?_; (with_reducible refine (impl_bigs.calls a0_0 _ _ l0_1 a1_0 _ _ l1_1 false _ ?side1 ?side2 ?side3 ?side4 A3.out).mono ?_); (case side1 => repeat (first | exact (Kd.V_reads' HO0_1.out).2.2 | (with_reducible refine Kd.C_alloc ?_ _) | (with_reducible refine Kd.C_drewN ?_ _) | (with_reducible refine Kd.C_drew ?_))); (case side2 => exact (Kd.V_reads' HO0_1.out).2.1); (case side3 => repeat (first | exact (Kd.V_reads' HO1_1.out).2.2 | (with_reducible refine Kd.C_alloc ?_ _) | (with_reducible refine Kd.C_drewN ?_ _) | (with_reducible refine Kd.C_drew ?_))); (case side4 => exact (Kd.V_reads' HO1_1.out).2.1); rintro e w48 ⟨rfl, hb⟩; refine ⟨_, rfl, ?_⟩; have n0_ := Aside0.mk (Kd.V_below (zV HO0_1.out) hb); have n1_ := Aside0.mk (Kd.V_below (zV HO1_1.out) hb); have n2_ := Aside0.mk (blk_below (g := gb985) (o := .cells #[.bool a0_0, .slice A0_1 l0_1.length c0_1] 27 (0, 0)) (zk BK985.out) hb); have n3_ := Aside0.mk (blk_below (g := gb986) (o := .cells #[.bool a1_0, .slice A1_1 l1_1.length c1_1] 27 (0, 0)) (zk BK986.out) hb); have n4_ := Aside0.mk (blk_below (g := gb987) (o := .cells #[.bool false, .slice none 0 0] 27 (0, 0)) (zk BK987.out) hb); have n5_ := Aside0.mk (below_step zb hb); clear HO0_1; clear HO1_1; clear BK985; clear BK986; clear BK987; clear HB; have HO0_1 := n0_; have HO1_1 := n1_; have BK985 := n2_; have BK986 := n3_; have BK987 := n4_; have HB := n5_; clear n0_ n1_ n2_ n3_ n4_ n5_; (try clear hb); (try clear hb2); (try clear hk); (try clear hi); have hcz49_0 : w48.cell? ⟨gb987, 0, none⟩ = some (.bool false) := (blk_cell BK987.out 0).trans rfl; have hcz49_1 : w48.cell? ⟨gb987, 1, none⟩ = some (.slice none 0 0) := (blk_cell BK987.out 1).trans rfl; have hfz49_0 := blk_frozen BK987.out 0; have hfz49_1 := blk_frozen BK987.out 1))
    refine bodyPost_ret (results_ct rfl _ _ gb987 27 #[.bool false, .slice none 0 0] (0, 0) _ rfl (by (with_reducible repeat (first | refine blk_drewN ?_ _ | refine blk_drew ?_ | refine blk_alloc ?_ _)); refine blk_put (cs := #[.bool false, .slice none 0 0]) ?_ 1 _ rfl; (with_reducible repeat (first | refine blk_drewN ?_ _ | refine blk_drew ?_ | refine blk_alloc ?_ _)); refine blk_put (cs := #[.bool false, .slice none 0 0]) ?_ 0 _ rfl; (with_reducible repeat (first | refine blk_drewN ?_ _ | refine blk_drew ?_ | refine blk_alloc ?_ _)); exact BK987.out) Try.underlying27 rfl (by kernel_rfl)) rfl ?_
    exact ⟨_, by first | rfl | (simp [errW_none, errW_some] <;> rfl) | (simp [*, errW_none, errW_some] <;> rfl), Kd.V_nil _ _ _ _ _, zb⟩
end Go.Proofs.Ytdemeoncjcbojaa.Pr
end
section
namespace Go.Proofs.Ytdemeoncjcbojaa.Pr
open Go.RowKit Go.Proofs.YtdemeoncjcbojaaW.PrintWords Go.Proofs.YtdemeoncjcbojaaW.PrintLast Go.Proofs.Ytdemeoncjcbojaa.Ext Go.Proofs.YtdemeoncjcbojaaW.PrintMore
attribute [local go_sem] max2_int min2_int max_two min_two max_three min_three max_four min_four
set_option linter.unusedVariables false
set_option linter.unusedSimpArgs false
def laws_FnBigAdd.f (k : Nat) (l0 : List Int) : Option (Bool) := if (l0.length : Int) > 1048576 then (some true) else ((spec_DrawBigAdd.f k l0).bind fun bt1226 => ((impl_BigAdd.f k bt1226.1 bt1226.2.1 bt1226.2.2.1 bt1226.2.2.2).bind fun bt1236 => ((spec_BigAdd.f k bt1226.1 bt1226.2.1 bt1226.2.2.1 bt1226.2.2.2).bind fun bt1242 => (if (bt1236.2.2 != bt1242.2.2) = true then (none) else ((laws_jtBig.f k bt1236.1 bt1236.2.1 bt1242.1 bt1242.2.1).bind fun t1248 => (if t1248 = true then (if bt1236.2.2 = true then ((impl_BigSub.f k bt1236.1 bt1236.2.1 bt1226.2.2.1 bt1226.2.2.2).bind fun bt1250 => ((impl_BigAdd.f k bt1226.2.2.1 bt1226.2.2.2 bt1226.1 bt1226.2.1).bind fun bt1256 => (if bt1250.2.2 = true then (if bt1256.2.2 = true then ((laws_jtBig.f k bt1250.1 bt1250.2.1 bt1226.1 bt1226.2.1).bind fun t1262 => (if t1262 = true then ((laws_jtBig.f k bt1256.1 bt1256.2.1 bt1236.1 bt1236.2.1).bind fun t1263 => (some t1263)) else (none))) else (none)) else (none)))) else (if (bt1236.2.2 == bt1242.2.2) = true then ((laws_jtBig.f k bt1236.1 bt1236.2.1 bt1242.1 bt1242.2.1).bind fun t1249 => (some t1249)) else (none))) else (none)))))))
set_option maxHeartbeats 8000000 in
set_option maxRecDepth 100000 in
theorem laws_FnBigAdd.calls (k : Nat) (A0 : Option Addr) (c0 : Nat) (l0 : List Int) (r : Bool) (w : World) (hr0 : Kd.C (Kd.int .u8) w A0 l0.length l0) (hc0 : l0.length ≤ c0) (h : laws_FnBigAdd.f k l0 = some r) :
    Calls Try.prog 16 #[.slice A0 l0.length c0] w fun e w' => e = .returned (.bool r) ∧ Below w.heap.size w w' := by
  have hu27 := Try.underlying27
  have HR0 := Aside0.mk hr0
  have HC0 := Aside0.mk hc0
  clear hr0 hc0
  have HB := Aside0.mk (Below.refl w.heap.size w)
  have H : (if (l0.length : Int) > 1048576 then (some true) else ((spec_DrawBigAdd.f k l0).bind fun bt1226 => ((impl_BigAdd.f k bt1226.1 bt1226.2.1 bt1226.2.2.1 bt1226.2.2.2).bind fun bt1236 => ((spec_BigAdd.f k bt1226.1 bt1226.2.1 bt1226.2.2.1 bt1226.2.2.2).bind fun bt1242 => (if (bt1236.2.2 != bt1242.2.2) = true then (none) else ((laws_jtBig.f k bt1236.1 bt1236.2.1 bt1242.1 bt1242.2.1).bind fun t1248 => (if t1248 = true then (if bt1236.2.2 = true then ((impl_BigSub.f k bt1236.1 bt1236.2.1 bt1226.2.2.1 bt1226.2.2.2).bind fun bt1250 => ((impl_BigAdd.f k bt1226.2.2.1 bt1226.2.2.2 bt1226.1 bt1226.2.1).bind fun bt1256 => (if bt1250.2.2 = true then (if bt1256.2.2 = true then ((laws_jtBig.f k bt1250.1 bt1250.2.1 bt1226.1 bt1226.2.1).bind fun t1262 => (if t1262 = true then ((laws_jtBig.f k bt1256.1 bt1256.2.1 bt1236.1 bt1236.2.1).bind fun t1263 => (some t1263)) else (none))) else (none)) else (none)))) else (if (bt1236.2.2 == bt1242.2.2) = true then ((laws_jtBig.f k bt1236.1 bt1236.2.1 bt1242.1 bt1242.2.1).bind fun t1249 => (some t1249)) else (none))) else (none)))))))) = some r := h
  clear h
  by_cases c2 : (l0.length : Int) > 1048576
  · rw [if_pos c2] at H
    have c2b0 : decide (1048576 < (l0.length : Int)) = true := decide_eq_true c2
    have c2b1 : decide (1048576 < l0.length) = true := decide_eq_true (by omega)
    clear c2
    obtain rfl := Option.some.inj H
    go_enter Try.func16, Try.ntmps16
    go_wp2
    go_ret
    exact ⟨by first | rfl | (simp [errW_none, errW_some] <;> rfl) | (simp [*, errW_none, errW_some] <;> rfl), zb⟩
  · rw [if_neg c2] at H
    have c2b0 : decide (1048576 < (l0.length : Int)) = false := decide_eq_false c2
    have c2b1 : decide (1048576 < l0.length) = false := decide_eq_false (by omega)
    clear c2
    replace H := Option.bind_eq_some_iff.mp H
    obtain ⟨⟨t1226, t1227, t1230, t1231⟩, A30, H⟩ := H
    replace H : ((impl_BigAdd.f k t1226 t1227 t1230 t1231).bind fun bt1236 => ((spec_BigAdd.f k t1226 t1227 t1230 t1231).bind fun bt1242 => (if (bt1236.2.2 != bt1242.2.2) = true then (none) else ((laws_jtBig.f k bt1236.1 bt1236.2.1 bt1242.1 bt1242.2.1).bind fun t1248 => (if t1248 = true then (if bt1236.2.2 = true then ((impl_BigSub.f k bt1236.1 bt1236.2.1 t1230 t1231).bind fun bt1250 => ((impl_BigAdd.f k t1230 t1231 t1226 t1227).bind fun bt1256 => (if bt1250.2.2 = true then (if bt1256.2.2 = true then ((laws_jtBig.f k bt1250.1 bt1250.2.1 t1226 t1227).bind fun t1262 => (if t1262 = true then ((laws_jtBig.f k bt1256.1 bt1256.2.1 bt1236.1 bt1236.2.1).bind fun t1263 => (some t1263)) else (none))) else (none)) else (none)))) else (if (bt1236.2.2 == bt1242.2.2) = true then ((laws_jtBig.f k bt1236.1 bt1236.2.1 bt1242.1 bt1242.2.1).bind fun t1249 => (some t1249)) else (none))) else (none)))))) = some r := H
    have A3 := Aside0.mk A30
    clear A30
    replace H := Option.bind_eq_some_iff.mp H
    obtain ⟨⟨t1236, t1237, t1240⟩, A40, H⟩ := H
    replace H : ((spec_BigAdd.f k t1226 t1227 t1230 t1231).bind fun bt1242 => (if (t1240 != bt1242.2.2) = true then (none) else ((laws_jtBig.f k t1236 t1237 bt1242.1 bt1242.2.1).bind fun t1248 => (if t1248 = true then (if t1240 = true then ((impl_BigSub.f k t1236 t1237 t1230 t1231).bind fun bt1250 => ((impl_BigAdd.f k t1230 t1231 t1226 t1227).bind fun bt1256 => (if bt1250.2.2 = true then (if bt1256.2.2 = true then ((laws_jtBig.f k bt1250.1 bt1250.2.1 t1226 t1227).bind fun t1262 => (if t1262 = true then ((laws_jtBig.f k bt1256.1 bt1256.2.1 t1236 t1237).bind fun t1263 => (some t1263)) else (none))) else (none)) else (none)))) else (if (t1240 == bt1242.2.2) = true then ((laws_jtBig.f k t1236 t1237 bt1242.1 bt1242.2.1).bind fun t1249 => (some t1249)) else (none))) else (none))))) = some r := H
    have A4 := Aside0.mk A40
    clear A40
    replace H := Option.bind_eq_some_iff.mp H
    obtain ⟨⟨t1242, t1243, t1246⟩, A50, H⟩ := H
    replace H : (if (t1240 != t1246) = true then (none) else ((laws_jtBig.f k t1236 t1237 t1242 t1243).bind fun t1248 => (if t1248 = true then (if t1240 = true then ((impl_BigSub.f k t1236 t1237 t1230 t1231).bind fun bt1250 => ((impl_BigAdd.f k t1230 t1231 t1226 t1227).bind fun bt1256 => (if bt1250.2.2 = true then (if bt1256.2.2 = true then ((laws_jtBig.f k bt1250.1 bt1250.2.1 t1226 t1227).bind fun t1262 => (if t1262 = true then ((laws_jtBig.f k bt1256.1 bt1256.2.1 t1236 t1237).bind fun t1263 => (some t1263)) else (none))) else (none)) else (none)))) else (if (t1240 == t1246) = true then ((laws_jtBig.f k t1236 t1237 t1242 t1243).bind fun t1249 => (some t1249)) else (none))) else (none)))) = some r := H
    have A5 := Aside0.mk A50
    clear A50
    by_cases c6 : (t1240 != t1246) = true
    · rw [if_pos c6] at H
      exact absurd H (by simp)
    · rw [if_neg c6] at H
      have c6b0 : (t1240 != t1246) = false := by simpa using c6
      (try (have c6b1 : decide (t1240 = t1246) = true := by simpa using c6))
      (try (have c6b2 : (t1240 == t1246) = true := by simpa using c6))
      clear c6
      replace H := Option.bind_eq_some_iff.mp H
      obtain ⟨t1248, A70, H⟩ := H
      replace H : (if t1248 = true then (if t1240 = true then ((impl_BigSub.f k t1236 t1237 t1230 t1231).bind fun bt1250 => ((impl_BigAdd.f k t1230 t1231 t1226 t1227).bind fun bt1256 => (if bt1250.2.2 = true then (if bt1256.2.2 = true then ((laws_jtBig.f k bt1250.1 bt1250.2.1 t1226 t1227).bind fun t1262 => (if t1262 = true then ((laws_jtBig.f k bt1256.1 bt1256.2.1 t1236 t1237).bind fun t1263 => (some t1263)) else (none))) else (none)) else (none)))) else (if (t1240 == t1246) = true then ((laws_jtBig.f k t1236 t1237 t1242 t1243).bind fun t1249 => (some t1249)) else (none))) else (none)) = some r := H
      have A7 := Aside0.mk A70
      clear A70
      by_cases c8 : t1248 = true
      · subst c8
        have H1 : (if t1240 = true then ((impl_BigSub.f k t1236 t1237 t1230 t1231).bind fun bt1250 => ((impl_BigAdd.f k t1230 t1231 t1226 t1227).bind fun bt1256 => (if bt1250.2.2 = true then (if bt1256.2.2 = true then ((laws_jtBig.f k bt1250.1 bt1250.2.1 t1226 t1227).bind fun t1262 => (if t1262 = true then ((laws_jtBig.f k bt1256.1 bt1256.2.1 t1236 t1237).bind fun t1263 => (some t1263)) else (none))) else (none)) else (none)))) else (if (t1240 == t1246) = true then ((laws_jtBig.f k t1236 t1237 t1242 t1243).bind fun t1249 => (some t1249)) else (none))) = some r := by rw [if_pos rfl] at H; exact H
        clear H
        have H := H1
        clear H1
        by_cases c9 : t1240 = true
        · subst c9
          have H1 : ((impl_BigSub.f k t1236 t1237 t1230 t1231).bind fun bt1250 => ((impl_BigAdd.f k t1230 t1231 t1226 t1227).bind fun bt1256 => (if bt1250.2.2 = true then (if bt1256.2.2 = true then ((laws_jtBig.f k bt1250.1 bt1250.2.1 t1226 t1227).bind fun t1262 => (if t1262 = true then ((laws_jtBig.f k bt1256.1 bt1256.2.1 t1236 t1237).bind fun t1263 => (some t1263)) else (none))) else (none)) else (none)))) = some r := by rw [if_pos rfl] at H; exact H
          clear H
          have H := H1
          clear H1
          replace H := Option.bind_eq_some_iff.mp H
          obtain ⟨⟨t1250, t1251, t1254⟩, A100, H⟩ := H
          replace H : ((impl_BigAdd.f k t1230 t1231 t1226 t1227).bind fun bt1256 => (if t1254 = true then (if bt1256.2.2 = true then ((laws_jtBig.f k t1250 t1251 t1226 t1227).bind fun t1262 => (if t1262 = true then ((laws_jtBig.f k bt1256.1 bt1256.2.1 t1236 t1237).bind fun t1263 => (some t1263)) else (none))) else (none)) else (none))) = some r := H
          have A10 := Aside0.mk A100
          clear A100
          replace H := Option.bind_eq_some_iff.mp H
          obtain ⟨⟨t1256, t1257, t1260⟩, A110, H⟩ := H
          replace H : (if t1254 = true then (if t1260 = true then ((laws_jtBig.f k t1250 t1251 t1226 t1227).bind fun t1262 => (if t1262 = true then ((laws_jtBig.f k t1256 t1257 t1236 t1237).bind fun t1263 => (some t1263)) else (none))) else (none)) else (none)) = some r := H
          have A11 := Aside0.mk A110
          clear A110
          by_cases c12 : t1254 = true
          · subst c12
            have H1 : (if t1260 = true then ((laws_jtBig.f k t1250 t1251 t1226 t1227).bind fun t1262 => (if t1262 = true then ((laws_jtBig.f k t1256 t1257 t1236 t1237).bind fun t1263 => (some t1263)) else (none))) else (none)) = some r := by rw [if_pos rfl] at H; exact H
            clear H
            have H := H1
            clear H1
            by_cases c13 : t1260 = true
            · subst c13
              have H1 : ((laws_jtBig.f k t1250 t1251 t1226 t1227).bind fun t1262 => (if t1262 = true then ((laws_jtBig.f k t1256 t1257 t1236 t1237).bind fun t1263 => (some t1263)) else (none))) = some r := by rw [if_pos rfl] at H; exact H
              clear H
              have H := H1
              clear H1
              replace H := Option.bind_eq_some_iff.mp H
              obtain ⟨t1262, A140, H⟩ := H
              replace H : (if t1262 = true then ((laws_jtBig.f k t1256 t1257 t1236 t1237).bind fun t1263 => (some t1263)) else (none)) = some r := H
              have A14 := Aside0.mk A140
              clear A140
              by_cases c15 : t1262 = true
              · subst c15
                have H1 : ((laws_jtBig.f k t1256 t1257 t1236 t1237).bind fun t1263 => (some t1263)) = some r := by rw [if_pos rfl] at H; exact H
                clear H
                have H := H1
                clear H1
                replace H := Option.bind_eq_some_iff.mp H
                obtain ⟨t1263, A160, H⟩ := H
                replace H : (some t1263) = some r := H
                have A16 := Aside0.mk A160
                clear A160
                obtain rfl := Option.some.inj H
                go_enter Try.func16, Try.ntmps16
                go_wp2_with (first | ((with_reducible refine gate_callee (f := 45) rfl ?_); refine goesL_ (some 18) rfl rfl Try.func45 (by kernel_rfl) rfl #[.slice A0 l0.length c0] rfl za ?_; (with_reducible refine (spec_DrawBigAdd.calls k _ _ l0 t1226 t1227 t1230 t1231 _ ?side1 ?side2 A3.out).mono ?_); (case side1 => repeat (first | exact HR0.out | (with_reducible refine Kd.C_alloc ?_ _) | (with_reducible refine Kd.C_drewN ?_ _) | (with_reducible refine Kd.C_drew ?_))); (case side2 => exact HC0.out); rintro e w17 ⟨v1228, v1232, rfl, ho0, ho1, hb⟩; refine ⟨_, rfl, ?_⟩; have n0_ := Aside0.mk (Kd.R_lower ho0 (below_size zb)); have n1_ := Aside0.mk (Kd.R_lower ho1 (below_size zb)); have n2_ := Aside0.mk (below_step zb hb); clear HB; have HO1229 := n0_; have HO1233 := n1_; have HB := n2_; clear n0_ n1_ n2_; (try clear hb); (try clear hb2); (try clear hk); (try clear hi); (try clear ho0); (try clear ho1)) | ((with_reducible refine gate_dst (N := 3) rfl ?_); refine box_event ?hg (N := 3) ?hd (cs := #[.bool false, .slice none 0 0]) (t := 27) ?hr ?_; (case hd => rfl); (case hg => rfl); (case hr => first | (go_simp; done) | (go_simp; rfl)); intro gb1234 hg w18 hbox hb; have n0_ := Aside0.mk (Kd.R_below (zR HO1229.out) hb); have n1_ := Aside0.mk (Kd.R_below (zR HO1233.out) hb); have n2_ := Aside0.mk (below_step zb hb); have n3_ := Aside0.mk (hbox); have n4_ := Aside0.mk ((by rw [hg]; exact (below_size zb) : w.heap.size ≤ gb1234)); have n5_ := Aside0.mk ((by rw [hg]; exact (below_size zb) : w.heap.size ≤ gb1234)); clear HO1229; clear HO1233; clear HB; have HO1229 := n0_; have HO1233 := n1_; have HB := n2_; have BK1234 := n3_; have GW1234 := n4_; have GE1234 := n5_; clear n0_ n1_ n2_ n3_ n4_ n5_; clear hb hbox hg) | ((with_reducible refine gate_dst (N := 4) rfl ?_); refine box_event ?hg (N := 4) ?hd (cs := #[.bool false, .slice none 0 0]) (t := 27) ?hr ?_; (case hd => rfl); (case hg => rfl); (case hr => first | (go_simp; done) | (go_simp; rfl)); intro gb1235 hg w19 hbox hb; have n0_ := Aside0.mk (Kd.R_below (zR HO1229.out) hb); have n1_ := Aside0.mk (Kd.R_below (zR HO1233.out) hb); have n2_ := Aside0.mk (blk_below (g := gb1234) (o := .cells #[.bool false, .slice none 0 0] 27 (0, 0)) (zk BK1234.out) hb); have n3_ := Aside0.mk (below_step zb hb); have n4_ := Aside0.mk (hbox); have n5_ := Aside0.mk ((by rw [hg]; exact (below_size zb) : w.heap.size ≤ gb1235)); have n6_ := Aside0.mk ((by rw [hg]; exact (below_size zb) : w.heap.size ≤ gb1235)); have n7_ := Aside0.mk ((by rw [hg]; exact Nat.ne_of_lt (blk_lt (g := gb1234) (o := .cells #[.bool false, .slice none 0 0] 27 (0, 0)) (zk BK1234.out)) : gb1234 ≠ gb1235)); have n8_ := Aside0.mk ((by rw [hg]; exact Nat.ne_of_gt (blk_lt (g := gb1234) (o := .cells #[.bool false, .slice none 0 0] 27 (0, 0)) (zk BK1234.out)) : gb1235 ≠ gb1234)); clear HO1229; clear HO1233; clear BK1234; clear HB; have HO1229 := n0_; have HO1233 := n1_; have BK1234 := n2_; have HB := n3_; have BK1235 := n4_; have GW1235 := n5_; have GE1235 := n6_; have NB1234_1235 := n7_; have NB1235_1234 := n8_; clear n0_ n1_ n2_ n3_ n4_ n5_ n6_ n7_ n8_; clear hb hbox hg; have hnb20 := NB1234_1235.out; have hnc20 := NB1235_1234.out; have hcz21_0 : w19.cell? ⟨gb1234, 0, none⟩ = some (.bool false) := (blk_cell BK1234.out 0).trans rfl; have hcz21_1 : w19.cell? ⟨gb1234, 1, none⟩ = some (.slice none 0 0) := (blk_cell BK1234.out 1).trans rfl; have hfz21_0 := blk_frozen BK1234.out 0; have hfz21_1 := blk_frozen BK1234.out 1; obtain ⟨Ao22, co22, eo22⟩ := Kd.R_slice HO1229.out; subst eo22) | ((with_reducible refine gate_store (t := 27) (p := 3) rfl ?_); refine store_event (t := 27) (p := 3) (v := ?vo_w23) (w1 := ((w19.setCell ⟨gb1234, 0, none⟩ (.bool t1226)).setCell ⟨gb1234, 1, none⟩ (.slice Ao22 t1227.length co22))) ?hg ?ho ?hn ?hr ?_; (case ho => rfl); (case hg => rfl); (case hn => rfl); (case hr => first | (go_simp; done) | (go_simp; rfl)); intro w23 hw; have n0_ : Aside0 (Kd.R (Kd.int .i64) 3 w23 w.heap.size (fun k_ => some k_ ≠ (v1232 : Value).ownBlock) (.slice Ao22 t1227.length co22) t1227) := ⟨(by rw [hw]; exact (by (with_reducible repeat (first | apply Kd.R_alloc | apply Kd.R_drewN | apply Kd.R_drew)); exact Kd.R_mono (Kd.R_far (p := ⟨gb1234, 1, none⟩) (Kd.R_far (p := ⟨gb1234, 0, none⟩) (Kd.R_types HO1229.out BK1234.out (by decide)) (fun _ hk => hk.2) (.bool t1226)) (fun _ hk => hk.2) (.slice Ao22 t1227.length co22)) (fun _ hk => hk.1)))⟩; have n1_ : Aside0 (Kd.R (Kd.int .i64) 3 w23 w.heap.size (fun k_ => some k_ ≠ (.slice Ao22 t1227.length co22 : Value).ownBlock) v1232 t1231) := ⟨(by rw [hw]; exact (by (with_reducible repeat (first | apply Kd.R_alloc | apply Kd.R_drewN | apply Kd.R_drew)); exact Kd.R_mono (Kd.R_far (p := ⟨gb1234, 1, none⟩) (Kd.R_far (p := ⟨gb1234, 0, none⟩) (Kd.R_types HO1233.out BK1234.out (by decide)) (fun _ hk => hk.2) (.bool t1226)) (fun _ hk => hk.2) (.slice Ao22 t1227.length co22)) (fun _ hk => hk.1)))⟩; have n2_ : Aside0 (w23.heap[gb1234]? = some (.cells #[.bool t1226, .slice Ao22 t1227.length co22] 27 (0, 0))) := ⟨(by rw [hw]; exact (by (with_reducible repeat (first | refine blk_drewN ?_ _ | refine blk_drew ?_ | refine blk_alloc ?_ _)); refine blk_put (cs := #[.bool t1226, .slice none 0 0]) ?_ 1 _ rfl; (with_reducible repeat (first | refine blk_drewN ?_ _ | refine blk_drew ?_ | refine blk_alloc ?_ _)); refine blk_put (cs := #[.bool false, .slice none 0 0]) ?_ 0 _ rfl; (with_reducible repeat (first | refine blk_drewN ?_ _ | refine blk_drew ?_ | refine blk_alloc ?_ _)); exact BK1234.out))⟩; have n3_ : Aside0 (w23.heap[gb1235]? = some (.cells #[.bool false, .slice none 0 0] 27 (0, 0))) := ⟨(by rw [hw]; exact (zk BK1235.out))⟩; have n4_ : Aside0 (Below w.heap.size w w23) := ⟨(by rw [hw]; exact zb)⟩; clear hw; clear HO1229; clear HO1233; clear BK1234; clear BK1235; clear HB; have HO1229 := n0_; have HO1233 := n1_; have BK1234 := n2_; have BK1235 := n3_; have HB := n4_; clear n0_ n1_ n2_ n3_ n4_; have hcz24_0 : w23.cell? ⟨gb1235, 0, none⟩ = some (.bool false) := (blk_cell BK1235.out 0).trans rfl; have hcz24_1 : w23.cell? ⟨gb1235, 1, none⟩ = some (.slice none 0 0) := (blk_cell BK1235.out 1).trans rfl; have hfz24_0 := blk_frozen BK1235.out 0; have hfz24_1 := blk_frozen BK1235.out 1; obtain ⟨Ao25, co25, eo25⟩ := Kd.R_slice HO1233.out; subst eo25) | ((with_reducible refine gate_store (t := 27) (p := 4) rfl ?_); refine store_event (t := 27) (p := 4) (v := ?vo_w26) (w1 := ((w23.setCell ⟨gb1235, 0, none⟩ (.bool t1230)).setCell ⟨gb1235, 1, none⟩ (.slice Ao25 t1231.length co25))) ?hg ?ho ?hn ?hr ?_; (case ho => rfl); (case hg => rfl); (case hn => rfl); (case hr => first | (go_simp; done) | (go_simp; rfl)); intro w26 hw; have n0_ : Aside0 (Kd.R (Kd.int .i64) 3 w26 w.heap.size (fun k_ => some k_ ≠ (.slice Ao25 t1231.length co25 : Value).ownBlock) (.slice Ao22 t1227.length co22) t1227) := ⟨(by rw [hw]; exact (by (with_reducible repeat (first | apply Kd.R_alloc | apply Kd.R_drewN | apply Kd.R_drew)); exact Kd.R_mono (Kd.R_far (p := ⟨gb1235, 1, none⟩) (Kd.R_far (p := ⟨gb1235, 0, none⟩) (Kd.R_types HO1229.out BK1235.out (by decide)) (fun _ hk => hk.2) (.bool t1230)) (fun _ hk => hk.2) (.slice Ao25 t1231.length co25)) (fun _ hk => hk.1)))⟩; have n1_ : Aside0 (Kd.R (Kd.int .i64) 3 w26 w.heap.size (fun k_ => some k_ ≠ (.slice Ao22 t1227.length co22 : Value).ownBlock) (.slice Ao25 t1231.length co25) t1231) := ⟨(by rw [hw]; exact (by (with_reducible repeat (first | apply Kd.R_alloc | apply Kd.R_drewN | apply Kd.R_drew)); exact Kd.R_mono (Kd.R_far (p := ⟨gb1235, 1, none⟩) (Kd.R_far (p := ⟨gb1235, 0, none⟩) (Kd.R_types HO1233.out BK1235.out (by decide)) (fun _ hk => hk.2) (.bool t1230)) (fun _ hk => hk.2) (.slice Ao25 t1231.length co25)) (fun _ hk => hk.1)))⟩; have n2_ : Aside0 (w26.heap[gb1234]? = some (.cells #[.bool t1226, .slice Ao22 t1227.length co22] 27 (0, 0))) := ⟨(by rw [hw]; exact (zk BK1234.out))⟩; have n3_ : Aside0 (w26.heap[gb1235]? = some (.cells #[.bool t1230, .slice Ao25 t1231.length co25] 27 (0, 0))) := ⟨(by rw [hw]; exact (by (with_reducible repeat (first | refine blk_drewN ?_ _ | refine blk_drew ?_ | refine blk_alloc ?_ _)); refine blk_put (cs := #[.bool t1230, .slice none 0 0]) ?_ 1 _ rfl; (with_reducible repeat (first | refine blk_drewN ?_ _ | refine blk_drew ?_ | refine blk_alloc ?_ _)); refine blk_put (cs := #[.bool false, .slice none 0 0]) ?_ 0 _ rfl; (with_reducible repeat (first | refine blk_drewN ?_ _ | refine blk_drew ?_ | refine blk_alloc ?_ _)); exact BK1235.out))⟩; have n4_ : Aside0 (Below w.heap.size w w26) := ⟨(by rw [hw]; exact zb)⟩; clear hw; clear HO1229; clear HO1233; clear BK1234; clear BK1235; clear HB; have HO1229 := n0_; have HO1233 := n1_; have BK1234 := n2_; have BK1235 := n3_; have HB := n4_; clear n0_ n1_ n2_ n3_ n4_; have hcz27_0 : w26.cell? ⟨gb1234, 0, none⟩ = some (.bool t1226) := (blk_cell BK1234.out 0).trans rfl; have hcz27_1 : w26.cell? ⟨gb1234, 1, none⟩ = some (.slice Ao22 t1227.length co22) := (blk_cell BK1234.out 1).trans rfl; have hfz27_0 := blk_frozen BK1234.out 0; have hfz27_1 := blk_frozen BK1234.out 1; have hcz28_0 : w26.cell? ⟨gb1235, 0, none⟩ = some (.bool t1230) := (blk_cell BK1235.out 0).trans rfl; have hcz28_1 : w26.cell? ⟨gb1235, 1, none⟩ = some (.slice Ao25 t1231.length co25) := (blk_cell BK1235.out 1).trans rfl; have hfz28_0 := blk_frozen BK1235.out 0; have hfz28_1 := blk_frozen BK1235.out 1) | ((with_reducible refine gate_callee (f := 32) rfl ?_); refine goesL_ (some 24) rfl rfl Try.func32 (by kernel_rfl) rfl #[.agg #[.bool t1226, .slice Ao22 t1227.length co22], .agg #[.bool t1230, .slice Ao25 t1231.length co25]] rfl za ?_; (with_reducible refine (impl_BigAdd.calls k t1226 (fun k_ => some k_ = (.slice Ao22 t1227.length co22 : Value).ownBlock) _ _ t1227 t1230 (fun k_ => some k_ = (.slice Ao25 t1231.length co25 : Value).ownBlock) _ _ t1231 t1236 t1237 true _ ?side1 ?side2 A4.out).mono ?_); (case side1 => exact Kd.R_V (Kd.R_tight rfl (Kd.R_types (Kd.R_types (HO1229.out) BK1234.out (by decide)) BK1235.out (by decide)))); (case side2 => exact Kd.R_V (Kd.R_tight rfl (Kd.R_types (Kd.R_types (HO1233.out) BK1234.out (by decide)) BK1235.out (by decide)))); rintro e w29 ⟨v1238, rfl, ho0, hb⟩; refine ⟨_, rfl, ?_⟩; have n0_ := Aside0.mk (Kd.R_below (zR HO1229.out) hb); have n1_ := Aside0.mk (Kd.R_below (zR HO1233.out) hb); have n2_ := Aside0.mk (Kd.V_lower (Kd.V_mono (ok' := fun k_ => k_ ≠ gb1234 ∧ k_ ≠ gb1235) ho0 (fun k_ hk_ => ⟨Or.elim hk_ (fun hs_ => Or.elim hs_ (fun hs_ => ((Kd.R_types (Kd.R_types (HO1229.out) BK1234.out (by decide)) BK1235.out (by decide)).1 k_ hs_.symm).1.2) (fun hs_ => ((Kd.R_types (Kd.R_types (HO1233.out) BK1234.out (by decide)) BK1235.out (by decide)).1 k_ hs_.symm).1.2)) (fun hn_ => (Kd.freshB (g := gb1234) (o := .cells #[.bool t1226, .slice Ao22 t1227.length co22] 27 (0, 0)) (zk BK1234.out) k_ hn_)), Or.elim hk_ (fun hs_ => Or.elim hs_ (fun hs_ => ((Kd.R_types (Kd.R_types (HO1229.out) BK1234.out (by decide)) BK1235.out (by decide)).1 k_ hs_.symm).2) (fun hs_ => ((Kd.R_types (Kd.R_types (HO1233.out) BK1234.out (by decide)) BK1235.out (by decide)).1 k_ hs_.symm).2)) (fun hn_ => (Kd.freshB (g := gb1235) (o := .cells #[.bool t1230, .slice Ao25 t1231.length co25] 27 (0, 0)) (zk BK1235.out) k_ hn_))⟩)) (below_size zb)); have n3_ := Aside0.mk (blk_below (g := gb1234) (o := .cells #[.bool t1226, .slice Ao22 t1227.length co22] 27 (0, 0)) (zk BK1234.out) hb); have n4_ := Aside0.mk (blk_below (g := gb1235) (o := .cells #[.bool t1230, .slice Ao25 t1231.length co25] 27 (0, 0)) (zk BK1235.out) hb); have n5_ := Aside0.mk (below_step zb hb); clear HO1229; clear HO1233; clear BK1234; clear BK1235; clear HB; have HO1229 := n0_; have HO1233 := n1_; have HO1239 := n2_; have BK1234 := n3_; have BK1235 := n4_; have HB := n5_; clear n0_ n1_ n2_ n3_ n4_ n5_; (try clear hb); (try clear hb2); (try clear hk); (try clear hi); (try clear ho0)) | ((with_reducible refine gate_dst (N := 5) rfl ?_); refine box_event ?hg (N := 5) ?hd (cs := #[.bool false, .slice none 0 0]) (t := 27) ?hr ?_; (case hd => rfl); (case hg => rfl); (case hr => first | (go_simp; done) | (go_simp; rfl)); intro gb1241 hg w30 hbox hb; have n0_ := Aside0.mk (Kd.R_below (zR HO1229.out) hb); have n1_ := Aside0.mk (Kd.R_below (zR HO1233.out) hb); have n2_ := Aside0.mk (Kd.V_below (Kd.V_elderB (zV HO1239.out) gb1241 (Nat.le_of_eq hg.symm)) hb); have n3_ := Aside0.mk (blk_below (g := gb1234) (o := .cells #[.bool t1226, .slice Ao22 t1227.length co22] 27 (0, 0)) (zk BK1234.out) hb); have n4_ := Aside0.mk (blk_below (g := gb1235) (o := .cells #[.bool t1230, .slice Ao25 t1231.length co25] 27 (0, 0)) (zk BK1235.out) hb); have n5_ := Aside0.mk (below_step zb hb); have n6_ := Aside0.mk (hbox); have n7_ := Aside0.mk ((by rw [hg]; exact (below_size zb) : w.heap.size ≤ gb1241)); have n8_ := Aside0.mk ((by rw [hg]; exact (below_size zb) : w.heap.size ≤ gb1241)); have n9_ := Aside0.mk ((by rw [hg]; exact Nat.ne_of_lt (blk_lt (g := gb1234) (o := .cells #[.bool t1226, .slice Ao22 t1227.length co22] 27 (0, 0)) (zk BK1234.out)) : gb1234 ≠ gb1241)); have n10_ := Aside0.mk ((by rw [hg]; exact Nat.ne_of_gt (blk_lt (g := gb1234) (o := .cells #[.bool t1226, .slice Ao22 t1227.length co22] 27 (0, 0)) (zk BK1234.out)) : gb1241 ≠ gb1234)); have n11_ := Aside0.mk ((by rw [hg]; exact Nat.ne_of_lt (blk_lt (g := gb1235) (o := .cells #[.bool t1230, .slice Ao25 t1231.length co25] 27 (0, 0)) (zk BK1235.out)) : gb1235 ≠ gb1241)); have n12_ := Aside0.mk ((by rw [hg]; exact Nat.ne_of_gt (blk_lt (g := gb1235) (o := .cells #[.bool t1230, .slice Ao25 t1231.length co25] 27 (0, 0)) (zk BK1235.out)) : gb1241 ≠ gb1235)); clear HO1229; clear HO1233; clear HO1239; clear BK1234; clear BK1235; clear HB; have HO1229 := n0_; have HO1233 := n1_; have HO1239 := n2_; have BK1234 := n3_; have BK1235 := n4_; have HB := n5_; have BK1241 := n6_; have GW1241 := n7_; have GE1241 := n8_; have NB1234_1241 := n9_; have NB1241_1234 := n10_; have NB1235_1241 := n11_; have NB1241_1235 := n12_; clear n0_ n1_ n2_ n3_ n4_ n5_ n6_ n7_ n8_ n9_ n10_ n11_ n12_; clear hb hbox hg; have hnb31 := NB1241_1234.out; have hnc31 := NB1234_1241.out; have hnb32 := NB1241_1235.out; have hnc32 := NB1235_1241.out; have hcz33_0 : w30.cell? ⟨gb1241, 0, none⟩ = some (.bool false) := (blk_cell BK1241.out 0).trans rfl; have hcz33_1 : w30.cell? ⟨gb1241, 1, none⟩ = some (.slice none 0 0) := (blk_cell BK1241.out 1).trans rfl; have hfz33_0 := blk_frozen BK1241.out 0; have hfz33_1 := blk_frozen BK1241.out 1; obtain ⟨Ao34, co34, eo34⟩ := Kd.V_slice HO1239.out; subst eo34; have hcz35_0 : w30.cell? ⟨gb1234, 0, none⟩ = some (.bool t1226) := (blk_cell BK1234.out 0).trans rfl; have hcz35_1 : w30.cell? ⟨gb1234, 1, none⟩ = some (.slice Ao22 t1227.length co22) := (blk_cell BK1234.out 1).trans rfl; have hfz35_0 := blk_frozen BK1234.out 0; have hfz35_1 := blk_frozen BK1234.out 1; have hcz36_0 : w30.cell? ⟨gb1235, 0, none⟩ = some (.bool t1230) := (blk_cell BK1235.out 0).trans rfl; have hcz36_1 : w30.cell? ⟨gb1235, 1, none⟩ = some (.slice Ao25 t1231.length co25) := (blk_cell BK1235.out 1).trans rfl; have hfz36_0 := blk_frozen BK1235.out 0; have hfz36_1 := blk_frozen BK1235.out 1) | ((with_reducible refine gate_callee (f := 39) rfl ?_); refine goesL_ (some 30) rfl rfl Try.func39 (by kernel_rfl) rfl #[.agg #[.bool t1226, .slice Ao22 t1227.length co22], .agg #[.bool t1230, .slice Ao25 t1231.length co25]] rfl za ?_; (with_reducible refine (spec_BigAdd.calls k t1226 _ _ t1227 t1230 _ _ t1231 t1242 t1243 t1246 _ ?side1 ?side2 ?side3 ?side4 A5.out).mono ?_); (case side1 => refine (Kd.R_reads' (e := 3) (base := w.heap.size) (ok := fun k_ => some k_ ≠ (.slice Ao25 t1231.length co25 : Value).ownBlock) (n := t1227.length) (c := co22) ?_).2.2; exact (by (with_reducible repeat (first | apply Kd.R_alloc | apply Kd.R_drewN | apply Kd.R_drew)); exact (Kd.R_mono (Kd.R_far (p := ⟨gb1241, 1, none⟩) (Kd.R_far (p := ⟨gb1241, 0, none⟩) (Kd.R_types HO1229.out BK1241.out (by decide)) (fun _ hk => hk.2) (.bool t1236)) (fun _ hk => hk.2) (.slice Ao34 t1237.length co34)) (fun _ h_ => h_.1)))); (case side2 => exact (Kd.R_reads' HO1229.out).2.1); (case side3 => refine (Kd.R_reads' (e := 3) (base := w.heap.size) (ok := fun k_ => some k_ ≠ (.slice Ao22 t1227.length co22 : Value).ownBlock) (n := t1231.length) (c := co25) ?_).2.2; exact (by (with_reducible repeat (first | apply Kd.R_alloc | apply Kd.R_drewN | apply Kd.R_drew)); exact (Kd.R_mono (Kd.R_far (p := ⟨gb1241, 1, none⟩) (Kd.R_far (p := ⟨gb1241, 0, none⟩) (Kd.R_types HO1233.out BK1241.out (by decide)) (fun _ hk => hk.2) (.bool t1236)) (fun _ hk => hk.2) (.slice Ao34 t1237.length co34)) (fun _ h_ => h_.1)))); (case side4 => exact (Kd.R_reads' HO1233.out).2.1); rintro e w37 ⟨v1244, rfl, ho0, hb⟩; refine ⟨_, rfl, ?_⟩; have n0_ := Aside0.mk (Kd.R_elder' (by (with_reducible repeat (first | apply Kd.R_alloc | apply Kd.R_drewN | apply Kd.R_drew)); exact (Kd.R_mono (Kd.R_far (p := ⟨gb1241, 1, none⟩) (Kd.R_far (p := ⟨gb1241, 0, none⟩) (Kd.R_types HO1229.out BK1241.out (by decide)) (fun _ hk => hk.2) (.bool t1236)) (fun _ hk => hk.2) (.slice Ao34 t1237.length co34)) (fun _ h_ => h_.1))) (Kd.R_base ho0) hb); have n1_ := Aside0.mk (Kd.R_elder' (by (with_reducible repeat (first | apply Kd.R_alloc | apply Kd.R_drewN | apply Kd.R_drew)); exact (Kd.R_mono (Kd.R_far (p := ⟨gb1241, 1, none⟩) (Kd.R_far (p := ⟨gb1241, 0, none⟩) (Kd.R_types HO1233.out BK1241.out (by decide)) (fun _ hk => hk.2) (.bool t1236)) (fun _ hk => hk.2) (.slice Ao34 t1237.length co34)) (fun _ h_ => h_.1))) (Kd.R_base ho0) hb); have n2_ := Aside0.mk (Kd.V_elder' (by (with_reducible repeat (first | apply Kd.V_alloc | apply Kd.V_drewN | apply Kd.V_drew)); exact (Kd.V_mono (Kd.V_far (p := ⟨gb1241, 1, none⟩) (Kd.V_far (p := ⟨gb1241, 0, none⟩) (Kd.V_mono HO1239.out (fun k_ hk => (⟨hk, hk.2⟩ : _ ∧ k_ ≠ gb1241))) (fun _ hk => hk.2) (.bool t1236)) (fun _ hk => hk.2) (.slice Ao34 t1237.length co34)) (fun _ h_ => h_.1))) (Kd.R_base ho0) hb); have n3_ := Aside0.mk (Kd.R_lower (Kd.R_new' (Kd.R_new' ho0 (Kd.R_lt (by (with_reducible repeat (first | apply Kd.R_alloc | apply Kd.R_drewN | apply Kd.R_drew)); exact (Kd.R_mono (Kd.R_far (p := ⟨gb1241, 1, none⟩) (Kd.R_far (p := ⟨gb1241, 0, none⟩) (Kd.R_types HO1229.out BK1241.out (by decide)) (fun _ hk => hk.2) (.bool t1236)) (fun _ hk => hk.2) (.slice Ao34 t1237.length co34)) (fun _ h_ => h_.1))))) (Kd.R_lt (by (with_reducible repeat (first | apply Kd.R_alloc | apply Kd.R_drewN | apply Kd.R_drew)); exact (Kd.R_mono (Kd.R_far (p := ⟨gb1241, 1, none⟩) (Kd.R_far (p := ⟨gb1241, 0, none⟩) (Kd.R_types HO1233.out BK1241.out (by decide)) (fun _ hk => hk.2) (.bool t1236)) (fun _ hk => hk.2) (.slice Ao34 t1237.length co34)) (fun _ h_ => h_.1))))) (below_size zb)); have n4_ := Aside0.mk (blk_below (g := gb1234) (o := .cells #[.bool t1226, .slice Ao22 t1227.length co22] 27 (0, 0)) (zk BK1234.out) hb); have n5_ := Aside0.mk (blk_below (g := gb1235) (o := .cells #[.bool t1230, .slice Ao25 t1231.length co25] 27 (0, 0)) (zk BK1235.out) hb); have n6_ := Aside0.mk (blk_below (g := gb1241) (o := .cells #[.bool t1236, .slice Ao34 t1237.length co34] 27 (0, 0)) (by (with_reducible repeat (first | refine blk_drewN ?_ _ | refine blk_drew ?_ | refine blk_alloc ?_ _)); refine blk_put (cs := #[.bool t1236, .slice none 0 0]) ?_ 1 _ rfl; (with_reducible repeat (first | refine blk_drewN ?_ _ | refine blk_drew ?_ | refine blk_alloc ?_ _)); refine blk_put (cs := #[.bool false, .slice none 0 0]) ?_ 0 _ rfl; (with_reducible repeat (first | refine blk_drewN ?_ _ | refine blk_drew ?_ | refine blk_alloc ?_ _)); exact BK1241.out) hb); have n7_ := Aside0.mk (below_step zb hb); clear HO1229; clear HO1233; clear HO1239; clear BK1234; clear BK1235; clear BK1241; clear HB; have HO1229 := n0_; have HO1233 := n1_; have HO1239 := n2_; have HO1245 := n3_; have BK1234 := n4_; have BK1235 := n5_; have BK1241 := n6_; have HB := n7_; clear n0_ n1_ n2_ n3_ n4_ n5_ n6_ n7_; (try clear hb); (try clear hb2); (try clear hk); (try clear hi); (try clear ho0)) | ((with_reducible refine gate_dst (N := 7) rfl ?_); refine box_event ?hg (N := 7) ?hd (cs := #[.bool false, .slice none 0 0]) (t := 27) ?hr ?_; (case hd => rfl); (case hg => rfl); (case hr => first | (go_simp; done) | (go_simp; rfl)); intro gb1247 hg w38 hbox hb; have n0_ := Aside0.mk (Kd.R_below (zR HO1229.out) hb); have n1_ := Aside0.mk (Kd.R_below (zR HO1233.out) hb); have n2_ := Aside0.mk (Kd.V_below (Kd.V_elderB (zV HO1239.out) gb1247 (Nat.le_of_eq hg.symm)) hb); have n3_ := Aside0.mk (Kd.R_below (zR HO1245.out) hb); have n4_ := Aside0.mk (blk_below (g := gb1234) (o := .cells #[.bool t1226, .slice Ao22 t1227.length co22] 27 (0, 0)) (zk BK1234.out) hb); have n5_ := Aside0.mk (blk_below (g := gb1235) (o := .cells #[.bool t1230, .slice Ao25 t1231.length co25] 27 (0, 0)) (zk BK1235.out) hb); have n6_ := Aside0.mk (blk_below (g := gb1241) (o := .cells #[.bool t1236, .slice Ao34 t1237.length co34] 27 (0, 0)) (zk BK1241.out) hb); have n7_ := Aside0.mk (below_step zb hb); have n8_ := Aside0.mk (hbox); have n9_ := Aside0.mk ((by rw [hg]; exact (below_size zb) : w.heap.size ≤ gb1247)); have n10_ := Aside0.mk ((by rw [hg]; exact (below_size zb) : w.heap.size ≤ gb1247)); have n11_ := Aside0.mk ((by rw [hg]; exact Nat.ne_of_lt (blk_lt (g := gb1234) (o := .cells #[.bool t1226, .slice Ao22 t1227.length co22] 27 (0, 0)) (zk BK1234.out)) : gb1234 ≠ gb1247)); have n12_ := Aside0.mk ((by rw [hg]; exact Nat.ne_of_gt (blk_lt (g := gb1234) (o := .cells #[.bool t1226, .slice Ao22 t1227.length co22] 27 (0, 0)) (zk BK1234.out)) : gb1247 ≠ gb1234)); have n13_ := Aside0.mk ((by rw [hg]; exact Nat.ne_of_lt (blk_lt (g := gb1235) (o := .cells #[.bool t1230, .slice Ao25 t1231.length co25] 27 (0, 0)) (zk BK1235.out)) : gb1235 ≠ gb1247)); have n14_ := Aside0.mk ((by rw [hg]; exact Nat.ne_of_gt (blk_lt (g := gb1235) (o := .cells #[.bool t1230, .slice Ao25 t1231.length co25] 27 (0, 0)) (zk BK1235.out)) : gb1247 ≠ gb1235)); have n15_ := Aside0.mk ((by rw [hg]; exact Nat.ne_of_lt (blk_lt (g := gb1241) (o := .cells #[.bool t1236, .slice Ao34 t1237.length co34] 27 (0, 0)) (zk BK1241.out)) : gb1241 ≠ gb1247)); have n16_ := Aside0.mk ((by rw [hg]; exact Nat.ne_of_gt (blk_lt (g := gb1241) (o := .cells #[.bool t1236, .slice Ao34 t1237.length co34] 27 (0, 0)) (zk BK1241.out)) : gb1247 ≠ gb1241)); clear HO1229; clear HO1233; clear HO1239; clear HO1245; clear BK1234; clear BK1235; clear BK1241; clear HB; have HO1229 := n0_; have HO1233 := n1_; have HO1239 := n2_; have HO1245 := n3_; have BK1234 := n4_; have BK1235 := n5_; have BK1241 := n6_; have HB := n7_; have BK1247 := n8_; have GW1247 := n9_; have GE1247 := n10_; have NB1234_1247 := n11_; have NB1247_1234 := n12_; have NB1235_1247 := n13_; have NB1247_1235 := n14_; have NB1241_1247 := n15_; have NB1247_1241 := n16_; clear n0_ n1_ n2_ n3_ n4_ n5_ n6_ n7_ n8_ n9_ n10_ n11_ n12_ n13_ n14_ n15_ n16_; clear hb hbox hg; have hnb39 := NB1247_1234.out; have hnc39 := NB1234_1247.out; have hnb40 := NB1247_1235.out; have hnc40 := NB1235_1247.out; have hnb41 := NB1247_1241.out; have hnc41 := NB1241_1247.out; have hcz42_0 : w38.cell? ⟨gb1247, 0, none⟩ = some (.bool false) := (blk_cell BK1247.out 0).trans rfl; have hcz42_1 : w38.cell? ⟨gb1247, 1, none⟩ = some (.slice none 0 0) := (blk_cell BK1247.out 1).trans rfl; have hfz42_0 := blk_frozen BK1247.out 0; have hfz42_1 := blk_frozen BK1247.out 1; obtain ⟨Ao43, co43, eo43⟩ := Kd.R_slice HO1245.out; subst eo43; have hcz44_0 : w38.cell? ⟨gb1241, 0, none⟩ = some (.bool t1236) := (blk_cell BK1241.out 0).trans rfl; have hcz44_1 : w38.cell? ⟨gb1241, 1, none⟩ = some (.slice Ao34 t1237.length co34) := (blk_cell BK1241.out 1).trans rfl; have hfz44_0 := blk_frozen BK1241.out 0; have hfz44_1 := blk_frozen BK1241.out 1) | (go_at_call 31; (with_reducible refine (laws_jtBig.calls k t1236 _ _ t1237 t1242 _ _ t1243 true _ ?side1 ?side2 ?side3 ?side4 A7.out).mono ?_); (case side1 => refine (Kd.V_reads' (e := 3) (base := w.heap.size) (ok := fun k_ => ((((k_ ≠ gb1234 ∧ k_ ≠ gb1235) ∧ k_ ≠ gb1241) ∧ some k_ ≠ (.slice Ao43 t1243.length co43 : Value).ownBlock) ∧ k_ ≠ gb1247)) (n := t1237.length) (c := co34) ?_).2.2; exact (by (with_reducible repeat (first | apply Kd.V_alloc | apply Kd.V_drewN | apply Kd.V_drew)); exact (Kd.V_mono (Kd.V_far (p := ⟨gb1247, 1, none⟩) (Kd.V_far (p := ⟨gb1247, 0, none⟩) (Kd.V_mono HO1239.out (fun k_ hk => (⟨hk, hk.2⟩ : _ ∧ k_ ≠ gb1247))) (fun _ hk => hk.2) (.bool t1242)) (fun _ hk => hk.2) (.slice Ao43 t1243.length co43)) (fun _ h_ => h_.1)))); (case side2 => exact (Kd.V_reads' HO1239.out).2.1); (case side3 => refine (Kd.R_reads' (e := 3) (base := w.heap.size) (ok := fun k_ => ((True ∧ some k_ ≠ (.slice Ao22 t1227.length co22 : Value).ownBlock) ∧ some k_ ≠ (.slice Ao25 t1231.length co25 : Value).ownBlock)) (n := t1243.length) (c := co43) ?_).2.2; exact (by (with_reducible repeat (first | apply Kd.R_alloc | apply Kd.R_drewN | apply Kd.R_drew)); exact (Kd.R_mono (Kd.R_far (p := ⟨gb1247, 1, none⟩) (Kd.R_far (p := ⟨gb1247, 0, none⟩) (Kd.R_types HO1245.out BK1247.out (by decide)) (fun _ hk => hk.2) (.bool t1242)) (fun _ hk => hk.2) (.slice Ao43 t1243.length co43)) (fun _ h_ => h_.1)))); (case side4 => exact (Kd.R_reads' HO1245.out).2.1); rintro e w45 ⟨rfl, hb⟩; have n0_ := Aside0.mk (Kd.R_below (by (with_reducible repeat (first | apply Kd.R_alloc | apply Kd.R_drewN | apply Kd.R_drew)); exact (Kd.R_mono (Kd.R_far (p := ⟨gb1247, 1, none⟩) (Kd.R_far (p := ⟨gb1247, 0, none⟩) (Kd.R_types HO1229.out BK1247.out (by decide)) (fun _ hk => hk.2) (.bool t1242)) (fun _ hk => hk.2) (.slice Ao43 t1243.length co43)) (fun _ h_ => h_.1))) hb); have n1_ := Aside0.mk (Kd.R_below (by (with_reducible repeat (first | apply Kd.R_alloc | apply Kd.R_drewN | apply Kd.R_drew)); exact (Kd.R_mono (Kd.R_far (p := ⟨gb1247, 1, none⟩) (Kd.R_far (p := ⟨gb1247, 0, none⟩) (Kd.R_types HO1233.out BK1247.out (by decide)) (fun _ hk => hk.2) (.bool t1242)) (fun _ hk => hk.2) (.slice Ao43 t1243.length co43)) (fun _ h_ => h_.1))) hb); have n2_ := Aside0.mk (Kd.V_below (by (with_reducible repeat (first | apply Kd.V_alloc | apply Kd.V_drewN | apply Kd.V_drew)); exact (Kd.V_mono (Kd.V_far (p := ⟨gb1247, 1, none⟩) (Kd.V_far (p := ⟨gb1247, 0, none⟩) (Kd.V_mono HO1239.out (fun k_ hk => (⟨hk, hk.2⟩ : _ ∧ k_ ≠ gb1247))) (fun _ hk => hk.2) (.bool t1242)) (fun _ hk => hk.2) (.slice Ao43 t1243.length co43)) (fun _ h_ => h_.1))) hb); have n3_ := Aside0.mk (Kd.R_below (by (with_reducible repeat (first | apply Kd.R_alloc | apply Kd.R_drewN | apply Kd.R_drew)); exact (Kd.R_mono (Kd.R_far (p := ⟨gb1247, 1, none⟩) (Kd.R_far (p := ⟨gb1247, 0, none⟩) (Kd.R_types HO1245.out BK1247.out (by decide)) (fun _ hk => hk.2) (.bool t1242)) (fun _ hk => hk.2) (.slice Ao43 t1243.length co43)) (fun _ h_ => h_.1))) hb); have n4_ := Aside0.mk (blk_below (g := gb1234) (o := .cells #[.bool t1226, .slice Ao22 t1227.length co22] 27 (0, 0)) (zk BK1234.out) hb); have n5_ := Aside0.mk (blk_below (g := gb1235) (o := .cells #[.bool t1230, .slice Ao25 t1231.length co25] 27 (0, 0)) (zk BK1235.out) hb); have n6_ := Aside0.mk (blk_below (g := gb1241) (o := .cells #[.bool t1236, .slice Ao34 t1237.length co34] 27 (0, 0)) (zk BK1241.out) hb); have n7_ := Aside0.mk (blk_below (g := gb1247) (o := .cells #[.bool t1242, .slice Ao43 t1243.length co43] 27 (0, 0)) (by (with_reducible repeat (first | refine blk_drewN ?_ _ | refine blk_drew ?_ | refine blk_alloc ?_ _)); refine blk_put (cs := #[.bool t1242, .slice none 0 0]) ?_ 1 _ rfl; (with_reducible repeat (first | refine blk_drewN ?_ _ | refine blk_drew ?_ | refine blk_alloc ?_ _)); refine blk_put (cs := #[.bool false, .slice none 0 0]) ?_ 0 _ rfl; (with_reducible repeat (first | refine blk_drewN ?_ _ | refine blk_drew ?_ | refine blk_alloc ?_ _)); exact BK1247.out) hb); have n8_ := Aside0.mk (below_step zb hb); clear HO1229; clear HO1233; clear HO1239; clear HO1245; clear BK1234; clear BK1235; clear BK1241; clear BK1247; clear HB; have HO1229 := n0_; have HO1233 := n1_; have HO1239 := n2_; have HO1245 := n3_; have BK1234 := n4_; have BK1235 := n5_; have BK1241 := n6_; have BK1247 := n7_; have HB := n8_; clear n0_ n1_ n2_ n3_ n4_ n5_ n6_ n7_ n8_; (try clear hb); (try clear hb2); (try clear hk); (try clear hi); have hcz46_0 : w45.cell? ⟨gb1241, 0, none⟩ = some (.bool t1236) := (blk_cell BK1241.out 0).trans rfl; have hcz46_1 : w45.cell? ⟨gb1241, 1, none⟩ = some (.slice Ao34 t1237.length co34) := (blk_cell BK1241.out 1).trans rfl; have hfz46_0 := blk_frozen BK1241.out 0; have hfz46_1 := blk_frozen BK1241.out 1; have hcz47_0 : w45.cell? ⟨gb1235, 0, none⟩ = some (.bool t1230) := (blk_cell BK1235.out 0).trans rfl; have hcz47_1 : w45.cell? ⟨gb1235, 1, none⟩ = some (.slice Ao25 t1231.length co25) := (blk_cell BK1235.out 1).trans rfl; have hfz47_0 := blk_frozen BK1235.out 0; have hfz47_1 := blk_frozen BK1235.out 1) | ((with_reducible refine gate_callee (f := 41) rfl ?_); refine goesL_ (some 57) rfl rfl Try.func41 (by kernel_rfl) rfl #[.agg #[.bool t1236, .slice Ao34 t1237.length co34], .agg #[.bool t1230, .slice Ao25 t1231.length co25]] rfl za ?_; (with_reducible refine (impl_BigSub.calls k t1236 (fun k_ => ((((k_ ≠ gb1234 ∧ k_ ≠ gb1235) ∧ k_ ≠ gb1241) ∧ some k_ ≠ (.slice Ao43 t1243.length co43 : Value).ownBlock) ∧ k_ ≠ gb1247)) _ _ t1237 t1230 (fun k_ => some k_ = (.slice Ao25 t1231.length co25 : Value).ownBlock) _ _ t1231 t1250 t1251 true _ ?side1 ?side2 A10.out).mono ?_); (case side1 => exact HO1239.out); (case side2 => exact Kd.R_V (Kd.R_tight rfl (Kd.R_types (Kd.R_types (Kd.R_types (Kd.R_types (HO1233.out) BK1234.out (by decide)) BK1235.out (by decide)) BK1241.out (by decide)) BK1247.out (by decide)))); rintro e w48 ⟨v1252, rfl, ho0, hb⟩; refine ⟨_, rfl, ?_⟩; have n0_ := Aside0.mk (Kd.R_below (zR HO1229.out) hb); have n1_ := Aside0.mk (Kd.R_below (zR HO1233.out) hb); have n2_ := Aside0.mk (Kd.V_below (zV HO1239.out) hb); have n3_ := Aside0.mk (Kd.R_below (zR HO1245.out) hb); have n4_ := Aside0.mk (Kd.V_lower (Kd.V_mono (ok' := fun k_ => some k_ ≠ (.slice Ao43 t1243.length co43 : Value).ownBlock ∧ k_ ≠ gb1234 ∧ k_ ≠ gb1235 ∧ k_ ≠ gb1241 ∧ k_ ≠ gb1247) ho0 (fun k_ hk_ => ⟨Or.elim hk_ (fun hs_ => Or.elim hs_ (fun hs_ => hs_.1.2) (fun hs_ => ((Kd.R_types (Kd.R_types (Kd.R_types (Kd.R_types (HO1233.out) BK1234.out (by decide)) BK1235.out (by decide)) BK1241.out (by decide)) BK1247.out (by decide)).1 k_ hs_.symm).1.1.1.1.2)) (fun hn_ => (Kd.fresh' (Kd.R_lt (zR HO1245.out)) k_ hn_)), Or.elim hk_ (fun hs_ => Or.elim hs_ (fun hs_ => hs_.1.1.1.1) (fun hs_ => ((Kd.R_types (Kd.R_types (Kd.R_types (Kd.R_types (HO1233.out) BK1234.out (by decide)) BK1235.out (by decide)) BK1241.out (by decide)) BK1247.out (by decide)).1 k_ hs_.symm).1.1.1.2)) (fun hn_ => (Kd.freshB (g := gb1234) (o := .cells #[.bool t1226, .slice Ao22 t1227.length co22] 27 (0, 0)) (zk BK1234.out) k_ hn_)), Or.elim hk_ (fun hs_ => Or.elim hs_ (fun hs_ => hs_.1.1.1.2) (fun hs_ => ((Kd.R_types (Kd.R_types (Kd.R_types (Kd.R_types (HO1233.out) BK1234.out (by decide)) BK1235.out (by decide)) BK1241.out (by decide)) BK1247.out (by decide)).1 k_ hs_.symm).1.1.2)) (fun hn_ => (Kd.freshB (g := gb1235) (o := .cells #[.bool t1230, .slice Ao25 t1231.length co25] 27 (0, 0)) (zk BK1235.out) k_ hn_)), Or.elim hk_ (fun hs_ => Or.elim hs_ (fun hs_ => hs_.1.1.2) (fun hs_ => ((Kd.R_types (Kd.R_types (Kd.R_types (Kd.R_types (HO1233.out) BK1234.out (by decide)) BK1235.out (by decide)) BK1241.out (by decide)) BK1247.out (by decide)).1 k_ hs_.symm).1.2)) (fun hn_ => (Kd.freshB (g := gb1241) (o := .cells #[.bool t1236, .slice Ao34 t1237.length co34] 27 (0, 0)) (zk BK1241.out) k_ hn_)), Or.elim hk_ (fun hs_ => Or.elim hs_ (fun hs_ => hs_.2) (fun hs_ => ((Kd.R_types (Kd.R_types (Kd.R_types (Kd.R_types (HO1233.out) BK1234.out (by decide)) BK1235.out (by decide)) BK1241.out (by decide)) BK1247.out (by decide)).1 k_ hs_.symm).2)) (fun hn_ => (Kd.freshB (g := gb1247) (o := .cells #[.bool t1242, .slice Ao43 t1243.length co43] 27 (0, 0)) (zk BK1247.out) k_ hn_))⟩)) (below_size zb)); have n5_ := Aside0.mk (blk_below (g := gb1234) (o := .cells #[.bool t1226, .slice Ao22 t1227.length co22] 27 (0, 0)) (zk BK1234.out) hb); have n6_ := Aside0.mk (blk_below (g := gb1235) (o := .cells #[.bool t1230, .slice Ao25 t1231.length co25] 27 (0, 0)) (zk BK1235.out) hb); have n7_ := Aside0.mk (blk_below (g := gb1241) (o := .cells #[.bool t1236, .slice Ao34 t1237.length co34] 27 (0, 0)) (zk BK1241.out) hb); have n8_ := Aside0.mk (blk_below (g := gb1247) (o := .cells #[.bool t1242, .slice Ao43 t1243.length co43] 27 (0, 0)) (zk BK1247.out) hb); have n9_ := Aside0.mk (below_step zb hb); clear HO1229; clear HO1233; clear HO1239; clear HO1245; clear BK1234; clear BK1235; clear BK1241; clear BK1247; clear HB; have HO1229 := n0_; have HO1233 := n1_; have HO1239 := n2_; have HO1245 := n3_; have HO1253 := n4_; have BK1234 := n5_; have BK1235 := n6_; have BK1241 := n7_; have BK1247 := n8_; have HB := n9_; clear n0_ n1_ n2_ n3_ n4_ n5_ n6_ n7_ n8_ n9_; (try clear hb); (try clear hb2); (try clear hk); (try clear hi); (try clear ho0)) | ((with_reducible refine gate_dst (N := 9) rfl ?_); refine box_event ?hg (N := 9) ?hd (cs := #[.bool false, .slice none 0 0]) (t := 27) ?hr ?_; (case hd => rfl); (case hg => rfl); (case hr => first | (go_simp; done) | (go_simp; rfl)); intro gb1255 hg w49 hbox hb; have n0_ := Aside0.mk (Kd.R_below (zR HO1229.out) hb); have n1_ := Aside0.mk (Kd.R_below (zR HO1233.out) hb); have n2_ := Aside0.mk (Kd.V_below (Kd.V_elderB (zV HO1239.out) gb1255 (Nat.le_of_eq hg.symm)) hb); have n3_ := Aside0.mk (Kd.R_below (zR HO1245.out) hb); have n4_ := Aside0.mk (Kd.V_below (Kd.V_elderB (zV HO1253.out) gb1255 (Nat.le_of_eq hg.symm)) hb); have n5_ := Aside0.mk (blk_below (g := gb1234) (o := .cells #[.bool t1226, .slice Ao22 t1227.length co22] 27 (0, 0)) (zk BK1234.out) hb); have n6_ := Aside0.mk (blk_below (g := gb1235) (o := .cells #[.bool t1230, .slice Ao25 t1231.length co25] 27 (0, 0)) (zk BK1235.out) hb); have n7_ := Aside0.mk (blk_below (g := gb1241) (o := .cells #[.bool t1236, .slice Ao34 t1237.length co34] 27 (0, 0)) (zk BK1241.out) hb); have n8_ := Aside0.mk (blk_below (g := gb1247) (o := .cells #[.bool t1242, .slice Ao43 t1243.length co43] 27 (0, 0)) (zk BK1247.out) hb); have n9_ := Aside0.mk (below_step zb hb); have n10_ := Aside0.mk (hbox); have n11_ := Aside0.mk ((by rw [hg]; exact (below_size zb) : w.heap.size ≤ gb1255)); have n12_ := Aside0.mk ((by rw [hg]; exact (below_size zb) : w.heap.size ≤ gb1255)); have n13_ := Aside0.mk ((by rw [hg]; exact Nat.ne_of_lt (blk_lt (g := gb1234) (o := .cells #[.bool t1226, .slice Ao22 t1227.length co22] 27 (0, 0)) (zk BK1234.out)) : gb1234 ≠ gb1255)); have n14_ := Aside0.mk ((by rw [hg]; exact Nat.ne_of_gt (blk_lt (g := gb1234) (o := .cells #[.bool t1226, .slice Ao22 t1227.length co22] 27 (0, 0)) (zk BK1234.out)) : gb1255 ≠ gb1234)); have n15_ := Aside0.mk ((by rw [hg]; exact Nat.ne_of_lt (blk_lt (g := gb1235) (o := .cells #[.bool t1230, .slice Ao25 t1231.length co25] 27 (0, 0)) (zk BK1235.out)) : gb1235 ≠ gb1255)); have n16_ := Aside0.mk ((by rw [hg]; exact Nat.ne_of_gt (blk_lt (g := gb1235) (o := .cells #[.bool t1230, .slice Ao25 t1231.length co25] 27 (0, 0)) (zk BK1235.out)) : gb1255 ≠ gb1235)); have n17_ := Aside0.mk ((by rw [hg]; exact Nat.ne_of_lt (blk_lt (g := gb1241) (o := .cells #[.bool t1236, .slice Ao34 t1237.length co34] 27 (0, 0)) (zk BK1241.out)) : gb1241 ≠ gb1255)); have n18_ := Aside0.mk ((by rw [hg]; exact Nat.ne_of_gt (blk_lt (g := gb1241) (o := .cells #[.bool t1236, .slice Ao34 t1237.length co34] 27 (0, 0)) (zk BK1241.out)) : gb1255 ≠ gb1241)); have n19_ := Aside0.mk ((by rw [hg]; exact Nat.ne_of_lt (blk_lt (g := gb1247) (o := .cells #[.bool t1242, .slice Ao43 t1243.length co43] 27 (0, 0)) (zk BK1247.out)) : gb1247 ≠ gb1255)); have n20_ := Aside0.mk ((by rw [hg]; exact Nat.ne_of_gt (blk_lt (g := gb1247) (o := .cells #[.bool t1242, .slice Ao43 t1243.length co43] 27 (0, 0)) (zk BK1247.out)) : gb1255 ≠ gb1247)); clear HO1229; clear HO1233; clear HO1239; clear HO1245; clear HO1253; clear BK1234; clear BK1235; clear BK1241; clear BK1247; clear HB; have HO1229 := n0_; have HO1233 := n1_; have HO1239 := n2_; have HO1245 := n3_; have HO1253 := n4_; have BK1234 := n5_; have BK1235 := n6_; have BK1241 := n7_; have BK1247 := n8_; have HB := n9_; have BK1255 := n10_; have GW1255 := n11_; have GE1255 := n12_; have NB1234_1255 := n13_; have NB1255_1234 := n14_; have NB1235_1255 := n15_; have NB1255_1235 := n16_; have NB1241_1255 := n17_; have NB1255_1241 := n18_; have NB1247_1255 := n19_; have NB1255_1247 := n20_; clear n0_ n1_ n2_ n3_ n4_ n5_ n6_ n7_ n8_ n9_ n10_ n11_ n12_ n13_ n14_ n15_ n16_ n17_ n18_ n19_ n20_; clear hb hbox hg; have hnb50 := NB1255_1234.out; have hnc50 := NB1234_1255.out; have hnb51 := NB1255_1235.out; have hnc51 := NB1235_1255.out; have hnb52 := NB1255_1241.out; have hnc52 := NB1241_1255.out; have hnb53 := NB1255_1247.out; have hnc53 := NB1247_1255.out; have hcz54_0 : w49.cell? ⟨gb1255, 0, none⟩ = some (.bool false) := (blk_cell BK1255.out 0).trans rfl; have hcz54_1 : w49.cell? ⟨gb1255, 1, none⟩ = some (.slice none 0 0) := (blk_cell BK1255.out 1).trans rfl; have hfz54_0 := blk_frozen BK1255.out 0; have hfz54_1 := blk_frozen BK1255.out 1; obtain ⟨Ao55, co55, eo55⟩ := Kd.V_slice HO1253.out; subst eo55) | ((with_reducible refine gate_store (t := 27) (p := 9) rfl ?_); refine store_event (t := 27) (p := 9) (v := ?vo_w56) (w1 := ((w49.setCell ⟨gb1255, 0, none⟩ (.bool t1250)).setCell ⟨gb1255, 1, none⟩ (.slice Ao55 t1251.length co55))) ?hg ?ho ?hn ?hr ?_; (case ho => rfl); (case hg => rfl); (case hn => rfl); (case hr => first | (go_simp; done) | (go_simp; rfl)); intro w56 hw; have n0_ : Aside0 (Kd.R (Kd.int .i64) 3 w56 w.heap.size (fun k_ => some k_ ≠ (.slice Ao25 t1231.length co25 : Value).ownBlock ∧ some k_ ≠ (.slice Ao43 t1243.length co43 : Value).ownBlock) (.slice Ao22 t1227.length co22) t1227) := ⟨(by rw [hw]; exact (by (with_reducible repeat (first | apply Kd.R_alloc | apply Kd.R_drewN | apply Kd.R_drew)); exact Kd.R_mono (Kd.R_far (p := ⟨gb1255, 1, none⟩) (Kd.R_far (p := ⟨gb1255, 0, none⟩) (Kd.R_types HO1229.out BK1255.out (by decide)) (fun _ hk => hk.2) (.bool t1250)) (fun _ hk => hk.2) (.slice Ao55 t1251.length co55)) (fun _ hk => ⟨hk.1.1, hk.1.2⟩)))⟩; have n1_ : Aside0 (Kd.R (Kd.int .i64) 3 w56 w.heap.size (fun k_ => some k_ ≠ (.slice Ao22 t1227.length co22 : Value).ownBlock ∧ some k_ ≠ (.slice Ao43 t1243.length co43 : Value).ownBlock) (.slice Ao25 t1231.length co25) t1231) := ⟨(by rw [hw]; exact (by (with_reducible repeat (first | apply Kd.R_alloc | apply Kd.R_drewN | apply Kd.R_drew)); exact Kd.R_mono (Kd.R_far (p := ⟨gb1255, 1, none⟩) (Kd.R_far (p := ⟨gb1255, 0, none⟩) (Kd.R_types HO1233.out BK1255.out (by decide)) (fun _ hk => hk.2) (.bool t1250)) (fun _ hk => hk.2) (.slice Ao55 t1251.length co55)) (fun _ hk => ⟨hk.1.1, hk.1.2⟩)))⟩; have n2_ : Aside0 (Kd.V (Kd.int .i64) 3 w56 w.heap.size (fun k_ => some k_ ≠ (.slice Ao43 t1243.length co43 : Value).ownBlock ∧ k_ ≠ gb1234 ∧ k_ ≠ gb1235 ∧ k_ ≠ gb1241 ∧ k_ ≠ gb1247 ∧ k_ ≠ gb1255) (.slice Ao34 t1237.length co34) t1237) := ⟨(by rw [hw]; exact (by (with_reducible repeat (first | apply Kd.V_alloc | apply Kd.V_drewN | apply Kd.V_drew)); exact Kd.V_mono (Kd.V_far (p := ⟨gb1255, 1, none⟩) (Kd.V_far (p := ⟨gb1255, 0, none⟩) (Kd.V_mono HO1239.out (fun k_ hk => (⟨hk, hk.2⟩ : _ ∧ k_ ≠ gb1255))) (fun _ hk => hk.2) (.bool t1250)) (fun _ hk => hk.2) (.slice Ao55 t1251.length co55)) (fun _ hk => ⟨hk.1.1.1.2, ⟨hk.1.1.1.1.1.1, ⟨hk.1.1.1.1.1.2, ⟨hk.1.1.1.1.2, ⟨hk.1.1.2, hk.1.2⟩⟩⟩⟩⟩)))⟩; have n3_ : Aside0 (Kd.R (Kd.int .i64) 3 w56 w.heap.size (fun k_ => some k_ ≠ (.slice Ao22 t1227.length co22 : Value).ownBlock ∧ some k_ ≠ (.slice Ao25 t1231.length co25 : Value).ownBlock) (.slice Ao43 t1243.length co43) t1243) := ⟨(by rw [hw]; exact (by (with_reducible repeat (first | apply Kd.R_alloc | apply Kd.R_drewN | apply Kd.R_drew)); exact Kd.R_mono (Kd.R_far (p := ⟨gb1255, 1, none⟩) (Kd.R_far (p := ⟨gb1255, 0, none⟩) (Kd.R_types HO1245.out BK1255.out (by decide)) (fun _ hk => hk.2) (.bool t1250)) (fun _ hk => hk.2) (.slice Ao55 t1251.length co55)) (fun _ hk => ⟨hk.1.1.2, hk.1.2⟩)))⟩; have n4_ : Aside0 (Kd.V (Kd.int .i64) 3 w56 w.heap.size (fun k_ => some k_ ≠ (.slice Ao43 t1243.length co43 : Value).ownBlock ∧ k_ ≠ gb1234 ∧ k_ ≠ gb1235 ∧ k_ ≠ gb1241 ∧ k_ ≠ gb1247 ∧ k_ ≠ gb1255) (.slice Ao55 t1251.length co55) t1251) := ⟨(by rw [hw]; exact (by (with_reducible repeat (first | apply Kd.V_alloc | apply Kd.V_drewN | apply Kd.V_drew)); exact Kd.V_mono (Kd.V_far (p := ⟨gb1255, 1, none⟩) (Kd.V_far (p := ⟨gb1255, 0, none⟩) (Kd.V_mono HO1253.out (fun k_ hk => (⟨hk, hk.2⟩ : _ ∧ k_ ≠ gb1255))) (fun _ hk => hk.2) (.bool t1250)) (fun _ hk => hk.2) (.slice Ao55 t1251.length co55)) (fun _ hk => ⟨hk.1.1.1, ⟨hk.1.1.2.1, ⟨hk.1.1.2.2.1, ⟨hk.1.1.2.2.2.1, ⟨hk.1.1.2.2.2.2, hk.1.2⟩⟩⟩⟩⟩)))⟩; have n5_ : Aside0 (w56.heap[gb1234]? = some (.cells #[.bool t1226, .slice Ao22 t1227.length co22] 27 (0, 0))) := ⟨(by rw [hw]; exact (zk BK1234.out))⟩; have n6_ : Aside0 (w56.heap[gb1235]? = some (.cells #[.bool t1230, .slice Ao25 t1231.length co25] 27 (0, 0))) := ⟨(by rw [hw]; exact (zk BK1235.out))⟩; have n7_ : Aside0 (w56.heap[gb1241]? = some (.cells #[.bool t1236, .slice Ao34 t1237.length co34] 27 (0, 0))) := ⟨(by rw [hw]; exact (zk BK1241.out))⟩; have n8_ : Aside0 (w56.heap[gb1247]? = some (.cells #[.bool t1242, .slice Ao43 t1243.length co43] 27 (0, 0))) := ⟨(by rw [hw]; exact (zk BK1247.out))⟩; have n9_ : Aside0 (w56.heap[gb1255]? = some (.cells #[.bool t1250, .slice Ao55 t1251.length co55] 27 (0, 0))) := ⟨(by rw [hw]; exact (by (with_reducible repeat (first | refine blk_drewN ?_ _ | refine blk_drew ?_ | refine blk_alloc ?_ _)); refine blk_put (cs := #[.bool t1250, .slice none 0 0]) ?_ 1 _ rfl; (with_reducible repeat (first | refine blk_drewN ?_ _ | refine blk_drew ?_ | refine blk_alloc ?_ _)); refine blk_put (cs := #[.bool false, .slice none 0 0]) ?_ 0 _ rfl; (with_reducible repeat (first | refine blk_drewN ?_ _ | refine blk_drew ?_ | refine blk_alloc ?_ _)); exact BK1255.out))⟩; have n10_ : Aside0 (Below w.heap.size w w56) := ⟨(by rw [hw]; exact zb)⟩; clear hw; clear HO1229; clear HO1233; clear HO1239; clear HO1245; clear HO1253; clear BK1234; clear BK1235; clear BK1241; clear BK1247; clear BK1255; clear HB; have HO1229 := n0_; have HO1233 := n1_; have HO1239 := n2_; have HO1245 := n3_; have HO1253 := n4_; have BK1234 := n5_; have BK1235 := n6_; have BK1241 := n7_; have BK1247 := n8_; have BK1255 := n9_; have HB := n10_; clear n0_ n1_ n2_ n3_ n4_ n5_ n6_ n7_ n8_ n9_ n10_; have hcz57_0 : w56.cell? ⟨gb1235, 0, none⟩ = some (.bool t1230) := (blk_cell BK1235.out 0).trans rfl; have hcz57_1 : w56.cell? ⟨gb1235, 1, none⟩ = some (.slice Ao25 t1231.length co25) := (blk_cell BK1235.out 1).trans rfl; have hfz57_0 := blk_frozen BK1235.out 0; have hfz57_1 := blk_frozen BK1235.out 1; have hcz58_0 : w56.cell? ⟨gb1234, 0, none⟩ = some (.bool t1226) := (blk_cell BK1234.out 0).trans rfl; have hcz58_1 : w56.cell? ⟨gb1234, 1, none⟩ = some (.slice Ao22 t1227.length co22) := (blk_cell BK1234.out 1).trans rfl; have hfz58_0 := blk_frozen BK1234.out 0; have hfz58_1 := blk_frozen BK1234.out 1) | ((with_reducible refine gate_callee (f := 32) rfl ?_); refine goesL_ (some 63) rfl rfl Try.func32 (by kernel_rfl) rfl #[.agg #[.bool t1230, .slice Ao25 t1231.length co25], .agg #[.bool t1226, .slice Ao22 t1227.length co22]] rfl za ?_; (with_reducible refine (impl_BigAdd.calls k t1230 (fun k_ => some k_ = (.slice Ao25 t1231.length co25 : Value).ownBlock) _ _ t1231 t1226 (fun k_ => some k_ = (.slice Ao22 t1227.length co22 : Value).ownBlock) _ _ t1227 t1256 t1257 true _ ?side1 ?side2 A11.out).mono ?_); (case side1 => exact Kd.R_V (Kd.R_tight rfl (Kd.R_types (Kd.R_types (Kd.R_types (Kd.R_types (Kd.R_types (HO1233.out) BK1234.out (by decide)) BK1235.out (by decide)) BK1241.out (by decide)) BK1247.out (by decide)) BK1255.out (by decide)))); (case side2 => exact Kd.R_V (Kd.R_tight rfl (Kd.R_types (Kd.R_types (Kd.R_types (Kd.R_types (Kd.R_types (HO1229.out) BK1234.out (by decide)) BK1235.out (by decide)) BK1241.out (by decide)) BK1247.out (by decide)) BK1255.out (by decide)))); rintro e w59 ⟨v1258, rfl, ho0, hb⟩; refine ⟨_, rfl, ?_⟩; have n0_ := Aside0.mk (Kd.R_below (zR HO1229.out) hb); have n1_ := Aside0.mk (Kd.R_below (zR HO1233.out) hb); have n2_ := Aside0.mk (Kd.V_below (zV HO1239.out) hb); have n3_ := Aside0.mk (Kd.R_below (zR HO1245.out) hb); have n4_ := Aside0.mk (Kd.V_below (zV HO1253.out) hb); have n5_ := Aside0.mk (Kd.V_lower (Kd.V_mono (ok' := fun k_ => some k_ ≠ (.slice Ao43 t1243.length co43 : Value).ownBlock ∧ k_ ≠ gb1234 ∧ k_ ≠ gb1235 ∧ k_ ≠ gb1241 ∧ k_ ≠ gb1247 ∧ k_ ≠ gb1255) ho0 (fun k_ hk_ => ⟨Or.elim hk_ (fun hs_ => Or.elim hs_ (fun hs_ => ((Kd.R_types (Kd.R_types (Kd.R_types (Kd.R_types (Kd.R_types (HO1233.out) BK1234.out (by decide)) BK1235.out (by decide)) BK1241.out (by decide)) BK1247.out (by decide)) BK1255.out (by decide)).1 k_ hs_.symm).1.1.1.1.1.2) (fun hs_ => ((Kd.R_types (Kd.R_types (Kd.R_types (Kd.R_types (Kd.R_types (HO1229.out) BK1234.out (by decide)) BK1235.out (by decide)) BK1241.out (by decide)) BK1247.out (by decide)) BK1255.out (by decide)).1 k_ hs_.symm).1.1.1.1.1.2)) (fun hn_ => (Kd.fresh' (Kd.R_lt (zR HO1245.out)) k_ hn_)), Or.elim hk_ (fun hs_ => Or.elim hs_ (fun hs_ => ((Kd.R_types (Kd.R_types (Kd.R_types (Kd.R_types (Kd.R_types (HO1233.out) BK1234.out (by decide)) BK1235.out (by decide)) BK1241.out (by decide)) BK1247.out (by decide)) BK1255.out (by decide)).1 k_ hs_.symm).1.1.1.1.2) (fun hs_ => ((Kd.R_types (Kd.R_types (Kd.R_types (Kd.R_types (Kd.R_types (HO1229.out) BK1234.out (by decide)) BK1235.out (by decide)) BK1241.out (by decide)) BK1247.out (by decide)) BK1255.out (by decide)).1 k_ hs_.symm).1.1.1.1.2)) (fun hn_ => (Kd.freshB (g := gb1234) (o := .cells #[.bool t1226, .slice Ao22 t1227.length co22] 27 (0, 0)) (zk BK1234.out) k_ hn_)), Or.elim hk_ (fun hs_ => Or.elim hs_ (fun hs_ => ((Kd.R_types (Kd.R_types (Kd.R_types (Kd.R_types (Kd.R_types (HO1233.out) BK1234.out (by decide)) BK1235.out (by decide)) BK1241.out (by decide)) BK1247.out (by decide)) BK1255.out (by decide)).1 k_ hs_.symm).1.1.1.2) (fun hs_ => ((Kd.R_types (Kd.R_types (Kd.R_types (Kd.R_types (Kd.R_types (HO1229.out) BK1234.out (by decide)) BK1235.out (by decide)) BK1241.out (by decide)) BK1247.out (by decide)) BK1255.out (by decide)).1 k_ hs_.symm).1.1.1.2)) (fun hn_ => (Kd.freshB (g := gb1235) (o := .cells #[.bool t1230, .slice Ao25 t1231.length co25] 27 (0, 0)) (zk BK1235.out) k_ hn_)), Or.elim hk_ (fun hs_ => Or.elim hs_ (fun hs_ => ((Kd.R_types (Kd.R_types (Kd.R_types (Kd.R_types (Kd.R_types (HO1233.out) BK1234.out (by decide)) BK1235.out (by decide)) BK1241.out (by decide)) BK1247.out (by decide)) BK1255.out (by decide)).1 k_ hs_.symm).1.1.2) (fun hs_ => ((Kd.R_types (Kd.R_types (Kd.R_types (Kd.R_types (Kd.R_types (HO1229.out) BK1234.out (by decide)) BK1235.out (by decide)) BK1241.out (by decide)) BK1247.out (by decide)) BK1255.out (by decide)).1 k_ hs_.symm).1.1.2)) (fun hn_ => (Kd.freshB (g := gb1241) (o := .cells #[.bool t1236, .slice Ao34 t1237.length co34] 27 (0, 0)) (zk BK1241.out) k_ hn_)), Or.elim hk_ (fun hs_ => Or.elim hs_ (fun hs_ => ((Kd.R_types (Kd.R_types (Kd.R_types (Kd.R_types (Kd.R_types (HO1233.out) BK1234.out (by decide)) BK1235.out (by decide)) BK1241.out (by decide)) BK1247.out (by decide)) BK1255.out (by decide)).1 k_ hs_.symm).1.2) (fun hs_ => ((Kd.R_types (Kd.R_types (Kd.R_types (Kd.R_types (Kd.R_types (HO1229.out) BK1234.out (by decide)) BK1235.out (by decide)) BK1241.out (by decide)) BK1247.out (by decide)) BK1255.out (by decide)).1 k_ hs_.symm).1.2)) (fun hn_ => (Kd.freshB (g := gb1247) (o := .cells #[.bool t1242, .slice Ao43 t1243.length co43] 27 (0, 0)) (zk BK1247.out) k_ hn_)), Or.elim hk_ (fun hs_ => Or.elim hs_ (fun hs_ => ((Kd.R_types (Kd.R_types (Kd.R_types (Kd.R_types (Kd.R_types (HO1233.out) BK1234.out (by decide)) BK1235.out (by decide)) BK1241.out (by decide)) BK1247.out (by decide)) BK1255.out (by decide)).1 k_ hs_.symm).2) (fun hs_ => ((Kd.R_types (Kd.R_types (Kd.R_types (Kd.R_types (Kd.R_types (HO1229.out) BK1234.out (by decide)) BK1235.out (by decide)) BK1241.out (by decide)) BK1247.out (by decide)) BK1255.out (by decide)).1 k_ hs_.symm).2)) (fun hn_ => (Kd.freshB (g := gb1255) (o := .cells #[.bool t1250, .slice Ao55 t1251.length co55] 27 (0, 0)) (zk BK1255.out) k_ hn_))⟩)) (below_size zb)); have n6_ := Aside0.mk (blk_below (g := gb1234) (o := .cells #[.bool t1226, .slice Ao22 t1227.length co22] 27 (0, 0)) (zk BK1234.out) hb); have n7_ := Aside0.mk (blk_below (g := gb1235) (o := .cells #[.bool t1230, .slice Ao25 t1231.length co25] 27 (0, 0)) (zk BK1235.out) hb); have n8_ := Aside0.mk (blk_below (g := gb1241) (o := .cells #[.bool t1236, .slice Ao34 t1237.length co34] 27 (0, 0)) (zk BK1241.out) hb); have n9_ := Aside0.mk (blk_below (g := gb1247) (o := .cells #[.bool t1242, .slice Ao43 t1243.length co43] 27 (0, 0)) (zk BK1247.out) hb); have n10_ := Aside0.mk (blk_below (g := gb1255) (o := .cells #[.bool t1250, .slice Ao55 t1251.length co55] 27 (0, 0)) (zk BK1255.out) hb); have n11_ := Aside0.mk (below_step zb hb); clear HO1229; clear HO1233; clear HO1239; clear HO1245; clear HO1253; clear BK1234; clear BK1235; clear BK1241; clear BK1247; clear BK1255; clear HB; have HO1229 := n0_; have HO1233 := n1_; have HO1239 := n2_; have HO1245 := n3_; have HO1253 := n4_; have HO1259 := n5_; have BK1234 := n6_; have BK1235 := n7_; have BK1241 := n8_; have BK1247 := n9_; have BK1255 := n10_; have HB := n11_; clear n0_ n1_ n2_ n3_ n4_ n5_ n6_ n7_ n8_ n9_ n10_ n11_; (try clear hb); (try clear hb2); (try clear hk); (try clear hi); (try clear ho0)) | ((with_reducible refine gate_dst (N := 11) rfl ?_); refine box_event ?hg (N := 11) ?hd (cs := #[.bool false, .slice none 0 0]) (t := 27) ?hr ?_; (case hd => rfl); (case hg => rfl); (case hr => first | (go_simp; done) | (go_simp; rfl)); intro gb1261 hg w60 hbox hb; have n0_ := Aside0.mk (Kd.R_below (zR HO1229.out) hb); have n1_ := Aside0.mk (Kd.R_below (zR HO1233.out) hb); have n2_ := Aside0.mk (Kd.V_below (Kd.V_elderB (zV HO1239.out) gb1261 (Nat.le_of_eq hg.symm)) hb); have n3_ := Aside0.mk (Kd.R_below (zR HO1245.out) hb); have n4_ := Aside0.mk (Kd.V_below (Kd.V_elderB (zV HO1253.out) gb1261 (Nat.le_of_eq hg.symm)) hb); have n5_ := Aside0.mk (Kd.V_below (Kd.V_elderB (zV HO1259.out) gb1261 (Nat.le_of_eq hg.symm)) hb); have n6_ := Aside0.mk (blk_below (g := gb1234) (o := .cells #[.bool t1226, .slice Ao22 t1227.length co22] 27 (0, 0)) (zk BK1234.out) hb); have n7_ := Aside0.mk (blk_below (g := gb1235) (o := .cells #[.bool t1230, .slice Ao25 t1231.length co25] 27 (0, 0)) (zk BK1235.out) hb); have n8_ := Aside0.mk (blk_below (g := gb1241) (o := .cells #[.bool t1236, .slice Ao34 t1237.length co34] 27 (0, 0)) (zk BK1241.out) hb); have n9_ := Aside0.mk (blk_below (g := gb1247) (o := .cells #[.bool t1242, .slice Ao43 t1243.length co43] 27 (0, 0)) (zk BK1247.out) hb); have n10_ := Aside0.mk (blk_below (g := gb1255) (o := .cells #[.bool t1250, .slice Ao55 t1251.length co55] 27 (0, 0)) (zk BK1255.out) hb); have n11_ := Aside0.mk (below_step zb hb); have n12_ := Aside0.mk (hbox); have n13_ := Aside0.mk ((by rw [hg]; exact (below_size zb) : w.heap.size ≤ gb1261)); have n14_ := Aside0.mk ((by rw [hg]; exact (below_size zb) : w.heap.size ≤ gb1261)); have n15_ := Aside0.mk ((by rw [hg]; exact Nat.ne_of_lt (blk_lt (g := gb1234) (o := .cells #[.bool t1226, .slice Ao22 t1227.length co22] 27 (0, 0)) (zk BK1234.out)) : gb1234 ≠ gb1261)); have n16_ := Aside0.mk ((by rw [hg]; exact Nat.ne_of_gt (blk_lt (g := gb1234) (o := .cells #[.bool t1226, .slice Ao22 t1227.length co22] 27 (0, 0)) (zk BK1234.out)) : gb1261 ≠ gb1234)); have n17_ := Aside0.mk ((by rw [hg]; exact Nat.ne_of_lt (blk_lt (g := gb1235) (o := .cells #[.bool t1230, .slice Ao25 t1231.length co25] 27 (0, 0)) (zk BK1235.out)) : gb1235 ≠ gb1261)); have n18_ := Aside0.mk ((by rw [hg]; exact Nat.ne_of_gt (blk_lt (g := gb1235) (o := .cells #[.bool t1230, .slice Ao25 t1231.length co25] 27 (0, 0)) (zk BK1235.out)) : gb1261 ≠ gb1235)); have n19_ := Aside0.mk ((by rw [hg]; exact Nat.ne_of_lt (blk_lt (g := gb1241) (o := .cells #[.bool t1236, .slice Ao34 t1237.length co34] 27 (0, 0)) (zk BK1241.out)) : gb1241 ≠ gb1261)); have n20_ := Aside0.mk ((by rw [hg]; exact Nat.ne_of_gt (blk_lt (g := gb1241) (o := .cells #[.bool t1236, .slice Ao34 t1237.length co34] 27 (0, 0)) (zk BK1241.out)) : gb1261 ≠ gb1241)); have n21_ := Aside0.mk ((by rw [hg]; exact Nat.ne_of_lt (blk_lt (g := gb1247) (o := .cells #[.bool t1242, .slice Ao43 t1243.length co43] 27 (0, 0)) (zk BK1247.out)) : gb1247 ≠ gb1261)); have n22_ := Aside0.mk ((by rw [hg]; exact Nat.ne_of_gt (blk_lt (g := gb1247) (o := .cells #[.bool t1242, .slice Ao43 t1243.length co43] 27 (0, 0)) (zk BK1247.out)) : gb1261 ≠ gb1247)); have n23_ := Aside0.mk ((by rw [hg]; exact Nat.ne_of_lt (blk_lt (g := gb1255) (o := .cells #[.bool t1250, .slice Ao55 t1251.length co55] 27 (0, 0)) (zk BK1255.out)) : gb1255 ≠ gb1261)); have n24_ := Aside0.mk ((by rw [hg]; exact Nat.ne_of_gt (blk_lt (g := gb1255) (o := .cells #[.bool t1250, .slice Ao55 t1251.length co55] 27 (0, 0)) (zk BK1255.out)) : gb1261 ≠ gb1255)); clear HO1229; clear HO1233; clear HO1239; clear HO1245; clear HO1253; clear HO1259; clear BK1234; clear BK1235; clear BK1241; clear BK1247; clear BK1255; clear HB; have HO1229 := n0_; have HO1233 := n1_; have HO1239 := n2_; have HO1245 := n3_; have HO1253 := n4_; have HO1259 := n5_; have BK1234 := n6_; have BK1235 := n7_; have BK1241 := n8_; have BK1247 := n9_; have BK1255 := n10_; have HB := n11_; have BK1261 := n12_; have GW1261 := n13_; have GE1261 := n14_; have NB1234_1261 := n15_; have NB1261_1234 := n16_; have NB1235_1261 := n17_; have NB1261_1235 := n18_; have NB1241_1261 := n19_; have NB1261_1241 := n20_; have NB1247_1261 := n21_; have NB1261_1247 := n22_; have NB1255_1261 := n23_; have NB1261_1255 := n24_; clear n0_ n1_ n2_ n3_ n4_ n5_ n6_ n7_ n8_ n9_ n10_ n11_ n12_ n13_ n14_ n15_ n16_ n17_ n18_ n19_ n20_ n21_ n22_ n23_ n24_; clear hb hbox hg; have hnb61 := NB1261_1234.out; have hnc61 := NB1234_1261.out; have hnb62 := NB1261_1235.out; have hnc62 := NB1235_1261.out; have hnb63 := NB1261_1241.out; have hnc63 := NB1241_1261.out; have hnb64 := NB1261_1247.out; have hnc64 := NB1247_1261.out; have hnb65 := NB1261_1255.out; have hnc65 := NB1255_1261.out; have hcz66_0 : w60.cell? ⟨gb1261, 0, none⟩ = some (.bool false) := (blk_cell BK1261.out 0).trans rfl; have hcz66_1 : w60.cell? ⟨gb1261, 1, none⟩ = some (.slice none 0 0) := (blk_cell BK1261.out 1).trans rfl; have hfz66_0 := blk_frozen BK1261.out 0; have hfz66_1 := blk_frozen BK1261.out 1; obtain ⟨Ao67, co67, eo67⟩ := Kd.V_slice HO1259.out; subst eo67; have hcz68_0 : w60.cell? ⟨gb1255, 0, none⟩ = some (.bool t1250) := (blk_cell BK1255.out 0).trans rfl; have hcz68_1 : w60.cell? ⟨gb1255, 1, none⟩ = some (.slice Ao55 t1251.length co55) := (blk_cell BK1255.out 1).trans rfl; have hfz68_0 := blk_frozen BK1255.out 0; have hfz68_1 := blk_frozen BK1255.out 1; have hcz69_0 : w60.cell? ⟨gb1234, 0, none⟩ = some (.bool t1226) := (blk_cell BK1234.out 0).trans rfl; have hcz69_1 : w60.cell? ⟨gb1234, 1, none⟩ = some (.slice Ao22 t1227.length co22) := (blk_cell BK1234.out 1).trans rfl; have hfz69_0 := blk_frozen BK1234.out 0; have hfz69_1 := blk_frozen BK1234.out 1) | (go_at_call 31; (with_reducible refine (laws_jtBig.calls k t1250 _ _ t1251 t1226 _ _ t1227 true _ ?side1 ?side2 ?side3 ?side4 A14.out).mono ?_); (case side1 => refine (Kd.V_reads' (e := 3) (base := w.heap.size) (ok := fun k_ => ((some k_ ≠ (.slice Ao43 t1243.length co43 : Value).ownBlock ∧ (k_ ≠ gb1234 ∧ (k_ ≠ gb1235 ∧ (k_ ≠ gb1241 ∧ (k_ ≠ gb1247 ∧ k_ ≠ gb1255))))) ∧ k_ ≠ gb1261)) (n := t1251.length) (c := co55) ?_).2.2; exact (by (with_reducible repeat (first | apply Kd.V_alloc | apply Kd.V_drewN | apply Kd.V_drew)); exact (Kd.V_mono (Kd.V_far (p := ⟨gb1261, 1, none⟩) (Kd.V_far (p := ⟨gb1261, 0, none⟩) (Kd.V_mono HO1253.out (fun k_ hk => (⟨hk, hk.2⟩ : _ ∧ k_ ≠ gb1261))) (fun _ hk => hk.2) (.bool t1256)) (fun _ hk => hk.2) (.slice Ao67 t1257.length co67)) (fun _ h_ => h_.1)))); (case side2 => exact (Kd.V_reads' HO1253.out).2.1); (case side3 => refine (Kd.R_reads' (e := 3) (base := w.heap.size) (ok := fun k_ => (some k_ ≠ (.slice Ao25 t1231.length co25 : Value).ownBlock ∧ some k_ ≠ (.slice Ao43 t1243.length co43 : Value).ownBlock)) (n := t1227.length) (c := co22) ?_).2.2; exact (by (with_reducible repeat (first | apply Kd.R_alloc | apply Kd.R_drewN | apply Kd.R_drew)); exact (Kd.R_mono (Kd.R_far (p := ⟨gb1261, 1, none⟩) (Kd.R_far (p := ⟨gb1261, 0, none⟩) (Kd.R_types HO1229.out BK1261.out (by decide)) (fun _ hk => hk.2) (.bool t1256)) (fun _ hk => hk.2) (.slice Ao67 t1257.length co67)) (fun _ h_ => h_.1)))); (case side4 => exact (Kd.R_reads' HO1229.out).2.1); rintro e w70 ⟨rfl, hb⟩; have n0_ := Aside0.mk (Kd.R_below (by (with_reducible repeat (first | apply Kd.R_alloc | apply Kd.R_drewN | apply Kd.R_drew)); exact (Kd.R_mono (Kd.R_far (p := ⟨gb1261, 1, none⟩) (Kd.R_far (p := ⟨gb1261, 0, none⟩) (Kd.R_types HO1229.out BK1261.out (by decide)) (fun _ hk => hk.2) (.bool t1256)) (fun _ hk => hk.2) (.slice Ao67 t1257.length co67)) (fun _ h_ => h_.1))) hb); have n1_ := Aside0.mk (Kd.R_below (by (with_reducible repeat (first | apply Kd.R_alloc | apply Kd.R_drewN | apply Kd.R_drew)); exact (Kd.R_mono (Kd.R_far (p := ⟨gb1261, 1, none⟩) (Kd.R_far (p := ⟨gb1261, 0, none⟩) (Kd.R_types HO1233.out BK1261.out (by decide)) (fun _ hk => hk.2) (.bool t1256)) (fun _ hk => hk.2) (.slice Ao67 t1257.length co67)) (fun _ h_ => h_.1))) hb); have n2_ := Aside0.mk (Kd.V_below (by (with_reducible repeat (first | apply Kd.V_alloc | apply Kd.V_drewN | apply Kd.V_drew)); exact (Kd.V_mono (Kd.V_far (p := ⟨gb1261, 1, none⟩) (Kd.V_far (p := ⟨gb1261, 0, none⟩) (Kd.V_mono HO1239.out (fun k_ hk => (⟨hk, hk.2⟩ : _ ∧ k_ ≠ gb1261))) (fun _ hk => hk.2) (.bool t1256)) (fun _ hk => hk.2) (.slice Ao67 t1257.length co67)) (fun _ h_ => h_.1))) hb); have n3_ := Aside0.mk (Kd.R_below (by (with_reducible repeat (first | apply Kd.R_alloc | apply Kd.R_drewN | apply Kd.R_drew)); exact (Kd.R_mono (Kd.R_far (p := ⟨gb1261, 1, none⟩) (Kd.R_far (p := ⟨gb1261, 0, none⟩) (Kd.R_types HO1245.out BK1261.out (by decide)) (fun _ hk => hk.2) (.bool t1256)) (fun _ hk => hk.2) (.slice Ao67 t1257.length co67)) (fun _ h_ => h_.1))) hb); have n4_ := Aside0.mk (Kd.V_below (by (with_reducible repeat (first | apply Kd.V_alloc | apply Kd.V_drewN | apply Kd.V_drew)); exact (Kd.V_mono (Kd.V_far (p := ⟨gb1261, 1, none⟩) (Kd.V_far (p := ⟨gb1261, 0, none⟩) (Kd.V_mono HO1253.out (fun k_ hk => (⟨hk, hk.2⟩ : _ ∧ k_ ≠ gb1261))) (fun _ hk => hk.2) (.bool t1256)) (fun _ hk => hk.2) (.slice Ao67 t1257.length co67)) (fun _ h_ => h_.1))) hb); have n5_ := Aside0.mk (Kd.V_below (by (with_reducible repeat (first | apply Kd.V_alloc | apply Kd.V_drewN | apply Kd.V_drew)); exact (Kd.V_mono (Kd.V_far (p := ⟨gb1261, 1, none⟩) (Kd.V_far (p := ⟨gb1261, 0, none⟩) (Kd.V_mono HO1259.out (fun k_ hk => (⟨hk, hk.2⟩ : _ ∧ k_ ≠ gb1261))) (fun _ hk => hk.2) (.bool t1256)) (fun _ hk => hk.2) (.slice Ao67 t1257.length co67)) (fun _ h_ => h_.1))) hb); have n6_ := Aside0.mk (blk_below (g := gb1234) (o := .cells #[.bool t1226, .slice Ao22 t1227.length co22] 27 (0, 0)) (zk BK1234.out) hb); have n7_ := Aside0.mk (blk_below (g := gb1235) (o := .cells #[.bool t1230, .slice Ao25 t1231.length co25] 27 (0, 0)) (zk BK1235.out) hb); have n8_ := Aside0.mk (blk_below (g := gb1241) (o := .cells #[.bool t1236, .slice Ao34 t1237.length co34] 27 (0, 0)) (zk BK1241.out) hb); have n9_ := Aside0.mk (blk_below (g := gb1247) (o := .cells #[.bool t1242, .slice Ao43 t1243.length co43] 27 (0, 0)) (zk BK1247.out) hb); have n10_ := Aside0.mk (blk_below (g := gb1255) (o := .cells #[.bool t1250, .slice Ao55 t1251.length co55] 27 (0, 0)) (zk BK1255.out) hb); have n11_ := Aside0.mk (blk_below (g := gb1261) (o := .cells #[.bool t1256, .slice Ao67 t1257.length co67] 27 (0, 0)) (by (with_reducible repeat (first | refine blk_drewN ?_ _ | refine blk_drew ?_ | refine blk_alloc ?_ _)); refine blk_put (cs := #[.bool t1256, .slice none 0 0]) ?_ 1 _ rfl; (with_reducible repeat (first | refine blk_drewN ?_ _ | refine blk_drew ?_ | refine blk_alloc ?_ _)); refine blk_put (cs := #[.bool false, .slice none 0 0]) ?_ 0 _ rfl; (with_reducible repeat (first | refine blk_drewN ?_ _ | refine blk_drew ?_ | refine blk_alloc ?_ _)); exact BK1261.out) hb); have n12_ := Aside0.mk (below_step zb hb); clear HO1229; clear HO1233; clear HO1239; clear HO1245; clear HO1253; clear HO1259; clear BK1234; clear BK1235; clear BK1241; clear BK1247; clear BK1255; clear BK1261; clear HB; have HO1229 := n0_; have HO1233 := n1_; have HO1239 := n2_; have HO1245 := n3_; have HO1253 := n4_; have HO1259 := n5_; have BK1234 := n6_; have BK1235 := n7_; have BK1241 := n8_; have BK1247 := n9_; have BK1255 := n10_; have BK1261 := n11_; have HB := n12_; clear n0_ n1_ n2_ n3_ n4_ n5_ n6_ n7_ n8_ n9_ n10_ n11_ n12_; (try clear hb); (try clear hb2); (try clear hk); (try clear hi); have hcz71_0 : w70.cell? ⟨gb1261, 0, none⟩ = some (.bool t1256) := (blk_cell BK1261.out 0).trans rfl; have hcz71_1 : w70.cell? ⟨gb1261, 1, none⟩ = some (.slice Ao67 t1257.length co67) := (blk_cell BK1261.out 1).trans rfl; have hfz71_0 := blk_frozen BK1261.out 0; have hfz71_1 := blk_frozen BK1261.out 1; have hcz72_0 : w70.cell? ⟨gb1241, 0, none⟩ = some (.bool t1236) := (blk_cell BK1241.out 0).trans rfl; have hcz72_1 : w70.cell? ⟨gb1241, 1, none⟩ = some (.slice Ao34 t1237.length co34) := (blk_cell BK1241.out 1).trans rfl; have hfz72_0 := blk_frozen BK1241.out 0; have hfz72_1 := blk_frozen BK1241.out 1) | (go_at_call 31; (with_reducible refine (laws_jtBig.calls k t1256 _ _ t1257 t1236 _ _ t1237 t1263 _ ?side1 ?side2 ?side3 ?side4 A16.out).mono ?_); (case side1 => repeat (first | exact (Kd.V_reads' HO1259.out).2.2 | (with_reducible refine Kd.C_alloc ?_ _) | (with_reducible refine Kd.C_drewN ?_ _) | (with_reducible refine Kd.C_drew ?_))); (case side2 => exact (Kd.V_reads' HO1259.out).2.1); (case side3 => repeat (first | exact (Kd.V_reads' HO1239.out).2.2 | (with_reducible refine Kd.C_alloc ?_ _) | (with_reducible refine Kd.C_drewN ?_ _) | (with_reducible refine Kd.C_drew ?_))); (case side4 => exact (Kd.V_reads' HO1239.out).2.1); rintro e w73 ⟨rfl, hb⟩; have n0_ := Aside0.mk (Kd.R_below (zR HO1229.out) hb); have n1_ := Aside0.mk (Kd.R_below (zR HO1233.out) hb); have n2_ := Aside0.mk (Kd.V_below (zV HO1239.out) hb); have n3_ := Aside0.mk (Kd.R_below (zR HO1245.out) hb); have n4_ := Aside0.mk (Kd.V_below (zV HO1253.out) hb); have n5_ := Aside0.mk (Kd.V_below (zV HO1259.out) hb); have n6_ := Aside0.mk (blk_below (g := gb1234) (o := .cells #[.bool t1226, .slice Ao22 t1227.length co22] 27 (0, 0)) (zk BK1234.out) hb); have n7_ := Aside0.mk (blk_below (g := gb1235) (o := .cells #[.bool t1230, .slice Ao25 t1231.length co25] 27 (0, 0)) (zk BK1235.out) hb); have n8_ := Aside0.mk (blk_below (g := gb1241) (o := .cells #[.bool t1236, .slice Ao34 t1237.length co34] 27 (0, 0)) (zk BK1241.out) hb); have n9_ := Aside0.mk (blk_below (g := gb1247) (o := .cells #[.bool t1242, .slice Ao43 t1243.length co43] 27 (0, 0)) (zk BK1247.out) hb); have n10_ := Aside0.mk (blk_below (g := gb1255) (o := .cells #[.bool t1250, .slice Ao55 t1251.length co55] 27 (0, 0)) (zk BK1255.out) hb); have n11_ := Aside0.mk (blk_below (g := gb1261) (o := .cells #[.bool t1256, .slice Ao67 t1257.length co67] 27 (0, 0)) (zk BK1261.out) hb); have n12_ := Aside0.mk (below_step zb hb); clear HO1229; clear HO1233; clear HO1239; clear HO1245; clear HO1253; clear HO1259; clear BK1234; clear BK1235; clear BK1241; clear BK1247; clear BK1255; clear BK1261; clear HB; have HO1229 := n0_; have HO1233 := n1_; have HO1239 := n2_; have HO1245 := n3_; have HO1253 := n4_; have HO1259 := n5_; have BK1234 := n6_; have BK1235 := n7_; have BK1241 := n8_; have BK1247 := n9_; have BK1255 := n10_; have BK1261 := n11_; have HB := n12_; clear n0_ n1_ n2_ n3_ n4_ n5_ n6_ n7_ n8_ n9_ n10_ n11_ n12_; (try clear hb); (try clear hb2); (try clear hk); (try clear hi)))
                go_ret
                exact ⟨by first | rfl | (simp [errW_none, errW_some] <;> rfl) | (simp [*, errW_none, errW_some] <;> rfl), zb⟩
              · replace c15 := Bool.eq_false_iff.mpr c15
                subst c15
                have H1 : (none) = some r := by rw [if_neg (show ¬ (false = true) by decide)] at H; exact H
                clear H
                have H := H1
                clear H1
                exact absurd H (by simp)
            · replace c13 := Bool.eq_false_iff.mpr c13
              subst c13
              have H1 : (none) = some r := by rw [if_neg (show ¬ (false = true) by decide)] at H; exact H
              clear H
              have H := H1
              clear H1
              exact absurd H (by simp)
          · replace c12 := Bool.eq_false_iff.mpr c12
            subst c12
            have H1 : (none) = some r := by rw [if_neg (show ¬ (false = true) by decide)] at H; exact H
            clear H
            have H := H1
            clear H1
            exact absurd H (by simp)
        · replace c9 := Bool.eq_false_iff.mpr c9
          subst c9
          have H1 : (if (false == t1246) = true then ((laws_jtBig.f k t1236 t1237 t1242 t1243).bind fun t1249 => (some t1249)) else (none)) = some r := by rw [if_neg (show ¬ (false = true) by decide)] at H; exact H
          clear H
          have H := H1
          clear H1
          by_cases c74 : (false == t1246) = true
          · rw [if_pos c74] at H
            have c74b0 : (false == t1246) = true := c74
            (try (have c74b1 : decide (false = t1246) = true := by simpa using c74))
            (try (have c74b2 : (false == t1246) = true := by simpa using c74))
            clear c74
            replace H := Option.bind_eq_some_iff.mp H
            obtain ⟨t1249, A750, H⟩ := H
            replace H : (some t1249) = some r := H
            have A75 := Aside0.mk A750
            clear A750
            obtain rfl := Option.some.inj H
            go_enter Try.func16, Try.ntmps16
            go_wp2_with (first | ((with_reducible refine gate_callee (f := 45) rfl ?_); refine goesL_ (some 18) rfl rfl Try.func45 (by kernel_rfl) rfl #[.slice A0 l0.length c0] rfl za ?_; (with_reducible refine (spec_DrawBigAdd.calls k _ _ l0 t1226 t1227 t1230 t1231 _ ?side1 ?side2 A3.out).mono ?_); (case side1 => repeat (first | exact HR0.out | (with_reducible refine Kd.C_alloc ?_ _) | (with_reducible refine Kd.C_drewN ?_ _) | (with_reducible refine Kd.C_drew ?_))); (case side2 => exact HC0.out); rintro e w76 ⟨v1228, v1232, rfl, ho0, ho1, hb⟩; refine ⟨_, rfl, ?_⟩; have n0_ := Aside0.mk (Kd.R_lower ho0 (below_size zb)); have n1_ := Aside0.mk (Kd.R_lower ho1 (below_size zb)); have n2_ := Aside0.mk (below_step zb hb); clear HB; have HO1229 := n0_; have HO1233 := n1_; have HB := n2_; clear n0_ n1_ n2_; (try clear hb); (try clear hb2); (try clear hk); (try clear hi); (try clear ho0); (try clear ho1)) | ((with_reducible refine gate_dst (N := 3) rfl ?_); refine box_event ?hg (N := 3) ?hd (cs := #[.bool false, .slice none 0 0]) (t := 27) ?hr ?_; (case hd => rfl); (case hg => rfl); (case hr => first | (go_simp; done) | (go_simp; rfl)); intro gb1234 hg w77 hbox hb; have n0_ := Aside0.mk (Kd.R_below (zR HO1229.out) hb); have n1_ := Aside0.mk (Kd.R_below (zR HO1233.out) hb); have n2_ := Aside0.mk (below_step zb hb); have n3_ := Aside0.mk (hbox); have n4_ := Aside0.mk ((by rw [hg]; exact (below_size zb) : w.heap.size ≤ gb1234)); have n5_ := Aside0.mk ((by rw [hg]; exact (below_size zb) : w.heap.size ≤ gb1234)); clear HO1229; clear HO1233; clear HB; have HO1229 := n0_; have HO1233 := n1_; have HB := n2_; have BK1234 := n3_; have GW1234 := n4_; have GE1234 := n5_; clear n0_ n1_ n2_ n3_ n4_ n5_; clear hb hbox hg) | ((with_reducible refine gate_dst (N := 4) rfl ?_); refine box_event ?hg (N := 4) ?hd (cs := #[.bool false, .slice none 0 0]) (t := 27) ?hr ?_; (case hd => rfl); (case hg => rfl); (case hr => first | (go_simp; done) | (go_simp; rfl)); intro gb1235 hg w78 hbox hb; have n0_ := Aside0.mk (Kd.R_below (zR HO1229.out) hb); have n1_ := Aside0.mk (Kd.R_below (zR HO1233.out) hb); have n2_ := Aside0.mk (blk_below (g := gb1234) (o := .cells #[.bool false, .slice none 0 0] 27 (0, 0)) (zk BK1234.out) hb); have n3_ := Aside0.mk (below_step zb hb); have n4_ := Aside0.mk (hbox); have n5_ := Aside0.mk ((by rw [hg]; exact (below_size zb) : w.heap.size ≤ gb1235)); have n6_ := Aside0.mk ((by rw [hg]; exact (below_size zb) : w.heap.size ≤ gb1235)); have n7_ := Aside0.mk ((by rw [hg]; exact Nat.ne_of_lt (blk_lt (g := gb1234) (o := .cells #[.bool false, .slice none 0 0] 27 (0, 0)) (zk BK1234.out)) : gb1234 ≠ gb1235)); have n8_ := Aside0.mk ((by rw [hg]; exact Nat.ne_of_gt (blk_lt (g := gb1234) (o := .cells #[.bool false, .slice none 0 0] 27 (0, 0)) (zk BK1234.out)) : gb1235 ≠ gb1234)); clear HO1229; clear HO1233; clear BK1234; clear HB; have HO1229 := n0_; have HO1233 := n1_; have BK1234 := n2_; have HB := n3_; have BK1235 := n4_; have GW1235 := n5_; have GE1235 := n6_; have NB1234_1235 := n7_; have NB1235_1234 := n8_; clear n0_ n1_ n2_ n3_ n4_ n5_ n6_ n7_ n8_; clear hb hbox hg; have hnb79 := NB1234_1235.out; have hnc79 := NB1235_1234.out; have hcz80_0 : w78.cell? ⟨gb1234, 0, none⟩ = some (.bool false) := (blk_cell BK1234.out 0).trans rfl; have hcz80_1 : w78.cell? ⟨gb1234, 1, none⟩ = some (.slice none 0 0) := (blk_cell BK1234.out 1).trans rfl; have hfz80_0 := blk_frozen BK1234.out 0; have hfz80_1 := blk_frozen BK1234.out 1; obtain ⟨Ao81, co81, eo81⟩ := Kd.R_slice HO1229.out; subst eo81) | ((with_reducible refine gate_store (t := 27) (p := 3) rfl ?_); refine store_event (t := 27) (p := 3) (v := ?vo_w82) (w1 := ((w78.setCell ⟨gb1234, 0, none⟩ (.bool t1226)).setCell ⟨gb1234, 1, none⟩ (.slice Ao81 t1227.length co81))) ?hg ?ho ?hn ?hr ?_; (case ho => rfl); (case hg => rfl); (case hn => rfl); (case hr => first | (go_simp; done) | (go_simp; rfl)); intro w82 hw; have n0_ : Aside0 (Kd.R (Kd.int .i64) 3 w82 w.heap.size (fun k_ => some k_ ≠ (v1232 : Value).ownBlock) (.slice Ao81 t1227.length co81) t1227) := ⟨(by rw [hw]; exact (by (with_reducible repeat (first | apply Kd.R_alloc | apply Kd.R_drewN | apply Kd.R_drew)); exact Kd.R_mono (Kd.R_far (p := ⟨gb1234, 1, none⟩) (Kd.R_far (p := ⟨gb1234, 0, none⟩) (Kd.R_types HO1229.out BK1234.out (by decide)) (fun _ hk => hk.2) (.bool t1226)) (fun _ hk => hk.2) (.slice Ao81 t1227.length co81)) (fun _ hk => hk.1)))⟩; have n1_ : Aside0 (Kd.R (Kd.int .i64) 3 w82 w.heap.size (fun k_ => some k_ ≠ (.slice Ao81 t1227.length co81 : Value).ownBlock) v1232 t1231) := ⟨(by rw [hw]; exact (by (with_reducible repeat (first | apply Kd.R_alloc | apply Kd.R_drewN | apply Kd.R_drew)); exact Kd.R_mono (Kd.R_far (p := ⟨gb1234, 1, none⟩) (Kd.R_far (p := ⟨gb1234, 0, none⟩) (Kd.R_types HO1233.out BK1234.out (by decide)) (fun _ hk => hk.2) (.bool t1226)) (fun _ hk => hk.2) (.slice Ao81 t1227.length co81)) (fun _ hk => hk.1)))⟩; have n2_ : Aside0 (w82.heap[gb1234]? = some (.cells #[.bool t1226, .slice Ao81 t1227.length co81] 27 (0, 0))) := ⟨(by rw [hw]; exact (by (with_reducible repeat (first | refine blk_drewN ?_ _ | refine blk_drew ?_ | refine blk_alloc ?_ _)); refine blk_put (cs := #[.bool t1226, .slice none 0 0]) ?_ 1 _ rfl; (with_reducible repeat (first | refine blk_drewN ?_ _ | refine blk_drew ?_ | refine blk_alloc ?_ _)); refine blk_put (cs := #[.bool false, .slice none 0 0]) ?_ 0 _ rfl; (with_reducible repeat (first | refine blk_drewN ?_ _ | refine blk_drew ?_ | refine blk_alloc ?_ _)); exact BK1234.out))⟩; have n3_ : Aside0 (w82.heap[gb1235]? = some (.cells #[.bool false, .slice none 0 0] 27 (0, 0))) := ⟨(by rw [hw]; exact (zk BK1235.out))⟩; have n4_ : Aside0 (Below w.heap.size w w82) := ⟨(by rw [hw]; exact zb)⟩; clear hw; clear HO1229; clear HO1233; clear BK1234; clear BK1235; clear HB; have HO1229 := n0_; have HO1233 := n1_; have BK1234 := n2_; have BK1235 := n3_; have HB := n4_; clear n0_ n1_ n2_ n3_ n4_; have hcz83_0 : w82.cell? ⟨gb1235, 0, none⟩ = some (.bool false) := (blk_cell BK1235.out 0).trans rfl; have hcz83_1 : w82.cell? ⟨gb1235, 1, none⟩ = some (.slice none 0 0) := (blk_cell BK1235.out 1).trans rfl; have hfz83_0 := blk_frozen BK1235.out 0; have hfz83_1 := blk_frozen BK1235.out 1; obtain ⟨Ao84, co84, eo84⟩ := Kd.R_slice HO1233.out; subst eo84) | ((with_reducible refine gate_store (t := 27) (p := 4) rfl ?_); refine store_event (t := 27) (p := 4) (v := ?vo_w85) (w1 := ((w82.setCell ⟨gb1235, 0, none⟩ (.bool t1230)).setCell ⟨gb1235, 1, none⟩ (.slice Ao84 t1231.length co84))) ?hg ?ho ?hn ?hr ?_; (case ho => rfl); (case hg => rfl); (case hn => rfl); (case hr => first | (go_simp; done) | (go_simp; rfl)); intro w85 hw; have n0_ : Aside0 (Kd.R (Kd.int .i64) 3 w85 w.heap.size (fun k_ => some k_ ≠ (.slice Ao84 t1231.length co84 : Value).ownBlock) (.slice Ao81 t1227.length co81) t1227) := ⟨(by rw [hw]; exact (by (with_reducible repeat (first | apply Kd.R_alloc | apply Kd.R_drewN | apply Kd.R_drew)); exact Kd.R_mono (Kd.R_far (p := ⟨gb1235, 1, none⟩) (Kd.R_far (p := ⟨gb1235, 0, none⟩) (Kd.R_types HO1229.out BK1235.out (by decide)) (fun _ hk => hk.2) (.bool t1230)) (fun _ hk => hk.2) (.slice Ao84 t1231.length co84)) (fun _ hk => hk.1)))⟩; have n1_ : Aside0 (Kd.R (Kd.int .i64) 3 w85 w.heap.size (fun k_ => some k_ ≠ (.slice Ao81 t1227.length co81 : Value).ownBlock) (.slice Ao84 t1231.length co84) t1231) := ⟨(by rw [hw]; exact (by (with_reducible repeat (first | apply Kd.R_alloc | apply Kd.R_drewN | apply Kd.R_drew)); exact Kd.R_mono (Kd.R_far (p := ⟨gb1235, 1, none⟩) (Kd.R_far (p := ⟨gb1235, 0, none⟩) (Kd.R_types HO1233.out BK1235.out (by decide)) (fun _ hk => hk.2) (.bool t1230)) (fun _ hk => hk.2) (.slice Ao84 t1231.length co84)) (fun _ hk => hk.1)))⟩; have n2_ : Aside0 (w85.heap[gb1234]? = some (.cells #[.bool t1226, .slice Ao81 t1227.length co81] 27 (0, 0))) := ⟨(by rw [hw]; exact (zk BK1234.out))⟩; have n3_ : Aside0 (w85.heap[gb1235]? = some (.cells #[.bool t1230, .slice Ao84 t1231.length co84] 27 (0, 0))) := ⟨(by rw [hw]; exact (by (with_reducible repeat (first | refine blk_drewN ?_ _ | refine blk_drew ?_ | refine blk_alloc ?_ _)); refine blk_put (cs := #[.bool t1230, .slice none 0 0]) ?_ 1 _ rfl; (with_reducible repeat (first | refine blk_drewN ?_ _ | refine blk_drew ?_ | refine blk_alloc ?_ _)); refine blk_put (cs := #[.bool false, .slice none 0 0]) ?_ 0 _ rfl; (with_reducible repeat (first | refine blk_drewN ?_ _ | refine blk_drew ?_ | refine blk_alloc ?_ _)); exact BK1235.out))⟩; have n4_ : Aside0 (Below w.heap.size w w85) := ⟨(by rw [hw]; exact zb)⟩; clear hw; clear HO1229; clear HO1233; clear BK1234; clear BK1235; clear HB; have HO1229 := n0_; have HO1233 := n1_; have BK1234 := n2_; have BK1235 := n3_; have HB := n4_; clear n0_ n1_ n2_ n3_ n4_; have hcz86_0 : w85.cell? ⟨gb1234, 0, none⟩ = some (.bool t1226) := (blk_cell BK1234.out 0).trans rfl; have hcz86_1 : w85.cell? ⟨gb1234, 1, none⟩ = some (.slice Ao81 t1227.length co81) := (blk_cell BK1234.out 1).trans rfl; have hfz86_0 := blk_frozen BK1234.out 0; have hfz86_1 := blk_frozen BK1234.out 1; have hcz87_0 : w85.cell? ⟨gb1235, 0, none⟩ = some (.bool t1230) := (blk_cell BK1235.out 0).trans rfl; have hcz87_1 : w85.cell? ⟨gb1235, 1, none⟩ = some (.slice Ao84 t1231.length co84) := (blk_cell BK1235.out 1).trans rfl; have hfz87_0 := blk_frozen BK1235.out 0; have hfz87_1 := blk_frozen BK1235.out 1) | ((with_reducible refine gate_callee (f := 32) rfl ?_); refine goesL_ (some 24) rfl rfl Try.func32 (by kernel_rfl) rfl #[.agg #[.bool t1226, .slice Ao81 t1227.length co81], .agg #[.bool t1230, .slice Ao84 t1231.length co84]] rfl za ?_; (with_reducible refine (impl_BigAdd.calls k t1226 (fun k_ => some k_ = (.slice Ao81 t1227.length co81 : Value).ownBlock) _ _ t1227 t1230 (fun k_ => some k_ = (.slice Ao84 t1231.length co84 : Value).ownBlock) _ _ t1231 t1236 t1237 false _ ?side1 ?side2 A4.out).mono ?_); (case side1 => exact Kd.R_V (Kd.R_tight rfl (Kd.R_types (Kd.R_types (HO1229.out) BK1234.out (by decide)) BK1235.out (by decide)))); (case side2 => exact Kd.R_V (Kd.R_tight rfl (Kd.R_types (Kd.R_types (HO1233.out) BK1234.out (by decide)) BK1235.out (by decide)))); rintro e w88 ⟨v1238, rfl, ho0, hb⟩; refine ⟨_, rfl, ?_⟩; have n0_ := Aside0.mk (Kd.R_below (zR HO1229.out) hb); have n1_ := Aside0.mk (Kd.R_below (zR HO1233.out) hb); have n2_ := Aside0.mk (Kd.V_lower (Kd.V_mono (ok' := fun k_ => k_ ≠ gb1234 ∧ k_ ≠ gb1235) ho0 (fun k_ hk_ => ⟨Or.elim hk_ (fun hs_ => Or.elim hs_ (fun hs_ => ((Kd.R_types (Kd.R_types (HO1229.out) BK1234.out (by decide)) BK1235.out (by decide)).1 k_ hs_.symm).1.2) (fun hs_ => ((Kd.R_types (Kd.R_types (HO1233.out) BK1234.out (by decide)) BK1235.out (by decide)).1 k_ hs_.symm).1.2)) (fun hn_ => (Kd.freshB (g := gb1234) (o := .cells #[.bool t1226, .slice Ao81 t1227.length co81] 27 (0, 0)) (zk BK1234.out) k_ hn_)), Or.elim hk_ (fun hs_ => Or.elim hs_ (fun hs_ => ((Kd.R_types (Kd.R_types (HO1229.out) BK1234.out (by decide)) BK1235.out (by decide)).1 k_ hs_.symm).2) (fun hs_ => ((Kd.R_types (Kd.R_types (HO1233.out) BK1234.out (by decide)) BK1235.out (by decide)).1 k_ hs_.symm).2)) (fun hn_ => (Kd.freshB (g := gb1235) (o := .cells #[.bool t1230, .slice Ao84 t1231.length co84] 27 (0, 0)) (zk BK1235.out) k_ hn_))⟩)) (below_size zb)); have n3_ := Aside0.mk (blk_below (g := gb1234) (o := .cells #[.bool t1226, .slice Ao81 t1227.length co81] 27 (0, 0)) (zk BK1234.out) hb); have n4_ := Aside0.mk (blk_below (g := gb1235) (o := .cells #[.bool t1230, .slice Ao84 t1231.length co84] 27 (0, 0)) (zk BK1235.out) hb); have n5_ := Aside0.mk (below_step zb hb); clear HO1229; clear HO1233; clear BK1234; clear BK1235; clear HB; have HO1229 := n0_; have HO1233 := n1_; have HO1239 := n2_; have BK1234 := n3_; have BK1235 := n4_; have HB := n5_; clear n0_ n1_ n2_ n3_ n4_ n5_; (try clear hb); (try clear hb2); (try clear hk); (try clear hi); (try clear ho0)) | ((with_reducible refine gate_dst (N := 5) rfl ?_); refine box_event ?hg (N := 5) ?hd (cs := #[.bool false, .slice none 0 0]) (t := 27) ?hr ?_; (case hd => rfl); (case hg => rfl); (case hr => first | (go_simp; done) | (go_simp; rfl)); intro gb1241 hg w89 hbox hb; have n0_ := Aside0.mk (Kd.R_below (zR HO1229.out) hb); have n1_ := Aside0.mk (Kd.R_below (zR HO1233.out) hb); have n2_ := Aside0.mk (Kd.V_below (Kd.V_elderB (zV HO1239.out) gb1241 (Nat.le_of_eq hg.symm)) hb); have n3_ := Aside0.mk (blk_below (g := gb1234) (o := .cells #[.bool t1226, .slice Ao81 t1227.length co81] 27 (0, 0)) (zk BK1234.out) hb); have n4_ := Aside0.mk (blk_below (g := gb1235) (o := .cells #[.bool t1230, .slice Ao84 t1231.length co84] 27 (0, 0)) (zk BK1235.out) hb); have n5_ := Aside0.mk (below_step zb hb); have n6_ := Aside0.mk (hbox); have n7_ := Aside0.mk ((by rw [hg]; exact (below_size zb) : w.heap.size ≤ gb1241)); have n8_ := Aside0.mk ((by rw [hg]; exact (below_size zb) : w.heap.size ≤ gb1241)); have n9_ := Aside0.mk ((by rw [hg]; exact Nat.ne_of_lt (blk_lt (g := gb1234) (o := .cells #[.bool t1226, .slice Ao81 t1227.length co81] 27 (0, 0)) (zk BK1234.out)) : gb1234 ≠ gb1241)); have n10_ := Aside0.mk ((by rw [hg]; exact Nat.ne_of_gt (blk_lt (g := gb1234) (o := .cells #[.bool t1226, .slice Ao81 t1227.length co81] 27 (0, 0)) (zk BK1234.out)) : gb1241 ≠ gb1234)); have n11_ := Aside0.mk ((by rw [hg]; exact Nat.ne_of_lt (blk_lt (g := gb1235) (o := .cells #[.bool t1230, .slice Ao84 t1231.length co84] 27 (0, 0)) (zk BK1235.out)) : gb1235 ≠ gb1241)); have n12_ := Aside0.mk ((by rw [hg]; exact Nat.ne_of_gt (blk_lt (g := gb1235) (o := .cells #[.bool t1230, .slice Ao84 t1231.length co84] 27 (0, 0)) (zk BK1235.out)) : gb1241 ≠ gb1235)); clear HO1229; clear HO1233; clear HO1239; clear BK1234; clear BK1235; clear HB; have HO1229 := n0_; have HO1233 := n1_; have HO1239 := n2_; have BK1234 := n3_; have BK1235 := n4_; have HB := n5_; have BK1241 := n6_; have GW1241 := n7_; have GE1241 := n8_; have NB1234_1241 := n9_; have NB1241_1234 := n10_; have NB1235_1241 := n11_; have NB1241_1235 := n12_; clear n0_ n1_ n2_ n3_ n4_ n5_ n6_ n7_ n8_ n9_ n10_ n11_ n12_; clear hb hbox hg; have hnb90 := NB1241_1234.out; have hnc90 := NB1234_1241.out; have hnb91 := NB1241_1235.out; have hnc91 := NB1235_1241.out; have hcz92_0 : w89.cell? ⟨gb1241, 0, none⟩ = some (.bool false) := (blk_cell BK1241.out 0).trans rfl; have hcz92_1 : w89.cell? ⟨gb1241, 1, none⟩ = some (.slice none 0 0) := (blk_cell BK1241.out 1).trans rfl; have hfz92_0 := blk_frozen BK1241.out 0; have hfz92_1 := blk_frozen BK1241.out 1; obtain ⟨Ao93, co93, eo93⟩ := Kd.V_slice HO1239.out; subst eo93; have hcz94_0 : w89.cell? ⟨gb1234, 0, none⟩ = some (.bool t1226) := (blk_cell BK1234.out 0).trans rfl; have hcz94_1 : w89.cell? ⟨gb1234, 1, none⟩ = some (.slice Ao81 t1227.length co81) := (blk_cell BK1234.out 1).trans rfl; have hfz94_0 := blk_frozen BK1234.out 0; have hfz94_1 := blk_frozen BK1234.out 1; have hcz95_0 : w89.cell? ⟨gb1235, 0, none⟩ = some (.bool t1230) := (blk_cell BK1235.out 0).trans rfl; have hcz95_1 : w89.cell? ⟨gb1235, 1, none⟩ = some (.slice Ao84 t1231.length co84) := (blk_cell BK1235.out 1).trans rfl; have hfz95_0 := blk_frozen BK1235.out 0; have hfz95_1 := blk_frozen BK1235.out 1) | ((with_reducible refine gate_callee (f := 39) rfl ?_); refine goesL_ (some 30) rfl rfl Try.func39 (by kernel_rfl) rfl #[.agg #[.bool t1226, .slice Ao81 t1227.length co81], .agg #[.bool t1230, .slice Ao84 t1231.length co84]] rfl za ?_; (with_reducible refine (spec_BigAdd.calls k t1226 _ _ t1227 t1230 _ _ t1231 t1242 t1243 t1246 _ ?side1 ?side2 ?side3 ?side4 A5.out).mono ?_); (case side1 => refine (Kd.R_reads' (e := 3) (base := w.heap.size) (ok := fun k_ => some k_ ≠ (.slice Ao84 t1231.length co84 : Value).ownBlock) (n := t1227.length) (c := co81) ?_).2.2; exact (by (with_reducible repeat (first | apply Kd.R_alloc | apply Kd.R_drewN | apply Kd.R_drew)); exact (Kd.R_mono (Kd.R_far (p := ⟨gb1241, 1, none⟩) (Kd.R_far (p := ⟨gb1241, 0, none⟩) (Kd.R_types HO1229.out BK1241.out (by decide)) (fun _ hk => hk.2) (.bool t1236)) (fun _ hk => hk.2) (.slice Ao93 t1237.length co93)) (fun _ h_ => h_.1)))); (case side2 => exact (Kd.R_reads' HO1229.out).2.1); (case side3 => refine (Kd.R_reads' (e := 3) (base := w.heap.size) (ok := fun k_ => some k_ ≠ (.slice Ao81 t1227.length co81 : Value).ownBlock) (n := t1231.length) (c := co84) ?_).2.2; exact (by (with_reducible repeat (first | apply Kd.R_alloc | apply Kd.R_drewN | apply Kd.R_drew)); exact (Kd.R_mono (Kd.R_far (p := ⟨gb1241, 1, none⟩) (Kd.R_far (p := ⟨gb1241, 0, none⟩) (Kd.R_types HO1233.out BK1241.out (by decide)) (fun _ hk => hk.2) (.bool t1236)) (fun _ hk => hk.2) (.slice Ao93 t1237.length co93)) (fun _ h_ => h_.1)))); (case side4 => exact (Kd.R_reads' HO1233.out).2.1); rintro e w96 ⟨v1244, rfl, ho0, hb⟩; refine ⟨_, rfl, ?_⟩; have n0_ := Aside0.mk (Kd.R_elder' (by (with_reducible repeat (first | apply Kd.R_alloc | apply Kd.R_drewN | apply Kd.R_drew)); exact (Kd.R_mono (Kd.R_far (p := ⟨gb1241, 1, none⟩) (Kd.R_far (p := ⟨gb1241, 0, none⟩) (Kd.R_types HO1229.out BK1241.out (by decide)) (fun _ hk => hk.2) (.bool t1236)) (fun _ hk => hk.2) (.slice Ao93 t1237.length co93)) (fun _ h_ => h_.1))) (Kd.R_base ho0) hb); have n1_ := Aside0.mk (Kd.R_elder' (by (with_reducible repeat (first | apply Kd.R_alloc | apply Kd.R_drewN | apply Kd.R_drew)); exact (Kd.R_mono (Kd.R_far (p := ⟨gb1241, 1, none⟩) (Kd.R_far (p := ⟨gb1241, 0, none⟩) (Kd.R_types HO1233.out BK1241.out (by decide)) (fun _ hk => hk.2) (.bool t1236)) (fun _ hk => hk.2) (.slice Ao93 t1237.length co93)) (fun _ h_ => h_.1))) (Kd.R_base ho0) hb); have n2_ := Aside0.mk (Kd.V_elder' (by (with_reducible repeat (first | apply Kd.V_alloc | apply Kd.V_drewN | apply Kd.V_drew)); exact (Kd.V_mono (Kd.V_far (p := ⟨gb1241, 1, none⟩) (Kd.V_far (p := ⟨gb1241, 0, none⟩) (Kd.V_mono HO1239.out (fun k_ hk => (⟨hk, hk.2⟩ : _ ∧ k_ ≠ gb1241))) (fun _ hk => hk.2) (.bool t1236)) (fun _ hk => hk.2) (.slice Ao93 t1237.length co93)) (fun _ h_ => h_.1))) (Kd.R_base ho0) hb); have n3_ := Aside0.mk (Kd.R_lower (Kd.R_new' (Kd.R_new' ho0 (Kd.R_lt (by (with_reducible repeat (first | apply Kd.R_alloc | apply Kd.R_drewN | apply Kd.R_drew)); exact (Kd.R_mono (Kd.R_far (p := ⟨gb1241, 1, none⟩) (Kd.R_far (p := ⟨gb1241, 0, none⟩) (Kd.R_types HO1229.out BK1241.out (by decide)) (fun _ hk => hk.2) (.bool t1236)) (fun _ hk => hk.2) (.slice Ao93 t1237.length co93)) (fun _ h_ => h_.1))))) (Kd.R_lt (by (with_reducible repeat (first | apply Kd.R_alloc | apply Kd.R_drewN | apply Kd.R_drew)); exact (Kd.R_mono (Kd.R_far (p := ⟨gb1241, 1, none⟩) (Kd.R_far (p := ⟨gb1241, 0, none⟩) (Kd.R_types HO1233.out BK1241.out (by decide)) (fun _ hk => hk.2) (.bool t1236)) (fun _ hk => hk.2) (.slice Ao93 t1237.length co93)) (fun _ h_ => h_.1))))) (below_size zb)); have n4_ := Aside0.mk (blk_below (g := gb1234) (o := .cells #[.bool t1226, .slice Ao81 t1227.length co81] 27 (0, 0)) (zk BK1234.out) hb); have n5_ := Aside0.mk (blk_below (g := gb1235) (o := .cells #[.bool t1230, .slice Ao84 t1231.length co84] 27 (0, 0)) (zk BK1235.out) hb); have n6_ := Aside0.mk (blk_below (g := gb1241) (o := .cells #[.bool t1236, .slice Ao93 t1237.length co93] 27 (0, 0)) (by (with_reducible repeat (first | refine blk_drewN ?_ _ | refine blk_drew ?_ | refine blk_alloc ?_ _)); refine blk_put (cs := #[.bool t1236, .slice none 0 0]) ?_ 1 _ rfl; (with_reducible repeat (first | refine blk_drewN ?_ _ | refine blk_drew ?_ | refine blk_alloc ?_ _)); refine blk_put (cs := #[.bool false, .slice none 0 0]) ?_ 0 _ rfl; (with_reducible repeat (first | refine blk_drewN ?_ _ | refine blk_drew ?_ | refine blk_alloc ?_ _)); exact BK1241.out) hb); have n7_ := Aside0.mk (below_step zb hb); clear HO1229; clear HO1233; clear HO1239; clear BK1234; clear BK1235; clear BK1241; clear HB; have HO1229 := n0_; have HO1233 := n1_; have HO1239 := n2_; have HO1245 := n3_; have BK1234 := n4_; have BK1235 := n5_; have BK1241 := n6_; have HB := n7_; clear n0_ n1_ n2_ n3_ n4_ n5_ n6_ n7_; (try clear hb); (try clear hb2); (try clear hk); (try clear hi); (try clear ho0)) | ((with_reducible refine gate_dst (N := 7) rfl ?_); refine box_event ?hg (N := 7) ?hd (cs := #[.bool false, .slice none 0 0]) (t := 27) ?hr ?_; (case hd => rfl); (case hg => rfl); (case hr => first | (go_simp; done) | (go_simp; rfl)); intro gb1247 hg w97 hbox hb; have n0_ := Aside0.mk (Kd.R_below (zR HO1229.out) hb); have n1_ := Aside0.mk (Kd.R_below (zR HO1233.out) hb); have n2_ := Aside0.mk (Kd.V_below (Kd.V_elderB (zV HO1239.out) gb1247 (Nat.le_of_eq hg.symm)) hb); have n3_ := Aside0.mk (Kd.R_below (zR HO1245.out) hb); have n4_ := Aside0.mk (blk_below (g := gb1234) (o := .cells #[.bool t1226, .slice Ao81 t1227.length co81] 27 (0, 0)) (zk BK1234.out) hb); have n5_ := Aside0.mk (blk_below (g := gb1235) (o := .cells #[.bool t1230, .slice Ao84 t1231.length co84] 27 (0, 0)) (zk BK1235.out) hb); have n6_ := Aside0.mk (blk_below (g := gb1241) (o := .cells #[.bool t1236, .slice Ao93 t1237.length co93] 27 (0, 0)) (zk BK1241.out) hb); have n7_ := Aside0.mk (below_step zb hb); have n8_ := Aside0.mk (hbox); have n9_ := Aside0.mk ((by rw [hg]; exact (below_size zb) : w.heap.size ≤ gb1247)); have n10_ := Aside0.mk ((by rw [hg]; exact (below_size zb) : w.heap.size ≤ gb1247)); have n11_ := Aside0.mk ((by rw [hg]; exact Nat.ne_of_lt (blk_lt (g := gb1234) (o := .cells #[.bool t1226, .slice Ao81 t1227.length co81] 27 (0, 0)) (zk BK1234.out)) : gb1234 ≠ gb1247)); have n12_ := Aside0.mk ((by rw [hg]; exact Nat.ne_of_gt (blk_lt (g := gb1234) (o := .cells #[.bool t1226, .slice Ao81 t1227.length co81] 27 (0, 0)) (zk BK1234.out)) : gb1247 ≠ gb1234)); have n13_ := Aside0.mk ((by rw [hg]; exact Nat.ne_of_lt (blk_lt (g := gb1235) (o := .cells #[.bool t1230, .slice Ao84 t1231.length co84] 27 (0, 0)) (zk BK1235.out)) : gb1235 ≠ gb1247)); have n14_ := Aside0.mk ((by rw [hg]; exact Nat.ne_of_gt (blk_lt (g := gb1235) (o := .cells #[.bool t1230, .slice Ao84 t1231.length co84] 27 (0, 0)) (zk BK1235.out)) : gb1247 ≠ gb1235)); have n15_ := Aside0.mk ((by rw [hg]; exact Nat.ne_of_lt (blk_lt (g := gb1241) (o := .cells #[.bool t1236, .slice Ao93 t1237.length co93] 27 (0, 0)) (zk BK1241.out)) : gb1241 ≠ gb1247)); have n16_ := Aside0.mk ((by rw [hg]; exact Nat.ne_of_gt (blk_lt (g := gb1241) (o := .cells #[.bool t1236, .slice Ao93 t1237.length co93] 27 (0, 0)) (zk BK1241.out)) : gb1247 ≠ gb1241)); clear HO1229; clear HO1233; clear HO1239; clear HO1245; clear BK1234; clear BK1235; clear BK1241; clear HB; have HO1229 := n0_; have HO1233 := n1_; have HO1239 := n2_; have HO1245 := n3_; have BK1234 := n4_; have BK1235 := n5_; have BK1241 := n6_; have HB := n7_; have BK1247 := n8_; have GW1247 := n9_; have GE1247 := n10_; have NB1234_1247 := n11_; have NB1247_1234 := n12_; have NB1235_1247 := n13_; have NB1247_1235 := n14_; have NB1241_1247 := n15_; have NB1247_1241 := n16_; clear n0_ n1_ n2_ n3_ n4_ n5_ n6_ n7_ n8_ n9_ n10_ n11_ n12_ n13_ n14_ n15_ n16_; clear hb hbox hg; have hnb98 := NB1247_1234.out; have hnc98 := NB1234_1247.out; have hnb99 := NB1247_1235.out; have hnc99 := NB1235_1247.out; have hnb100 := NB1247_1241.out; have hnc100 := NB1241_1247.out; have hcz101_0 : w97.cell? ⟨gb1247, 0, none⟩ = some (.bool false) := (blk_cell BK1247.out 0).trans rfl; have hcz101_1 : w97.cell? ⟨gb1247, 1, none⟩ = some (.slice none 0 0) := (blk_cell BK1247.out 1).trans rfl; have hfz101_0 := blk_frozen BK1247.out 0; have hfz101_1 := blk_frozen BK1247.out 1; obtain ⟨Ao102, co102, eo102⟩ := Kd.R_slice HO1245.out; subst eo102; have hcz103_0 : w97.cell? ⟨gb1241, 0, none⟩ = some (.bool t1236) := (blk_cell BK1241.out 0).trans rfl; have hcz103_1 : w97.cell? ⟨gb1241, 1, none⟩ = some (.slice Ao93 t1237.length co93) := (blk_cell BK1241.out 1).trans rfl; have hfz103_0 := blk_frozen BK1241.out 0; have hfz103_1 := blk_frozen BK1241.out 1) | (go_at_call 31; (with_reducible refine (laws_jtBig.calls k t1236 _ _ t1237 t1242 _ _ t1243 true _ ?side1 ?side2 ?side3 ?side4 A7.out).mono ?_); (case side1 => refine (Kd.V_reads' (e := 3) (base := w.heap.size) (ok := fun k_ => ((((k_ ≠ gb1234 ∧ k_ ≠ gb1235) ∧ k_ ≠ gb1241) ∧ some k_ ≠ (.slice Ao102 t1243.length co102 : Value).ownBlock) ∧ k_ ≠ gb1247)) (n := t1237.length) (c := co93) ?_).2.2; exact (by (with_reducible repeat (first | apply Kd.V_alloc | apply Kd.V_drewN | apply Kd.V_drew)); exact (Kd.V_mono (Kd.V_far (p := ⟨gb1247, 1, none⟩) (Kd.V_far (p := ⟨gb1247, 0, none⟩) (Kd.V_mono HO1239.out (fun k_ hk => (⟨hk, hk.2⟩ : _ ∧ k_ ≠ gb1247))) (fun _ hk => hk.2) (.bool t1242)) (fun _ hk => hk.2) (.slice Ao102 t1243.length co102)) (fun _ h_ => h_.1)))); (case side2 => exact (Kd.V_reads' HO1239.out).2.1); (case side3 => refine (Kd.R_reads' (e := 3) (base := w.heap.size) (ok := fun k_ => ((True ∧ some k_ ≠ (.slice Ao81 t1227.length co81 : Value).ownBlock) ∧ some k_ ≠ (.slice Ao84 t1231.length co84 : Value).ownBlock)) (n := t1243.length) (c := co102) ?_).2.2; exact (by (with_reducible repeat (first | apply Kd.R_alloc | apply Kd.R_drewN | apply Kd.R_drew)); exact (Kd.R_mono (Kd.R_far (p := ⟨gb1247, 1, none⟩) (Kd.R_far (p := ⟨gb1247, 0, none⟩) (Kd.R_types HO1245.out BK1247.out (by decide)) (fun _ hk => hk.2) (.bool t1242)) (fun _ hk => hk.2) (.slice Ao102 t1243.length co102)) (fun _ h_ => h_.1)))); (case side4 => exact (Kd.R_reads' HO1245.out).2.1); rintro e w104 ⟨rfl, hb⟩; have n0_ := Aside0.mk (Kd.R_below (by (with_reducible repeat (first | apply Kd.R_alloc | apply Kd.R_drewN | apply Kd.R_drew)); exact (Kd.R_mono (Kd.R_far (p := ⟨gb1247, 1, none⟩) (Kd.R_far (p := ⟨gb1247, 0, none⟩) (Kd.R_types HO1229.out BK1247.out (by decide)) (fun _ hk => hk.2) (.bool t1242)) (fun _ hk => hk.2) (.slice Ao102 t1243.length co102)) (fun _ h_ => h_.1))) hb); have n1_ := Aside0.mk (Kd.R_below (by (with_reducible repeat (first | apply Kd.R_alloc | apply Kd.R_drewN | apply Kd.R_drew)); exact (Kd.R_mono (Kd.R_far (p := ⟨gb1247, 1, none⟩) (Kd.R_far (p := ⟨gb1247, 0, none⟩) (Kd.R_types HO1233.out BK1247.out (by decide)) (fun _ hk => hk.2) (.bool t1242)) (fun _ hk => hk.2) (.slice Ao102 t1243.length co102)) (fun _ h_ => h_.1))) hb); have n2_ := Aside0.mk (Kd.V_below (by (with_reducible repeat (first | apply Kd.V_alloc | apply Kd.V_drewN | apply Kd.V_drew)); exact (Kd.V_mono (Kd.V_far (p := ⟨gb1247, 1, none⟩) (Kd.V_far (p := ⟨gb1247, 0, none⟩) (Kd.V_mono HO1239.out (fun k_ hk => (⟨hk, hk.2⟩ : _ ∧ k_ ≠ gb1247))) (fun _ hk => hk.2) (.bool t1242)) (fun _ hk => hk.2) (.slice Ao102 t1243.length co102)) (fun _ h_ => h_.1))) hb); have n3_ := Aside0.mk (Kd.R_below (by (with_reducible repeat (first | apply Kd.R_alloc | apply Kd.R_drewN | apply Kd.R_drew)); exact (Kd.R_mono (Kd.R_far (p := ⟨gb1247, 1, none⟩) (Kd.R_far (p := ⟨gb1247, 0, none⟩) (Kd.R_types HO1245.out BK1247.out (by decide)) (fun _ hk => hk.2) (.bool t1242)) (fun _ hk => hk.2) (.slice Ao102 t1243.length co102)) (fun _ h_ => h_.1))) hb); have n4_ := Aside0.mk (blk_below (g := gb1234) (o := .cells #[.bool t1226, .slice Ao81 t1227.length co81] 27 (0, 0)) (zk BK1234.out) hb); have n5_ := Aside0.mk (blk_below (g := gb1235) (o := .cells #[.bool t1230, .slice Ao84 t1231.length co84] 27 (0, 0)) (zk BK1235.out) hb); have n6_ := Aside0.mk (blk_below (g := gb1241) (o := .cells #[.bool t1236, .slice Ao93 t1237.length co93] 27 (0, 0)) (zk BK1241.out) hb); have n7_ := Aside0.mk (blk_below (g := gb1247) (o := .cells #[.bool t1242, .slice Ao102 t1243.length co102] 27 (0, 0)) (by (with_reducible repeat (first | refine blk_drewN ?_ _ | refine blk_drew ?_ | refine blk_alloc ?_ _)); refine blk_put (cs := #[.bool t1242, .slice none 0 0]) ?_ 1 _ rfl; (with_reducible repeat (first | refine blk_drewN ?_ _ | refine blk_drew ?_ | refine blk_alloc ?_ _)); refine blk_put (cs := #[.bool false, .slice none 0 0]) ?_ 0 _ rfl; (with_reducible repeat (first | refine blk_drewN ?_ _ | refine blk_drew ?_ | refine blk_alloc ?_ _)); exact BK1247.out) hb); have n8_ := Aside0.mk (below_step zb hb); clear HO1229; clear HO1233; clear HO1239; clear HO1245; clear BK1234; clear BK1235; clear BK1241; clear BK1247; clear HB; have HO1229 := n0_; have HO1233 := n1_; have HO1239 := n2_; have HO1245 := n3_; have BK1234 := n4_; have BK1235 := n5_; have BK1241 := n6_; have BK1247 := n7_; have HB := n8_; clear n0_ n1_ n2_ n3_ n4_ n5_ n6_ n7_ n8_; (try clear hb); (try clear hb2); (try clear hk); (try clear hi); have hcz105_0 : w104.cell? ⟨gb1241, 0, none⟩ = some (.bool t1236) := (blk_cell BK1241.out 0).trans rfl; have hcz105_1 : w104.cell? ⟨gb1241, 1, none⟩ = some (.slice Ao93 t1237.length co93) := (blk_cell BK1241.out 1).trans rfl; have hfz105_0 := blk_frozen BK1241.out 0; have hfz105_1 := blk_frozen BK1241.out 1; have hcz106_0 : w104.cell? ⟨gb1247, 0, none⟩ = some (.bool t1242) := (blk_cell BK1247.out 0).trans rfl; have hcz106_1 : w104.cell? ⟨gb1247, 1, none⟩ = some (.slice Ao102 t1243.length co102) := (blk_cell BK1247.out 1).trans rfl; have hfz106_0 := blk_frozen BK1247.out 0; have hfz106_1 := blk_frozen BK1247.out 1) | (go_at_call 31; (with_reducible refine (laws_jtBig.calls k t1236 _ _ t1237 t1242 _ _ t1243 t1249 _ ?side1 ?side2 ?side3 ?side4 A75.out).mono ?_); (case side1 => repeat (first | exact (Kd.V_reads' HO1239.out).2.2 | (with_reducible refine Kd.C_alloc ?_ _) | (with_reducible refine Kd.C_drewN ?_ _) | (with_reducible refine Kd.C_drew ?_))); (case side2 => exact (Kd.V_reads' HO1239.out).2.1); (case side3 => repeat (first | exact (Kd.R_reads' HO1245.out).2.2 | (with_reducible refine Kd.C_alloc ?_ _) | (with_reducible refine Kd.C_drewN ?_ _) | (with_reducible refine Kd.C_drew ?_))); (case side4 => exact (Kd.R_reads' HO1245.out).2.1); rintro e w107 ⟨rfl, hb⟩; have n0_ := Aside0.mk (Kd.R_below (zR HO1229.out) hb); have n1_ := Aside0.mk (Kd.R_below (zR HO1233.out) hb); have n2_ := Aside0.mk (Kd.V_below (zV HO1239.out) hb); have n3_ := Aside0.mk (Kd.R_below (zR HO1245.out) hb); have n4_ := Aside0.mk (blk_below (g := gb1234) (o := .cells #[.bool t1226, .slice Ao81 t1227.length co81] 27 (0, 0)) (zk BK1234.out) hb); have n5_ := Aside0.mk (blk_below (g := gb1235) (o := .cells #[.bool t1230, .slice Ao84 t1231.length co84] 27 (0, 0)) (zk BK1235.out) hb); have n6_ := Aside0.mk (blk_below (g := gb1241) (o := .cells #[.bool t1236, .slice Ao93 t1237.length co93] 27 (0, 0)) (zk BK1241.out) hb); have n7_ := Aside0.mk (blk_below (g := gb1247) (o := .cells #[.bool t1242, .slice Ao102 t1243.length co102] 27 (0, 0)) (zk BK1247.out) hb); have n8_ := Aside0.mk (below_step zb hb); clear HO1229; clear HO1233; clear HO1239; clear HO1245; clear BK1234; clear BK1235; clear BK1241; clear BK1247; clear HB; have HO1229 := n0_; have HO1233 := n1_; have HO1239 := n2_; have HO1245 := n3_; have BK1234 := n4_; have BK1235 := n5_; have BK1241 := n6_; have BK1247 := n7_; have HB := n8_; clear n0_ n1_ n2_ n3_ n4_ n5_ n6_ n7_ n8_; (try clear hb); (try clear hb2); (try clear hk); (try clear hi)))
            go_ret
            exact ⟨by first | rfl | (simp [errW_none, errW_some] <;> rfl) | (simp [*, errW_none, errW_some] <;> rfl), zb⟩
          · rw [if_neg c74] at H
            exact absurd H (by simp)
      · replace c8 := Bool.eq_false_iff.mpr c8
        subst c8
        have H1 : (none) = some r := by rw [if_neg (show ¬ (false = true) by decide)] at H; exact H
        clear H
        have H := H1
        clear H1
        exact absurd H (by simp)
def laws_FnBigAdd.Pure : Prop := ∀ (l0 : List Int), l0.length ≤ maxLen → l0.length * 1 ≤ 140737488351232 → (∀ x ∈ l0, (Lit.int .u8 x).wf = true) → ∃ k, laws_FnBigAdd.f k l0 = some true
theorem laws_FnBigAdd.walk (P : laws_FnBigAdd.Pure) (a0 : Option Addr) (len0 cap0 : Nat) (z0 : List Int) (w : World) (w0 : (a0 = none ∧ len0 = 0 ∧ cap0 = 0 ∧ z0 = []) ∨ ∃ x, a0 = some x ∧ len0 ≤ cap0 ∧ cap0 ≤ maxLen ∧ z0.length = cap0 ∧ (∀ i, i < z0.length → w.cell? (x.add i) = some (.int .u8 (z0.getD i 0))) ∧ ∀ n ∈ z0, (Lit.int .u8 n).wf = true) (y0 : len0 * 1 ≤ 140737488351232) :
    Calls Try.prog 16 #[.slice a0 len0 cap0] w fun e w' => e = .returned (.bool true) ∧ Below w.heap.size w w' := by
  obtain ⟨l0, rfl, hr0, hm0, hw0, hc0⟩ := ReadsInt.ofRowC w0
  obtain ⟨k, h⟩ := P l0 hm0 y0 hw0
  refine (laws_FnBigAdd.calls k _ _ l0 true w (Kd.C_of_reads (d := (0 : Int)) (h1 := fun _ => rfl) hr0) hc0 h).mono ?_
  rintro e w' ⟨rfl, hd⟩
  exact ⟨rfl, hd⟩
end Go.Proofs.Ytdemeoncjcbojaa.Pr
end
section
namespace Go.Proofs.Ytdemeoncjcbojaa.Jt
def pw (n : Nat) : Int := 10000 ^ n
theorem pw_zero : pw 0 = 1 := rfl
theorem pw_succ (n : Nat) : pw (n + 1) = 10000 * pw n := by unfold pw; rw [Int.pow_succ]; omega
theorem pw_pos (n : Nat) : 1 ≤ pw n := by
  induction n with
  | zero => decide
  | succ n ih => rw [pw_succ]; omega
theorem pw_mono {m n : Nat} (h : m ≤ n) : pw m ≤ pw n := by
  obtain ⟨d, rfl⟩ := Nat.exists_eq_add_of_le h
  induction d with
  | zero => exact Int.le_refl _
  | succ d ih =>
    have h1 := ih (by omega)
    have h2 := pw_pos (m + d)
    rw [show m + (d + 1) = (m + d) + 1 from rfl, pw_succ]
    omega
def val : List Int → Int
  | [] => 0
  | x :: xs => x + 10000 * val xs
def Dig (l : List Int) : Prop := ∀ x ∈ l, 0 ≤ x ∧ x ≤ 9999
def Nz (l : List Int) : Prop := l.length = 0 ∨ l.getD (l.length - 1) 0 ≠ 0
theorem getD_lt {l : List Int} {i : Nat} (h : i < l.length) : l.getD i 0 = l[i] := by rw [List.getD_eq_getElem?_getD, List.getElem?_eq_getElem h]; rfl
theorem getD_ge {l : List Int} {i : Nat} (h : l.length ≤ i) : l.getD i 0 = 0 := by rw [List.getD_eq_getElem?_getD, List.getElem?_eq_none h]; rfl
theorem val_nil : val [] = 0 := rfl
theorem val_append (a b : List Int) : val (a ++ b) = val a + pw a.length * val b := by
  induction a with
  | nil => simp [val, pw_zero]
  | cons x xs ih => simp only [List.cons_append, val, ih, List.length_cons, pw_succ]; rw [Int.mul_add, Int.mul_assoc]; omega
theorem Dig.nil : Dig [] := fun x h => by cases h
theorem Dig.cons {x : Int} {xs : List Int} (h0 : 0 ≤ x) (h1 : x ≤ 9999) (h : Dig xs) : Dig (x :: xs) := by
  intro y hy
  rcases List.mem_cons.1 hy with rfl | hy
  · exact ⟨h0, h1⟩
  · exact h y hy
theorem Dig.head {x : Int} {xs : List Int} (h : Dig (x :: xs)) : 0 ≤ x ∧ x ≤ 9999 := h x (by simp)
theorem Dig.tail {x : Int} {xs : List Int} (h : Dig (x :: xs)) : Dig xs := fun y hy => h y (by simp [hy])
theorem Dig.take {l : List Int} (h : Dig l) (n : Nat) : Dig (l.take n) := fun x hx => h x (List.mem_of_mem_take hx)
theorem Dig.append {a b : List Int} (ha : Dig a) (hb : Dig b) : Dig (a ++ b) := by
  intro x hx
  rcases List.mem_append.1 hx with h | h
  · exact ha x h
  · exact hb x h
theorem Dig.getD {l : List Int} (h : Dig l) (i : Nat) : 0 ≤ l.getD i 0 ∧ l.getD i 0 ≤ 9999 := by
  by_cases hi : i < l.length
  · rw [getD_lt hi]; exact h _ (List.getElem_mem hi)
  · rw [getD_ge (by omega)]; omega
theorem dig_of_getD {l : List Int} (h : ∀ i, i < l.length → 0 ≤ l.getD i 0 ∧ l.getD i 0 ≤ 9999) : Dig l := by
  intro x hx
  obtain ⟨i, hi, rfl⟩ := List.getElem_of_mem hx
  have := h i hi
  rwa [getD_lt hi] at this
theorem val_nonneg {l : List Int} (h : Dig l) : 0 ≤ val l := by
  induction l with
  | nil => exact Int.le_refl _
  | cons x xs ih =>
    have h1 := ih h.tail
    have h2 := h.head
    simp only [val]; omega
theorem val_lt {l : List Int} (h : Dig l) : val l < pw l.length := by
  induction l with
  | nil => decide
  | cons x xs ih =>
    have h1 := ih h.tail
    have h2 := h.head
    simp only [val, List.length_cons, pw_succ]; omega
theorem val_set (l : List Int) : ∀ (i : Nat) (v : Int), i < l.length → val (l.set i v) = val l + pw i * (v - l.getD i 0) := by
  induction l with
  | nil => intro i v h; simp at h
  | cons x xs ih =>
    intro i v h
    cases i with
    | zero => simp only [List.set_cons_zero, val, List.getD_cons_zero, pw_zero]; omega
    | succ i =>
      simp only [List.set_cons_succ, val, List.getD_cons_succ, pw_succ]
      rw [ih i v (by simpa using h), Int.mul_add, Int.mul_assoc]
      omega
theorem getD_set (l : List Int) (i j : Nat) (v : Int) (h : i < l.length) : (l.set i v).getD j 0 = if j = i then v else l.getD j 0 := by
  by_cases hj : j = i
  · subst hj
    rw [if_pos rfl, List.getD_eq_getElem?_getD, List.getElem?_set_self h]; rfl
  · rw [if_neg hj, List.getD_eq_getElem?_getD, List.getElem?_set_ne (Ne.symm hj), List.getD_eq_getElem?_getD]
theorem val_split (l : List Int) {n : Nat} (h : n ≤ l.length) : val l = val (l.take n) + pw n * val (l.drop n) := by
  have := val_append (l.take n) (l.drop n)
  rw [List.take_append_drop, List.length_take, Nat.min_eq_left h] at this
  exact this
theorem drop_cons {l : List Int} {n : Nat} (h : n < l.length) : l.drop n = l.getD n 0 :: l.drop (n + 1) := by
  rw [List.drop_eq_getElem_cons h, getD_lt h]
theorem val_zeros {l : List Int} (h : ∀ i, i < l.length → l.getD i 0 = 0) : val l = 0 := by
  induction l with
  | nil => rfl
  | cons x xs ih =>
    have h0 := h 0 (by simp)
    have h1 := ih (fun i hi => by have := h (i + 1) (by simpa using hi); simpa using this)
    simp at h0
    simp only [val, h0, h1]; decide
theorem val_replicate (n : Nat) : val (List.replicate n 0) = 0 := val_zeros fun i hi => by
  rw [List.length_replicate] at hi
  rw [getD_lt (by simpa using hi), List.getElem_replicate]
theorem val_ge {l : List Int} (h : Dig l) (hz : Nz l) (hne : 0 < l.length) : pw (l.length - 1) ≤ val l := by
  have hs := val_split l (n := l.length - 1) (by omega)
  rw [drop_cons (by omega), show l.length - 1 + 1 = l.length from by omega, List.drop_length] at hs
  have h1 := val_nonneg (h.take (l.length - 1))
  have h2 := h.getD (l.length - 1)
  have h3 : l.getD (l.length - 1) 0 ≠ 0 := hz.resolve_left (by omega)
  have hp := pw_pos (l.length - 1)
  simp only [val] at hs
  have h4 : pw (l.length - 1) * 1 ≤ pw (l.length - 1) * (l.getD (l.length - 1) 0 + 10000 * 0) := Int.mul_le_mul_of_nonneg_left (by omega) (by omega)
  omega
theorem uniq {a : List Int} : ∀ {b : List Int}, Dig a → Dig b → Nz a → Nz b → val a = val b → a = b := by
  induction a with
  | nil =>
    intro b _ hb _ zb e
    cases b with
    | nil => rfl
    | cons y ys =>
      have := val_ge hb zb (by simp)
      have := pw_pos ((y :: ys).length - 1)
      rw [val_nil] at e
      omega
  | cons x xs ih =>
    intro b ha hb za zb e
    cases b with
    | nil =>
      have := val_ge ha za (by simp)
      have := pw_pos ((x :: xs).length - 1)
      rw [val_nil] at e
      omega
    | cons y ys =>
      have hx := ha.head
      have hy := hb.head
      simp only [val] at e
      have e1 : x = y := by omega
      have e2 : val xs = val ys := by omega
      have zt : ∀ {z : Int} {zs : List Int}, Nz (z :: zs) → Nz zs := by
        intro z zs h
        cases zs with
        | nil => left; rfl
        | cons u us =>
          right
          have h' := h.resolve_left (by simp)
          simpa using h'
      rw [e1, ih ha.tail hb.tail (zt za) (zt zb) e2]
def repN (n : Nat) : List Int := if h : n = 0 then [] else ((n % 10000 : Nat) : Int) :: repN (n / 10000)
termination_by n
decreasing_by omega
def rep (v : Int) : List Int := repN v.toNat
theorem repN_zero : repN 0 = [] := by rw [repN]; simp
theorem repN_pos {n : Nat} (h : n ≠ 0) : repN n = ((n % 10000 : Nat) : Int) :: repN (n / 10000) := by rw [repN]; simp [h]
theorem repN_ok (n : Nat) : Dig (repN n) ∧ val (repN n) = n ∧ Nz (repN n) := by
  induction n using Nat.strongRecOn with
  | ind n ih =>
    by_cases h : n = 0
    · subst h; rw [repN_zero]; exact ⟨Dig.nil, rfl, .inl rfl⟩
    · obtain ⟨h1, h2, h3⟩ := ih (n / 10000) (by omega)
      rw [repN_pos h]
      refine ⟨Dig.cons (by omega) (by omega) h1, by simp only [val, h2]; omega, .inr ?_⟩
      by_cases hq : n / 10000 = 0
      · rw [hq, repN_zero]; simp; omega
      · have hne : (repN (n / 10000)).length ≠ 0 := by rw [repN_pos hq]; simp
        have := h3.resolve_left hne
        rw [List.length_cons, show (repN (n / 10000)).length + 1 - 1 = ((repN (n / 10000)).length - 1) + 1 from by omega, List.getD_cons_succ]
        exact this
theorem rep_dig (v : Int) : Dig (rep v) := (repN_ok _).1
theorem rep_nz (v : Int) : Nz (rep v) := (repN_ok _).2.2
theorem rep_val {v : Int} (h : 0 ≤ v) : val (rep v) = v := by unfold rep; rw [(repN_ok _).2.1]; omega
theorem rep_of {l : List Int} (hd : Dig l) (hz : Nz l) : rep (val l) = l := uniq (rep_dig _) hd (rep_nz _) hz (rep_val (val_nonneg hd))
theorem is_rep {l : List Int} {v : Int} (hd : Dig l) (hz : Nz l) (hv : val l = v) : l = rep v := by rw [← hv, rep_of hd hz]
theorem rep_zero : rep 0 = [] := repN_zero
theorem rep_nil {v : Int} (h : 0 ≤ v) : rep v = [] ↔ v = 0 := by
  constructor
  · intro e
    have := rep_val h
    rw [e] at this
    exact this.symm
  · rintro rfl; exact rep_zero
theorem rep_len {v : Int} (h : 0 ≤ v) (n : Nat) : (rep v).length ≤ n ↔ v < pw n := by
  have hv := rep_val h
  have hl := val_lt (rep_dig v)
  constructor
  · intro hle
    have := pw_mono hle
    omega
  · intro hlt
    apply Nat.le_of_not_lt
    intro hgt
    have hg := val_ge (rep_dig v) (rep_nz v) (by omega)
    have := pw_mono (show n ≤ (rep v).length - 1 by omega)
    omega
def TrimOf (l r : List Int) : Prop := ∃ n, n ≤ l.length ∧ r = l.take n ∧ (∀ j, n ≤ j → j < l.length → l.getD j 0 = 0) ∧ (0 < n → l.getD (n - 1) 0 ≠ 0)
theorem TrimOf.dig {l r : List Int} (h : TrimOf l r) (hd : Dig l) : Dig r := by obtain ⟨n, _, rfl, _, _⟩ := h; exact hd.take n
theorem TrimOf.val {l r : List Int} (h : TrimOf l r) : Jt.val r = Jt.val l := by
  obtain ⟨n, hn, rfl, hz, _⟩ := h
  have hs := val_split l hn
  have : Jt.val (l.drop n) = 0 := val_zeros fun i hi => by
    rw [List.length_drop] at hi
    have := hz (n + i) (by omega) (by omega)
    rw [List.getD_eq_getElem?_getD] at this ⊢
    rw [List.getElem?_drop]; exact this
  rw [this] at hs
  omega
theorem getD_take (l : List Int) {i n : Nat} (h : i < n) : (l.take n).getD i 0 = l.getD i 0 := by
  rw [List.getD_eq_getElem?_getD, List.getD_eq_getElem?_getD, List.getElem?_take_of_lt h]
theorem TrimOf.nz {l r : List Int} (h : TrimOf l r) : Nz r := by
  obtain ⟨n, hn, rfl, _, hlast⟩ := h
  by_cases h0 : n = 0
  · left; simp [h0]
  · right
    rw [List.length_take, Nat.min_eq_left hn, getD_take l (by omega)]
    exact hlast (by omega)
theorem TrimOf.rep {l r : List Int} (h : TrimOf l r) (hd : Dig l) {v : Int} (hv : Jt.val l = v) : r = Jt.rep v := is_rep (h.dig hd) h.nz (h.val.trans hv)
theorem TrimOf.len {l r : List Int} (h : TrimOf l r) : r.length ≤ l.length := by obtain ⟨n, hn, rfl, _, _⟩ := h; rw [List.length_take]; omega
theorem val_lt_of_len {a b : List Int} (ha : Dig a) (hb : Dig b) (zb : Nz b) (h : a.length < b.length) : val a < val b := by
  have h1 := val_lt ha
  have h2 := val_ge hb zb (by omega)
  have := pw_mono (show a.length ≤ b.length - 1 by omega)
  omega
theorem val_lt_at {a b : List Int} (ha : Dig a) (hb : Dig b) {i : Nat} (h1 : i < a.length) (h2 : i < b.length) (hd : a.drop (i + 1) = b.drop (i + 1)) (hlt : a.getD i 0 < b.getD i 0) : val a < val b := by
  have ea := val_split a (n := i) (by omega)
  have eb := val_split b (n := i) (by omega)
  rw [drop_cons h1] at ea
  rw [drop_cons h2, ← hd] at eb
  simp only [val] at ea eb
  have la := val_lt (ha.take i)
  have nb := val_nonneg (hb.take i)
  rw [List.length_take, Nat.min_eq_left (by omega)] at la
  have hp := pw_pos i
  have hm : pw i * (a.getD i 0 + 1) ≤ pw i * b.getD i 0 := Int.mul_le_mul_of_nonneg_left (by omega) (by omega)
  rw [Int.mul_add] at ea eb hm
  omega
def bigv (neg : Bool) (l : List Int) : Int := if neg = true then -val l else val l
def BOk (neg : Bool) (l : List Int) : Prop := l.length ≤ 16 ∧ Dig l ∧ Nz l ∧ (neg = true → l.length ≠ 0)
def mkN (x : Int) : Bool := decide (x < 0)
def mkL (x : Int) : List Int := rep (if x < 0 then -x else x)
theorem nz_pos {l : List Int} (hd : Dig l) (hz : Nz l) (h : l.length ≠ 0) : 0 < val l := by
  have := val_ge hd hz (by omega)
  have := pw_pos (l.length - 1)
  omega
theorem mk_of {neg : Bool} {l : List Int} (h : BOk neg l) : mkN (bigv neg l) = neg ∧ mkL (bigv neg l) = l := by
  obtain ⟨_, hd, hz, hn⟩ := h
  have h0 := val_nonneg hd
  unfold mkN mkL bigv
  cases neg with
  | true =>
    have := nz_pos hd hz (hn rfl)
    simp only [if_true]
    rw [if_pos (show -val l < 0 by omega), Int.neg_neg, rep_of hd hz]
    exact ⟨decide_eq_true (by omega), rfl⟩
  | false =>
    simp only [Bool.false_eq_true, if_false]
    rw [if_neg (show ¬ val l < 0 by omega), rep_of hd hz]
    exact ⟨decide_eq_false (by omega), rfl⟩
theorem mk_ok {x : Int} (h1 : -pw 16 < x) (h2 : x < pw 16) : BOk (mkN x) (mkL x) := by
  have h0 : 0 ≤ (if x < 0 then -x else x) := by split <;> omega
  refine ⟨(rep_len h0 16).2 (by split <;> omega), rep_dig _, rep_nz _, ?_⟩
  intro hn hl
  have := of_decide_eq_true hn
  have e := rep_val h0
  unfold mkL at hl
  rw [List.length_eq_zero_iff.1 hl, val_nil] at e
  split at e <;> omega
theorem mk_v (x : Int) : bigv (mkN x) (mkL x) = x := by
  have h0 : 0 ≤ (if x < 0 then -x else x) := by split <;> omega
  have e := rep_val h0
  unfold bigv mkN mkL
  rw [e]
  by_cases h : x < 0
  · rw [if_pos h, decide_eq_true h]; simp
  · rw [if_neg h, decide_eq_false h]; simp
theorem bigv_bd {neg : Bool} {l : List Int} (h : BOk neg l) : -pw 16 < bigv neg l ∧ bigv neg l < pw 16 := by
  obtain ⟨hl, hd, hz, hn⟩ := h
  have h0 := val_nonneg hd
  have h1 := val_lt hd
  have h2 := pw_mono hl
  unfold bigv
  split <;> omega
end Go.Proofs.Ytdemeoncjcbojaa.Jt
end
