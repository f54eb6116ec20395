/- What the claim's row needs of the contracts and words below it, and no more. -/
import Derived.Test.YtdemeoncjcbojaaQParts3
section
namespace Go.Proofs.Ytdemeoncjcbojaa.Pr
open Go.RowKit Go.Proofs.YtdemeoncjcbojaaW.PrintWords Go.Proofs.YtdemeoncjcbojaaW.PrintLast Go.Proofs.Ytdemeoncjcbojaa.Ext Go.Proofs.YtdemeoncjcbojaaW.PrintMore
attribute [local go_sem] max2_int min2_int max_two min_two max_three min_three max_four min_four
set_option linter.unusedVariables false
set_option linter.unusedSimpArgs false
mutual
def laws_FnBigParts.j0 : Nat → List Int → List Int → Bool → Option (Bool)
  | 0, _, _, _ => none
  | k + 1, x0, x1, x28 => if x28 = true then (some true) else ((spec_DrawBigMul.f k x0).bind fun bt813 => ((spec_DrawBigMul.f k x1).bind fun bt823 => ((impl_BigMul.f k bt813.1 bt813.2.1 bt813.2.2.1 bt813.2.2.2).bind fun bt833 => ((spec_BigMul.f k bt813.1 bt813.2.1 bt813.2.2.1 bt813.2.2.2).bind fun bt839 => ((impl_BigMul.f k bt813.1 bt813.2.1 bt823.1 bt823.2.1).bind fun bt845 => ((impl_BigAdd.f k bt813.2.2.1 bt813.2.2.2 bt823.1 bt823.2.1).bind fun bt851 => (if (bt833.2.2 != bt839.2.2) = true then (none) else ((laws_jtBig.f k bt833.1 bt833.2.1 bt839.1 bt839.2.1).bind fun t857 => (if t857 = true then (if bt833.2.2 = true then (if bt845.2.2 = true then (laws_FnBigParts.j1 k bt833.2.2 bt839.2.2 (!bt851.2.2) bt813.1 bt813.2.1 bt833.1 bt833.2.1 bt839.1 bt839.2.1 bt845.1 bt845.2.1 bt851.1 bt851.2.1) else (laws_FnBigParts.j1 k bt833.2.2 bt839.2.2 true bt813.1 bt813.2.1 bt833.1 bt833.2.1 bt839.1 bt839.2.1 bt845.1 bt845.2.1 bt851.1 bt851.2.1)) else (laws_FnBigParts.j1 k bt833.2.2 bt839.2.2 true bt813.1 bt813.2.1 bt833.1 bt833.2.1 bt839.1 bt839.2.1 bt845.1 bt845.2.1 bt851.1 bt851.2.1)) else (laws_FnBigParts.j1 k bt833.2.2 bt839.2.2 true bt813.1 bt813.2.1 bt833.1 bt833.2.1 bt839.1 bt839.2.1 bt845.1 bt845.2.1 bt851.1 bt851.2.1))))))))))
def laws_FnBigParts.j1 : Nat → Bool → Bool → Bool → Bool → List Int → Bool → List Int → Bool → List Int → Bool → List Int → Bool → List Int → Option (Bool)
  | 0, _, _, _, _, _, _, _, _, _, _, _, _, _ => none
  | k + 1, x10, x12, x83, x822000, x822001, x839000, x839001, x845000, x845001, x851000, x851001, x857000, x857001 => if x83 = true then (if (x10 == x12) = true then ((laws_jtBig.f k x839000 x839001 x845000 x845001).bind fun t858 => (some t858)) else (none)) else ((impl_BigMul.f k x822000 x822001 x857000 x857001).bind fun bt859 => ((impl_BigAdd.f k x839000 x839001 x851000 x851001).bind fun bt865 => (if (bt859.2.2 == bt865.2.2) = true then ((laws_jtBig.f k bt859.1 bt859.2.1 bt865.1 bt865.2.1).bind fun t871 => (some t871)) else (none))))
end
def laws_FnBigParts.f (k : Nat) (l0 : List Int) (l1 : List Int) : Option (Bool) := if (l0.length : Int) > 1048576 then (laws_FnBigParts.j0 k l0 l1 true) else (laws_FnBigParts.j0 k l0 l1 (decide ((l1.length : Int) > 1048576)))
set_option maxHeartbeats 8000000 in
set_option maxRecDepth 100000 in
theorem laws_FnBigParts.calls (k : Nat) (A0 : Option Addr) (c0 : Nat) (l0 : List Int) (A1 : Option Addr) (c1 : Nat) (l1 : List Int) (r : Bool) (w : World) (hr0 : Kd.C (Kd.int .u8) w A0 l0.length l0) (hc0 : l0.length ≤ c0) (hr1 : Kd.C (Kd.int .u8) w A1 l1.length l1) (hc1 : l1.length ≤ c1) (h : laws_FnBigParts.f k l0 l1 = some r) :
    Calls Try.prog 10 #[.slice A0 l0.length c0, .slice A1 l1.length c1] w fun e w' => e = .returned (.bool r) ∧ Below w.heap.size w w' := by
  have hu27 := Try.underlying27
  have HR0 := Aside0.mk hr0
  have HC0 := Aside0.mk hc0
  clear hr0 hc0
  have HR1 := Aside0.mk hr1
  have HC1 := Aside0.mk hc1
  clear hr1 hc1
  have HB := Aside0.mk (Below.refl w.heap.size w)
  have H : (if (l0.length : Int) > 1048576 then (laws_FnBigParts.j0 k l0 l1 true) else (laws_FnBigParts.j0 k l0 l1 (decide ((l1.length : Int) > 1048576)))) = some r := h
  clear h
  have HC3 := Aside0.mk H
  clear H
  go_enter Try.func10, Try.ntmps10
  go_upto_region 1 with (fail)
  go_cut [28] (fun v28 wc => ∃ (kq : Nat) (x28_2 : Bool), v28 = .bool x28_2 ∧ Aside0 (laws_FnBigParts.j0 kq l0 l1 x28_2 = some r) ∧ Aside0 (kq ≤ k) ∧ Aside0 (Below w.heap.size w wc))
  case first =>
    have H := HC3.out
    clear HC3
    by_cases c4 : (l0.length : Int) > 1048576
    · rw [if_pos c4] at H
      have c4b0 : decide (1048576 < (l0.length : Int)) = true := decide_eq_true c4
      have c4b1 : decide (1048576 < l0.length) = true := decide_eq_true (by omega)
      clear c4
      (first | rw [c4b0] | (simp only [i64_w, i32_w]; rw [c4b0]) | skip)
      have H' := Aside0.mk H
      clear H
      go_wp2
      go_meet
      case rel => exact ⟨_, (true), (by first | rfl | (simp; done) | (simp [*]; done)), H', ⟨by first | omega | exact Nat.le_refl _⟩, ⟨zb⟩⟩
    · rw [if_neg c4] at H
      have c4b0 : decide (1048576 < (l0.length : Int)) = false := decide_eq_false c4
      have c4b1 : decide (1048576 < l0.length) = false := decide_eq_false (by omega)
      clear c4
      (first | rw [c4b0] | (simp only [i64_w, i32_w]; rw [c4b0]) | skip)
      have H' := Aside0.mk H
      clear H
      go_wp2
      go_meet
      case rel => exact ⟨_, (decide ((l1.length : Int) > 1048576)), (by first | rfl | (simp; done) | (simp [*]; done)), H', ⟨by first | omega | exact Nat.le_refl _⟩, ⟨zb⟩⟩
  case rest =>
    clear HC3
    try clear c1
    try clear p2
    try clear c4
    try clear c4b0
    try clear c4b1
    obtain ⟨kq, x28_2, rfl, HA, HJ2, HB⟩ := hcut
    cases kq with
    | zero => exact absurd HA.out (by simp [laws_FnBigParts.j0])
    | succ kj2 =>
      have H := HA.out
      clear HA
      simp only [laws_FnBigParts.j0] at H
      by_cases c5 : x28_2 = true
      · subst c5
        have H1 : (some true) = some r := by rw [if_pos rfl] at H; exact H
        clear H
        have H := H1
        clear H1
        obtain rfl := Option.some.inj H
        go_wp2
        go_ret
        exact ⟨by first | rfl | (simp [errW_none, errW_some] <;> rfl) | (simp [*, errW_none, errW_some] <;> rfl), zb⟩
      · replace c5 := Bool.eq_false_iff.mpr c5
        subst c5
        have H1 : ((spec_DrawBigMul.f kj2 l0).bind fun bt813 => ((spec_DrawBigMul.f kj2 l1).bind fun bt823 => ((impl_BigMul.f kj2 bt813.1 bt813.2.1 bt813.2.2.1 bt813.2.2.2).bind fun bt833 => ((spec_BigMul.f kj2 bt813.1 bt813.2.1 bt813.2.2.1 bt813.2.2.2).bind fun bt839 => ((impl_BigMul.f kj2 bt813.1 bt813.2.1 bt823.1 bt823.2.1).bind fun bt845 => ((impl_BigAdd.f kj2 bt813.2.2.1 bt813.2.2.2 bt823.1 bt823.2.1).bind fun bt851 => (if (bt833.2.2 != bt839.2.2) = true then (none) else ((laws_jtBig.f kj2 bt833.1 bt833.2.1 bt839.1 bt839.2.1).bind fun t857 => (if t857 = true then (if bt833.2.2 = true then (if bt845.2.2 = true then (laws_FnBigParts.j1 kj2 bt833.2.2 bt839.2.2 (!bt851.2.2) bt813.1 bt813.2.1 bt833.1 bt833.2.1 bt839.1 bt839.2.1 bt845.1 bt845.2.1 bt851.1 bt851.2.1) else (laws_FnBigParts.j1 kj2 bt833.2.2 bt839.2.2 true bt813.1 bt813.2.1 bt833.1 bt833.2.1 bt839.1 bt839.2.1 bt845.1 bt845.2.1 bt851.1 bt851.2.1)) else (laws_FnBigParts.j1 kj2 bt833.2.2 bt839.2.2 true bt813.1 bt813.2.1 bt833.1 bt833.2.1 bt839.1 bt839.2.1 bt845.1 bt845.2.1 bt851.1 bt851.2.1)) else (laws_FnBigParts.j1 kj2 bt833.2.2 bt839.2.2 true bt813.1 bt813.2.1 bt833.1 bt833.2.1 bt839.1 bt839.2.1 bt845.1 bt845.2.1 bt851.1 bt851.2.1)))))))))) = some r := by rw [if_neg (show ¬ (false = true) by decide)] at H; exact H
        clear H
        have H := H1
        clear H1
        replace H := Option.bind_eq_some_iff.mp H
        obtain ⟨⟨t813, t814, t817, t818⟩, A60, H⟩ := H
        replace H : ((spec_DrawBigMul.f kj2 l1).bind fun bt823 => ((impl_BigMul.f kj2 t813 t814 t817 t818).bind fun bt833 => ((spec_BigMul.f kj2 t813 t814 t817 t818).bind fun bt839 => ((impl_BigMul.f kj2 t813 t814 bt823.1 bt823.2.1).bind fun bt845 => ((impl_BigAdd.f kj2 t817 t818 bt823.1 bt823.2.1).bind fun bt851 => (if (bt833.2.2 != bt839.2.2) = true then (none) else ((laws_jtBig.f kj2 bt833.1 bt833.2.1 bt839.1 bt839.2.1).bind fun t857 => (if t857 = true then (if bt833.2.2 = true then (if bt845.2.2 = true then (laws_FnBigParts.j1 kj2 bt833.2.2 bt839.2.2 (!bt851.2.2) t813 t814 bt833.1 bt833.2.1 bt839.1 bt839.2.1 bt845.1 bt845.2.1 bt851.1 bt851.2.1) else (laws_FnBigParts.j1 kj2 bt833.2.2 bt839.2.2 true t813 t814 bt833.1 bt833.2.1 bt839.1 bt839.2.1 bt845.1 bt845.2.1 bt851.1 bt851.2.1)) else (laws_FnBigParts.j1 kj2 bt833.2.2 bt839.2.2 true t813 t814 bt833.1 bt833.2.1 bt839.1 bt839.2.1 bt845.1 bt845.2.1 bt851.1 bt851.2.1)) else (laws_FnBigParts.j1 kj2 bt833.2.2 bt839.2.2 true t813 t814 bt833.1 bt833.2.1 bt839.1 bt839.2.1 bt845.1 bt845.2.1 bt851.1 bt851.2.1))))))))) = some r := H
        have A6 := Aside0.mk A60
        clear A60
        replace H := Option.bind_eq_some_iff.mp H
        obtain ⟨⟨t823, t824, t827, t828⟩, A70, H⟩ := H
        replace H : ((impl_BigMul.f kj2 t813 t814 t817 t818).bind fun bt833 => ((spec_BigMul.f kj2 t813 t814 t817 t818).bind fun bt839 => ((impl_BigMul.f kj2 t813 t814 t823 t824).bind fun bt845 => ((impl_BigAdd.f kj2 t817 t818 t823 t824).bind fun bt851 => (if (bt833.2.2 != bt839.2.2) = true then (none) else ((laws_jtBig.f kj2 bt833.1 bt833.2.1 bt839.1 bt839.2.1).bind fun t857 => (if t857 = true then (if bt833.2.2 = true then (if bt845.2.2 = true then (laws_FnBigParts.j1 kj2 bt833.2.2 bt839.2.2 (!bt851.2.2) t813 t814 bt833.1 bt833.2.1 bt839.1 bt839.2.1 bt845.1 bt845.2.1 bt851.1 bt851.2.1) else (laws_FnBigParts.j1 kj2 bt833.2.2 bt839.2.2 true t813 t814 bt833.1 bt833.2.1 bt839.1 bt839.2.1 bt845.1 bt845.2.1 bt851.1 bt851.2.1)) else (laws_FnBigParts.j1 kj2 bt833.2.2 bt839.2.2 true t813 t814 bt833.1 bt833.2.1 bt839.1 bt839.2.1 bt845.1 bt845.2.1 bt851.1 bt851.2.1)) else (laws_FnBigParts.j1 kj2 bt833.2.2 bt839.2.2 true t813 t814 bt833.1 bt833.2.1 bt839.1 bt839.2.1 bt845.1 bt845.2.1 bt851.1 bt851.2.1)))))))) = some r := H
        have A7 := Aside0.mk A70
        clear A70
        replace H := Option.bind_eq_some_iff.mp H
        obtain ⟨⟨t833, t834, t837⟩, A80, H⟩ := H
        replace H : ((spec_BigMul.f kj2 t813 t814 t817 t818).bind fun bt839 => ((impl_BigMul.f kj2 t813 t814 t823 t824).bind fun bt845 => ((impl_BigAdd.f kj2 t817 t818 t823 t824).bind fun bt851 => (if (t837 != bt839.2.2) = true then (none) else ((laws_jtBig.f kj2 t833 t834 bt839.1 bt839.2.1).bind fun t857 => (if t857 = true then (if t837 = true then (if bt845.2.2 = true then (laws_FnBigParts.j1 kj2 t837 bt839.2.2 (!bt851.2.2) t813 t814 t833 t834 bt839.1 bt839.2.1 bt845.1 bt845.2.1 bt851.1 bt851.2.1) else (laws_FnBigParts.j1 kj2 t837 bt839.2.2 true t813 t814 t833 t834 bt839.1 bt839.2.1 bt845.1 bt845.2.1 bt851.1 bt851.2.1)) else (laws_FnBigParts.j1 kj2 t837 bt839.2.2 true t813 t814 t833 t834 bt839.1 bt839.2.1 bt845.1 bt845.2.1 bt851.1 bt851.2.1)) else (laws_FnBigParts.j1 kj2 t837 bt839.2.2 true t813 t814 t833 t834 bt839.1 bt839.2.1 bt845.1 bt845.2.1 bt851.1 bt851.2.1))))))) = some r := H
        have A8 := Aside0.mk A80
        clear A80
        replace H := Option.bind_eq_some_iff.mp H
        obtain ⟨⟨t839, t840, t843⟩, A90, H⟩ := H
        replace H : ((impl_BigMul.f kj2 t813 t814 t823 t824).bind fun bt845 => ((impl_BigAdd.f kj2 t817 t818 t823 t824).bind fun bt851 => (if (t837 != t843) = true then (none) else ((laws_jtBig.f kj2 t833 t834 t839 t840).bind fun t857 => (if t857 = true then (if t837 = true then (if bt845.2.2 = true then (laws_FnBigParts.j1 kj2 t837 t843 (!bt851.2.2) t813 t814 t833 t834 t839 t840 bt845.1 bt845.2.1 bt851.1 bt851.2.1) else (laws_FnBigParts.j1 kj2 t837 t843 true t813 t814 t833 t834 t839 t840 bt845.1 bt845.2.1 bt851.1 bt851.2.1)) else (laws_FnBigParts.j1 kj2 t837 t843 true t813 t814 t833 t834 t839 t840 bt845.1 bt845.2.1 bt851.1 bt851.2.1)) else (laws_FnBigParts.j1 kj2 t837 t843 true t813 t814 t833 t834 t839 t840 bt845.1 bt845.2.1 bt851.1 bt851.2.1)))))) = some r := H
        have A9 := Aside0.mk A90
        clear A90
        replace H := Option.bind_eq_some_iff.mp H
        obtain ⟨⟨t845, t846, t849⟩, A100, H⟩ := H
        replace H : ((impl_BigAdd.f kj2 t817 t818 t823 t824).bind fun bt851 => (if (t837 != t843) = true then (none) else ((laws_jtBig.f kj2 t833 t834 t839 t840).bind fun t857 => (if t857 = true then (if t837 = true then (if t849 = true then (laws_FnBigParts.j1 kj2 t837 t843 (!bt851.2.2) t813 t814 t833 t834 t839 t840 t845 t846 bt851.1 bt851.2.1) else (laws_FnBigParts.j1 kj2 t837 t843 true t813 t814 t833 t834 t839 t840 t845 t846 bt851.1 bt851.2.1)) else (laws_FnBigParts.j1 kj2 t837 t843 true t813 t814 t833 t834 t839 t840 t845 t846 bt851.1 bt851.2.1)) else (laws_FnBigParts.j1 kj2 t837 t843 true t813 t814 t833 t834 t839 t840 t845 t846 bt851.1 bt851.2.1))))) = some r := H
        have A10 := Aside0.mk A100
        clear A100
        replace H := Option.bind_eq_some_iff.mp H
        obtain ⟨⟨t851, t852, t855⟩, A110, H⟩ := H
        replace H : (if (t837 != t843) = true then (none) else ((laws_jtBig.f kj2 t833 t834 t839 t840).bind fun t857 => (if t857 = true then (if t837 = true then (if t849 = true then (laws_FnBigParts.j1 kj2 t837 t843 (!t855) t813 t814 t833 t834 t839 t840 t845 t846 t851 t852) else (laws_FnBigParts.j1 kj2 t837 t843 true t813 t814 t833 t834 t839 t840 t845 t846 t851 t852)) else (laws_FnBigParts.j1 kj2 t837 t843 true t813 t814 t833 t834 t839 t840 t845 t846 t851 t852)) else (laws_FnBigParts.j1 kj2 t837 t843 true t813 t814 t833 t834 t839 t840 t845 t846 t851 t852)))) = some r := H
        have A11 := Aside0.mk A110
        clear A110
        have HC12 := Aside0.mk H
        clear H
        go_upto_region 9 with (first | ((with_reducible refine gate_callee (f := 38) rfl ?_); refine goesL_ (some 31) rfl rfl Try.func38 (by kernel_rfl) rfl #[.slice A0 l0.length c0] rfl za ?_; (with_reducible refine (spec_DrawBigMul.calls kj2 _ _ l0 t813 t814 t817 t818 _ ?side1 ?side2 A6.out).mono ?_); (case side1 => repeat (first | exact (Kd.C_below HR0.out HB.out) | (with_reducible refine Kd.C_alloc ?_ _) | (with_reducible refine Kd.C_drewN ?_ _) | (with_reducible refine Kd.C_drew ?_))); (case side2 => exact HC0.out); rintro e w13 ⟨v815, v819, rfl, ho0, ho1, hb⟩; refine ⟨_, rfl, ?_⟩; have n0_ := Aside0.mk (Kd.R_lower ho0 (below_size zb)); have n1_ := Aside0.mk (Kd.R_lower ho1 (below_size zb)); have n2_ := Aside0.mk (below_step zb hb); clear HB; have HO816 := n0_; have HO820 := n1_; have HB := n2_; clear n0_ n1_ n2_; (try clear hb); (try clear hb2); (try clear hk); (try clear hi); (try clear ho0); (try clear ho1)) | ((with_reducible refine gate_dst (N := 5) rfl ?_); (try (refine gate_guard (by rfl) ?_; dsimp only)); refine box_event ?hg (N := 5) ?hd (cs := #[.bool false, .slice none 0 0]) (t := 27) ?hr ?_; (case hd => rfl); (case hg => rfl); (case hr => first | (go_simp; done) | (go_simp; rfl)); intro gb821 hg w14 hbox hb; have n0_ := Aside0.mk (Kd.R_below (zR HO816.out) hb); have n1_ := Aside0.mk (Kd.R_below (zR HO820.out) hb); have n2_ := Aside0.mk (below_step zb hb); have n3_ := Aside0.mk (hbox); have n4_ := Aside0.mk ((by rw [hg]; exact (below_size zb) : w.heap.size ≤ gb821)); have n5_ := Aside0.mk ((by rw [hg]; exact (below_size zb) : w.heap.size ≤ gb821)); clear HO816; clear HO820; clear HB; have HO816 := n0_; have HO820 := n1_; have HB := n2_; have BK821 := n3_; have GW821 := n4_; have GE821 := n5_; clear n0_ n1_ n2_ n3_ n4_ n5_; clear hb hbox hg) | ((with_reducible refine gate_dst (N := 6) rfl ?_); (try (refine gate_guard (by rfl) ?_; dsimp only)); refine box_event ?hg (N := 6) ?hd (cs := #[.bool false, .slice none 0 0]) (t := 27) ?hr ?_; (case hd => rfl); (case hg => rfl); (case hr => first | (go_simp; done) | (go_simp; rfl)); intro gb822 hg w15 hbox hb; have n0_ := Aside0.mk (Kd.R_below (zR HO816.out) hb); have n1_ := Aside0.mk (Kd.R_below (zR HO820.out) hb); have n2_ := Aside0.mk (blk_below (g := gb821) (o := .cells #[.bool false, .slice none 0 0] 27 (0, 0)) (zk BK821.out) hb); have n3_ := Aside0.mk (below_step zb hb); have n4_ := Aside0.mk (hbox); have n5_ := Aside0.mk ((by rw [hg]; exact (below_size zb) : w.heap.size ≤ gb822)); have n6_ := Aside0.mk ((by rw [hg]; exact (below_size zb) : w.heap.size ≤ gb822)); have n7_ := Aside0.mk ((by rw [hg]; exact Nat.ne_of_lt (blk_lt (g := gb821) (o := .cells #[.bool false, .slice none 0 0] 27 (0, 0)) (zk BK821.out)) : gb821 ≠ gb822)); have n8_ := Aside0.mk ((by rw [hg]; exact Nat.ne_of_gt (blk_lt (g := gb821) (o := .cells #[.bool false, .slice none 0 0] 27 (0, 0)) (zk BK821.out)) : gb822 ≠ gb821)); clear HO816; clear HO820; clear BK821; clear HB; have HO816 := n0_; have HO820 := n1_; have BK821 := n2_; have HB := n3_; have BK822 := n4_; have GW822 := n5_; have GE822 := n6_; have NB821_822 := n7_; have NB822_821 := n8_; clear n0_ n1_ n2_ n3_ n4_ n5_ n6_ n7_ n8_; clear hb hbox hg; have hnb16 := NB821_822.out; have hnc16 := NB822_821.out; have hcz17_0 : w15.cell? ⟨gb821, 0, none⟩ = some (.bool false) := (blk_cell BK821.out 0).trans rfl; have hcz17_1 : w15.cell? ⟨gb821, 1, none⟩ = some (.slice none 0 0) := (blk_cell BK821.out 1).trans rfl; have hfz17_0 := blk_frozen BK821.out 0; have hfz17_1 := blk_frozen BK821.out 1; obtain ⟨Ao18, co18, eo18⟩ := Kd.R_slice HO816.out; subst eo18; have hcz19_0 : w15.cell? ⟨gb822, 0, none⟩ = some (.bool false) := (blk_cell BK822.out 0).trans rfl; have hcz19_1 : w15.cell? ⟨gb822, 1, none⟩ = some (.slice none 0 0) := (blk_cell BK822.out 1).trans rfl; have hfz19_0 := blk_frozen BK822.out 0; have hfz19_1 := blk_frozen BK822.out 1; obtain ⟨Ao20, co20, eo20⟩ := Kd.R_slice HO820.out; subst eo20) | ((with_reducible refine gate_callee (f := 38) rfl ?_); refine goesL_ (some 36) rfl rfl Try.func38 (by kernel_rfl) rfl #[.slice A1 l1.length c1] rfl za ?_; (with_reducible refine (spec_DrawBigMul.calls kj2 _ _ l1 t823 t824 t827 t828 _ ?side1 ?side2 A7.out).mono ?_); (case side1 => exact Kd.C_below HR1.out zb); (case side2 => exact HC1.out); rintro e w21 ⟨v825, v829, rfl, ho0, ho1, hb⟩; refine ⟨_, rfl, ?_⟩; have n0_ := Aside0.mk (Kd.R_mono (Kd.R_told (Kd.R_told (Kd.R_old (by (with_reducible repeat (first | apply Kd.R_alloc | apply Kd.R_drewN | apply Kd.R_drew)); exact (Kd.R_mono (Kd.R_mono (Kd.R_far (p := ⟨gb822, 1, none⟩) (Kd.R_far (p := ⟨gb822, 0, none⟩) (Kd.R_far (p := ⟨gb821, 1, none⟩) (Kd.R_far (p := ⟨gb821, 0, none⟩) (Kd.R_types (Kd.R_types HO816.out BK821.out (by decide)) BK822.out (by decide)) (fun _ hk => hk.1.2) (.bool t813)) (fun _ hk => hk.1.2) (.slice Ao18 t814.length co18)) (fun _ hk => hk.2) (.bool t817)) (fun _ hk => hk.2) (.slice Ao20 t818.length co20)) (fun _ h_ => h_.1)) (fun _ h_ => h_.1))) hb) (Kd.R_base ho0)) (Kd.R_base ho1)) (fun _ h_ => h_.1)); have n1_ := Aside0.mk (Kd.R_mono (Kd.R_told (Kd.R_told (Kd.R_old (by (with_reducible repeat (first | apply Kd.R_alloc | apply Kd.R_drewN | apply Kd.R_drew)); exact (Kd.R_mono (Kd.R_mono (Kd.R_far (p := ⟨gb822, 1, none⟩) (Kd.R_far (p := ⟨gb822, 0, none⟩) (Kd.R_far (p := ⟨gb821, 1, none⟩) (Kd.R_far (p := ⟨gb821, 0, none⟩) (Kd.R_types (Kd.R_types HO820.out BK821.out (by decide)) BK822.out (by decide)) (fun _ hk => hk.1.2) (.bool t813)) (fun _ hk => hk.1.2) (.slice Ao18 t814.length co18)) (fun _ hk => hk.2) (.bool t817)) (fun _ hk => hk.2) (.slice Ao20 t818.length co20)) (fun _ h_ => h_.1)) (fun _ h_ => h_.1))) hb) (Kd.R_base ho0)) (Kd.R_base ho1)) (fun _ h_ => h_.1)); have n2_ := Aside0.mk (Kd.R_lower (Kd.R_new' (Kd.R_new' ho0 (Kd.R_lt (by (with_reducible repeat (first | apply Kd.R_alloc | apply Kd.R_drewN | apply Kd.R_drew)); exact (Kd.R_mono (Kd.R_mono (Kd.R_far (p := ⟨gb822, 1, none⟩) (Kd.R_far (p := ⟨gb822, 0, none⟩) (Kd.R_far (p := ⟨gb821, 1, none⟩) (Kd.R_far (p := ⟨gb821, 0, none⟩) (Kd.R_types (Kd.R_types HO816.out BK821.out (by decide)) BK822.out (by decide)) (fun _ hk => hk.1.2) (.bool t813)) (fun _ hk => hk.1.2) (.slice Ao18 t814.length co18)) (fun _ hk => hk.2) (.bool t817)) (fun _ hk => hk.2) (.slice Ao20 t818.length co20)) (fun _ h_ => h_.1)) (fun _ h_ => h_.1))))) (Kd.R_lt (by (with_reducible repeat (first | apply Kd.R_alloc | apply Kd.R_drewN | apply Kd.R_drew)); exact (Kd.R_mono (Kd.R_mono (Kd.R_far (p := ⟨gb822, 1, none⟩) (Kd.R_far (p := ⟨gb822, 0, none⟩) (Kd.R_far (p := ⟨gb821, 1, none⟩) (Kd.R_far (p := ⟨gb821, 0, none⟩) (Kd.R_types (Kd.R_types HO820.out BK821.out (by decide)) BK822.out (by decide)) (fun _ hk => hk.1.2) (.bool t813)) (fun _ hk => hk.1.2) (.slice Ao18 t814.length co18)) (fun _ hk => hk.2) (.bool t817)) (fun _ hk => hk.2) (.slice Ao20 t818.length co20)) (fun _ h_ => h_.1)) (fun _ h_ => h_.1))))) (below_size zb)); have n3_ := Aside0.mk (Kd.R_lower (Kd.R_new' (Kd.R_new' ho1 (Kd.R_lt (by (with_reducible repeat (first | apply Kd.R_alloc | apply Kd.R_drewN | apply Kd.R_drew)); exact (Kd.R_mono (Kd.R_mono (Kd.R_far (p := ⟨gb822, 1, none⟩) (Kd.R_far (p := ⟨gb822, 0, none⟩) (Kd.R_far (p := ⟨gb821, 1, none⟩) (Kd.R_far (p := ⟨gb821, 0, none⟩) (Kd.R_types (Kd.R_types HO816.out BK821.out (by decide)) BK822.out (by decide)) (fun _ hk => hk.1.2) (.bool t813)) (fun _ hk => hk.1.2) (.slice Ao18 t814.length co18)) (fun _ hk => hk.2) (.bool t817)) (fun _ hk => hk.2) (.slice Ao20 t818.length co20)) (fun _ h_ => h_.1)) (fun _ h_ => h_.1))))) (Kd.R_lt (by (with_reducible repeat (first | apply Kd.R_alloc | apply Kd.R_drewN | apply Kd.R_drew)); exact (Kd.R_mono (Kd.R_mono (Kd.R_far (p := ⟨gb822, 1, none⟩) (Kd.R_far (p := ⟨gb822, 0, none⟩) (Kd.R_far (p := ⟨gb821, 1, none⟩) (Kd.R_far (p := ⟨gb821, 0, none⟩) (Kd.R_types (Kd.R_types HO820.out BK821.out (by decide)) BK822.out (by decide)) (fun _ hk => hk.1.2) (.bool t813)) (fun _ hk => hk.1.2) (.slice Ao18 t814.length co18)) (fun _ hk => hk.2) (.bool t817)) (fun _ hk => hk.2) (.slice Ao20 t818.length co20)) (fun _ h_ => h_.1)) (fun _ h_ => h_.1))))) (below_size zb)); have n4_ := Aside0.mk (blk_below (g := gb821) (o := .cells #[.bool t813, .slice Ao18 t814.length co18] 27 (0, 0)) (by (with_reducible repeat (first | refine blk_drewN ?_ _ | refine blk_drew ?_ | refine blk_alloc ?_ _)); refine blk_far ?_ NB821_822.out _; (with_reducible repeat (first | refine blk_drewN ?_ _ | refine blk_drew ?_ | refine blk_alloc ?_ _)); refine blk_far ?_ NB821_822.out _; (with_reducible repeat (first | refine blk_drewN ?_ _ | refine blk_drew ?_ | refine blk_alloc ?_ _)); refine blk_put (cs := #[.bool t813, .slice none 0 0]) ?_ 1 _ rfl; (with_reducible repeat (first | refine blk_drewN ?_ _ | refine blk_drew ?_ | refine blk_alloc ?_ _)); refine blk_put (cs := #[.bool false, .slice none 0 0]) ?_ 0 _ rfl; (with_reducible repeat (first | refine blk_drewN ?_ _ | refine blk_drew ?_ | refine blk_alloc ?_ _)); exact BK821.out) hb); have n5_ := Aside0.mk (blk_below (g := gb822) (o := .cells #[.bool t817, .slice Ao20 t818.length co20] 27 (0, 0)) (by (with_reducible repeat (first | refine blk_drewN ?_ _ | refine blk_drew ?_ | refine blk_alloc ?_ _)); refine blk_put (cs := #[.bool t817, .slice none 0 0]) ?_ 1 _ rfl; (with_reducible repeat (first | refine blk_drewN ?_ _ | refine blk_drew ?_ | refine blk_alloc ?_ _)); refine blk_put (cs := #[.bool false, .slice none 0 0]) ?_ 0 _ rfl; (with_reducible repeat (first | refine blk_drewN ?_ _ | refine blk_drew ?_ | refine blk_alloc ?_ _)); refine blk_far ?_ NB822_821.out _; (with_reducible repeat (first | refine blk_drewN ?_ _ | refine blk_drew ?_ | refine blk_alloc ?_ _)); refine blk_far ?_ NB822_821.out _; (with_reducible repeat (first | refine blk_drewN ?_ _ | refine blk_drew ?_ | refine blk_alloc ?_ _)); exact BK822.out) hb); have n6_ := Aside0.mk (below_step zb hb); clear HO816; clear HO820; clear BK821; clear BK822; clear HB; have HO816 := n0_; have HO820 := n1_; have HO826 := n2_; have HO830 := n3_; have BK821 := n4_; have BK822 := n5_; have HB := n6_; clear n0_ n1_ n2_ n3_ n4_ n5_ n6_; (try clear hb); (try clear hb2); (try clear hk); (try clear hi); (try clear ho0); (try clear ho1)) | ((with_reducible refine gate_dst (N := 7) rfl ?_); (try (refine gate_guard (by rfl) ?_; dsimp only)); refine box_event ?hg (N := 7) ?hd (cs := #[.bool false, .slice none 0 0]) (t := 27) ?hr ?_; (case hd => rfl); (case hg => rfl); (case hr => first | (go_simp; done) | (go_simp; rfl)); intro gb831 hg w22 hbox hb; have n0_ := Aside0.mk (Kd.R_below (zR HO816.out) hb); have n1_ := Aside0.mk (Kd.R_below (zR HO820.out) hb); have n2_ := Aside0.mk (Kd.R_below (zR HO826.out) hb); have n3_ := Aside0.mk (Kd.R_below (zR HO830.out) hb); have n4_ := Aside0.mk (blk_below (g := gb821) (o := .cells #[.bool t813, .slice Ao18 t814.length co18] 27 (0, 0)) (zk BK821.out) hb); have n5_ := Aside0.mk (blk_below (g := gb822) (o := .cells #[.bool t817, .slice Ao20 t818.length co20] 27 (0, 0)) (zk BK822.out) hb); have n6_ := Aside0.mk (below_step zb hb); have n7_ := Aside0.mk (hbox); have n8_ := Aside0.mk ((by rw [hg]; exact (below_size zb) : w.heap.size ≤ gb831)); have n9_ := Aside0.mk ((by rw [hg]; exact (below_size zb) : w.heap.size ≤ gb831)); have n10_ := Aside0.mk ((by rw [hg]; exact Nat.ne_of_lt (blk_lt (g := gb821) (o := .cells #[.bool t813, .slice Ao18 t814.length co18] 27 (0, 0)) (zk BK821.out)) : gb821 ≠ gb831)); have n11_ := Aside0.mk ((by rw [hg]; exact Nat.ne_of_gt (blk_lt (g := gb821) (o := .cells #[.bool t813, .slice Ao18 t814.length co18] 27 (0, 0)) (zk BK821.out)) : gb831 ≠ gb821)); have n12_ := Aside0.mk ((by rw [hg]; exact Nat.ne_of_lt (blk_lt (g := gb822) (o := .cells #[.bool t817, .slice Ao20 t818.length co20] 27 (0, 0)) (zk BK822.out)) : gb822 ≠ gb831)); have n13_ := Aside0.mk ((by rw [hg]; exact Nat.ne_of_gt (blk_lt (g := gb822) (o := .cells #[.bool t817, .slice Ao20 t818.length co20] 27 (0, 0)) (zk BK822.out)) : gb831 ≠ gb822)); clear HO816; clear HO820; clear HO826; clear HO830; clear BK821; clear BK822; clear HB; have HO816 := n0_; have HO820 := n1_; have HO826 := n2_; have HO830 := n3_; have BK821 := n4_; have BK822 := n5_; have HB := n6_; have BK831 := n7_; have GW831 := n8_; have GE831 := n9_; have NB821_831 := n10_; have NB831_821 := n11_; have NB822_831 := n12_; have NB831_822 := n13_; clear n0_ n1_ n2_ n3_ n4_ n5_ n6_ n7_ n8_ n9_ n10_ n11_ n12_ n13_; clear hb hbox hg) | ((with_reducible refine gate_dst (N := 8) rfl ?_); (try (refine gate_guard (by rfl) ?_; dsimp only)); refine box_event ?hg (N := 8) ?hd (cs := #[.bool false, .slice none 0 0]) (t := 27) ?hr ?_; (case hd => rfl); (case hg => rfl); (case hr => first | (go_simp; done) | (go_simp; rfl)); intro gb832 hg w23 hbox hb; have n0_ := Aside0.mk (Kd.R_below (zR HO816.out) hb); have n1_ := Aside0.mk (Kd.R_below (zR HO820.out) hb); have n2_ := Aside0.mk (Kd.R_below (zR HO826.out) hb); have n3_ := Aside0.mk (Kd.R_below (zR HO830.out) hb); have n4_ := Aside0.mk (blk_below (g := gb821) (o := .cells #[.bool t813, .slice Ao18 t814.length co18] 27 (0, 0)) (zk BK821.out) hb); have n5_ := Aside0.mk (blk_below (g := gb822) (o := .cells #[.bool t817, .slice Ao20 t818.length co20] 27 (0, 0)) (zk BK822.out) hb); have n6_ := Aside0.mk (blk_below (g := gb831) (o := .cells #[.bool false, .slice none 0 0] 27 (0, 0)) (zk BK831.out) hb); have n7_ := Aside0.mk (below_step zb hb); have n8_ := Aside0.mk (hbox); have n9_ := Aside0.mk ((by rw [hg]; exact (below_size zb) : w.heap.size ≤ gb832)); have n10_ := Aside0.mk ((by rw [hg]; exact (below_size zb) : w.heap.size ≤ gb832)); have n11_ := Aside0.mk ((by rw [hg]; exact Nat.ne_of_lt (blk_lt (g := gb821) (o := .cells #[.bool t813, .slice Ao18 t814.length co18] 27 (0, 0)) (zk BK821.out)) : gb821 ≠ gb832)); have n12_ := Aside0.mk ((by rw [hg]; exact Nat.ne_of_gt (blk_lt (g := gb821) (o := .cells #[.bool t813, .slice Ao18 t814.length co18] 27 (0, 0)) (zk BK821.out)) : gb832 ≠ gb821)); have n13_ := Aside0.mk ((by rw [hg]; exact Nat.ne_of_lt (blk_lt (g := gb822) (o := .cells #[.bool t817, .slice Ao20 t818.length co20] 27 (0, 0)) (zk BK822.out)) : gb822 ≠ gb832)); have n14_ := Aside0.mk ((by rw [hg]; exact Nat.ne_of_gt (blk_lt (g := gb822) (o := .cells #[.bool t817, .slice Ao20 t818.length co20] 27 (0, 0)) (zk BK822.out)) : gb832 ≠ gb822)); have n15_ := Aside0.mk ((by rw [hg]; exact Nat.ne_of_lt (blk_lt (g := gb831) (o := .cells #[.bool false, .slice none 0 0] 27 (0, 0)) (zk BK831.out)) : gb831 ≠ gb832)); have n16_ := Aside0.mk ((by rw [hg]; exact Nat.ne_of_gt (blk_lt (g := gb831) (o := .cells #[.bool false, .slice none 0 0] 27 (0, 0)) (zk BK831.out)) : gb832 ≠ gb831)); clear HO816; clear HO820; clear HO826; clear HO830; clear BK821; clear BK822; clear BK831; clear HB; have HO816 := n0_; have HO820 := n1_; have HO826 := n2_; have HO830 := n3_; have BK821 := n4_; have BK822 := n5_; have BK831 := n6_; have HB := n7_; have BK832 := n8_; have GW832 := n9_; have GE832 := n10_; have NB821_832 := n11_; have NB832_821 := n12_; have NB822_832 := n13_; have NB832_822 := n14_; have NB831_832 := n15_; have NB832_831 := n16_; clear n0_ n1_ n2_ n3_ n4_ n5_ n6_ n7_ n8_ n9_ n10_ n11_ n12_ n13_ n14_ n15_ n16_; clear hb hbox hg; have hnb24 := NB831_821.out; have hnc24 := NB821_831.out; have hnb25 := NB831_822.out; have hnc25 := NB822_831.out; have hnb26 := NB831_832.out; have hnc26 := NB832_831.out; have hcz27_0 : w23.cell? ⟨gb831, 0, none⟩ = some (.bool false) := (blk_cell BK831.out 0).trans rfl; have hcz27_1 : w23.cell? ⟨gb831, 1, none⟩ = some (.slice none 0 0) := (blk_cell BK831.out 1).trans rfl; have hfz27_0 := blk_frozen BK831.out 0; have hfz27_1 := blk_frozen BK831.out 1; obtain ⟨Ao28, co28, eo28⟩ := Kd.R_slice HO826.out; subst eo28) | ((with_reducible refine gate_store (t := 27) (p := 7) rfl ?_); refine store_event (t := 27) (p := 7) (v := ?vo_w29) (w1 := ((w23.setCell ⟨gb831, 0, none⟩ (.bool t823)).setCell ⟨gb831, 1, none⟩ (.slice Ao28 t824.length co28))) ?hg ?ho ?hn ?hr ?_; (case ho => rfl); (case hg => rfl); (case hn => rfl); (case hr => first | (go_simp; done) | (go_simp; rfl)); intro w29 hw; have n0_ : Aside0 (Kd.R (Kd.int .i64) 3 w29 w.heap.size (fun k_ => some k_ ≠ (.slice Ao20 t818.length co20 : Value).ownBlock ∧ some k_ ≠ (.slice Ao28 t824.length co28 : Value).ownBlock ∧ some k_ ≠ (v829 : Value).ownBlock) (.slice Ao18 t814.length co18) t814) := ⟨(by rw [hw]; exact (by (with_reducible repeat (first | apply Kd.R_alloc | apply Kd.R_drewN | apply Kd.R_drew)); exact Kd.R_mono (Kd.R_far (p := ⟨gb831, 1, none⟩) (Kd.R_far (p := ⟨gb831, 0, none⟩) (Kd.R_types HO816.out BK831.out (by decide)) (fun _ hk => hk.2) (.bool t823)) (fun _ hk => hk.2) (.slice Ao28 t824.length co28)) (fun _ hk => ⟨hk.1.1.1, ⟨hk.1.1.2, hk.1.2⟩⟩)))⟩; have n1_ : Aside0 (Kd.R (Kd.int .i64) 3 w29 w.heap.size (fun k_ => some k_ ≠ (.slice Ao18 t814.length co18 : Value).ownBlock ∧ some k_ ≠ (.slice Ao28 t824.length co28 : Value).ownBlock ∧ some k_ ≠ (v829 : Value).ownBlock) (.slice Ao20 t818.length co20) t818) := ⟨(by rw [hw]; exact (by (with_reducible repeat (first | apply Kd.R_alloc | apply Kd.R_drewN | apply Kd.R_drew)); exact Kd.R_mono (Kd.R_far (p := ⟨gb831, 1, none⟩) (Kd.R_far (p := ⟨gb831, 0, none⟩) (Kd.R_types HO820.out BK831.out (by decide)) (fun _ hk => hk.2) (.bool t823)) (fun _ hk => hk.2) (.slice Ao28 t824.length co28)) (fun _ hk => ⟨hk.1.1.1, ⟨hk.1.1.2, hk.1.2⟩⟩)))⟩; have n2_ : Aside0 (Kd.R (Kd.int .i64) 3 w29 w.heap.size (fun k_ => some k_ ≠ (.slice Ao18 t814.length co18 : Value).ownBlock ∧ some k_ ≠ (.slice Ao20 t818.length co20 : Value).ownBlock ∧ some k_ ≠ (v829 : Value).ownBlock) (.slice Ao28 t824.length co28) t824) := ⟨(by rw [hw]; exact (by (with_reducible repeat (first | apply Kd.R_alloc | apply Kd.R_drewN | apply Kd.R_drew)); exact Kd.R_mono (Kd.R_far (p := ⟨gb831, 1, none⟩) (Kd.R_far (p := ⟨gb831, 0, none⟩) (Kd.R_types HO826.out BK831.out (by decide)) (fun _ hk => hk.2) (.bool t823)) (fun _ hk => hk.2) (.slice Ao28 t824.length co28)) (fun _ hk => ⟨hk.1.1.2, ⟨hk.1.2, hk.1.1.1⟩⟩)))⟩; have n3_ : Aside0 (Kd.R (Kd.int .i64) 3 w29 w.heap.size (fun k_ => some k_ ≠ (.slice Ao18 t814.length co18 : Value).ownBlock ∧ some k_ ≠ (.slice Ao20 t818.length co20 : Value).ownBlock ∧ some k_ ≠ (.slice Ao28 t824.length co28 : Value).ownBlock) v829 t828) := ⟨(by rw [hw]; exact (by (with_reducible repeat (first | apply Kd.R_alloc | apply Kd.R_drewN | apply Kd.R_drew)); exact Kd.R_mono (Kd.R_far (p := ⟨gb831, 1, none⟩) (Kd.R_far (p := ⟨gb831, 0, none⟩) (Kd.R_types HO830.out BK831.out (by decide)) (fun _ hk => hk.2) (.bool t823)) (fun _ hk => hk.2) (.slice Ao28 t824.length co28)) (fun _ hk => ⟨hk.1.1.2, ⟨hk.1.2, hk.1.1.1⟩⟩)))⟩; have n4_ : Aside0 (w29.heap[gb821]? = some (.cells #[.bool t813, .slice Ao18 t814.length co18] 27 (0, 0))) := ⟨(by rw [hw]; exact (zk BK821.out))⟩; have n5_ : Aside0 (w29.heap[gb822]? = some (.cells #[.bool t817, .slice Ao20 t818.length co20] 27 (0, 0))) := ⟨(by rw [hw]; exact (zk BK822.out))⟩; have n6_ : Aside0 (w29.heap[gb831]? = some (.cells #[.bool t823, .slice Ao28 t824.length co28] 27 (0, 0))) := ⟨(by rw [hw]; exact (by (with_reducible repeat (first | refine blk_drewN ?_ _ | refine blk_drew ?_ | refine blk_alloc ?_ _)); refine blk_put (cs := #[.bool t823, .slice none 0 0]) ?_ 1 _ rfl; (with_reducible repeat (first | refine blk_drewN ?_ _ | refine blk_drew ?_ | refine blk_alloc ?_ _)); refine blk_put (cs := #[.bool false, .slice none 0 0]) ?_ 0 _ rfl; (with_reducible repeat (first | refine blk_drewN ?_ _ | refine blk_drew ?_ | refine blk_alloc ?_ _)); exact BK831.out))⟩; have n7_ : Aside0 (w29.heap[gb832]? = some (.cells #[.bool false, .slice none 0 0] 27 (0, 0))) := ⟨(by rw [hw]; exact (zk BK832.out))⟩; have n8_ : Aside0 (Below w.heap.size w w29) := ⟨(by rw [hw]; exact zb)⟩; clear hw; clear HO816; clear HO820; clear HO826; clear HO830; clear BK821; clear BK822; clear BK831; clear BK832; clear HB; have HO816 := n0_; have HO820 := n1_; have HO826 := n2_; have HO830 := n3_; have BK821 := n4_; have BK822 := n5_; have BK831 := n6_; have BK832 := n7_; have HB := n8_; clear n0_ n1_ n2_ n3_ n4_ n5_ n6_ n7_ n8_; have hnb30 := NB832_821.out; have hnc30 := NB821_832.out; have hnb31 := NB832_822.out; have hnc31 := NB822_832.out; have hcz32_0 : w29.cell? ⟨gb832, 0, none⟩ = some (.bool false) := (blk_cell BK832.out 0).trans rfl; have hcz32_1 : w29.cell? ⟨gb832, 1, none⟩ = some (.slice none 0 0) := (blk_cell BK832.out 1).trans rfl; have hfz32_0 := blk_frozen BK832.out 0; have hfz32_1 := blk_frozen BK832.out 1; obtain ⟨Ao33, co33, eo33⟩ := Kd.R_slice HO830.out; subst eo33) | ((with_reducible refine gate_store (t := 27) (p := 8) rfl ?_); refine store_event (t := 27) (p := 8) (v := ?vo_w34) (w1 := ((w29.setCell ⟨gb832, 0, none⟩ (.bool t827)).setCell ⟨gb832, 1, none⟩ (.slice Ao33 t828.length co33))) ?hg ?ho ?hn ?hr ?_; (case ho => rfl); (case hg => rfl); (case hn => rfl); (case hr => first | (go_simp; done) | (go_simp; rfl)); intro w34 hw; have n0_ : Aside0 (Kd.R (Kd.int .i64) 3 w34 w.heap.size (fun k_ => some k_ ≠ (.slice Ao20 t818.length co20 : Value).ownBlock ∧ some k_ ≠ (.slice Ao28 t824.length co28 : Value).ownBlock ∧ some k_ ≠ (.slice Ao33 t828.length co33 : Value).ownBlock) (.slice Ao18 t814.length co18) t814) := ⟨(by rw [hw]; exact (by (with_reducible repeat (first | apply Kd.R_alloc | apply Kd.R_drewN | apply Kd.R_drew)); exact Kd.R_mono (Kd.R_far (p := ⟨gb832, 1, none⟩) (Kd.R_far (p := ⟨gb832, 0, none⟩) (Kd.R_types HO816.out BK832.out (by decide)) (fun _ hk => hk.2) (.bool t827)) (fun _ hk => hk.2) (.slice Ao33 t828.length co33)) (fun _ hk => ⟨hk.1.1, ⟨hk.1.2.1, hk.1.2.2⟩⟩)))⟩; have n1_ : Aside0 (Kd.R (Kd.int .i64) 3 w34 w.heap.size (fun k_ => some k_ ≠ (.slice Ao18 t814.length co18 : Value).ownBlock ∧ some k_ ≠ (.slice Ao28 t824.length co28 : Value).ownBlock ∧ some k_ ≠ (.slice Ao33 t828.length co33 : Value).ownBlock) (.slice Ao20 t818.length co20) t818) := ⟨(by rw [hw]; exact (by (with_reducible repeat (first | apply Kd.R_alloc | apply Kd.R_drewN | apply Kd.R_drew)); exact Kd.R_mono (Kd.R_far (p := ⟨gb832, 1, none⟩) (Kd.R_far (p := ⟨gb832, 0, none⟩) (Kd.R_types HO820.out BK832.out (by decide)) (fun _ hk => hk.2) (.bool t827)) (fun _ hk => hk.2) (.slice Ao33 t828.length co33)) (fun _ hk => ⟨hk.1.1, ⟨hk.1.2.1, hk.1.2.2⟩⟩)))⟩; have n2_ : Aside0 (Kd.R (Kd.int .i64) 3 w34 w.heap.size (fun k_ => some k_ ≠ (.slice Ao18 t814.length co18 : Value).ownBlock ∧ some k_ ≠ (.slice Ao20 t818.length co20 : Value).ownBlock ∧ some k_ ≠ (.slice Ao33 t828.length co33 : Value).ownBlock) (.slice Ao28 t824.length co28) t824) := ⟨(by rw [hw]; exact (by (with_reducible repeat (first | apply Kd.R_alloc | apply Kd.R_drewN | apply Kd.R_drew)); exact Kd.R_mono (Kd.R_far (p := ⟨gb832, 1, none⟩) (Kd.R_far (p := ⟨gb832, 0, none⟩) (Kd.R_types HO826.out BK832.out (by decide)) (fun _ hk => hk.2) (.bool t827)) (fun _ hk => hk.2) (.slice Ao33 t828.length co33)) (fun _ hk => ⟨hk.1.1, ⟨hk.1.2.1, hk.1.2.2⟩⟩)))⟩; have n3_ : Aside0 (Kd.R (Kd.int .i64) 3 w34 w.heap.size (fun k_ => some k_ ≠ (.slice Ao18 t814.length co18 : Value).ownBlock ∧ some k_ ≠ (.slice Ao20 t818.length co20 : Value).ownBlock ∧ some k_ ≠ (.slice Ao28 t824.length co28 : Value).ownBlock) (.slice Ao33 t828.length co33) t828) := ⟨(by rw [hw]; exact (by (with_reducible repeat (first | apply Kd.R_alloc | apply Kd.R_drewN | apply Kd.R_drew)); exact Kd.R_mono (Kd.R_far (p := ⟨gb832, 1, none⟩) (Kd.R_far (p := ⟨gb832, 0, none⟩) (Kd.R_types HO830.out BK832.out (by decide)) (fun _ hk => hk.2) (.bool t827)) (fun _ hk => hk.2) (.slice Ao33 t828.length co33)) (fun _ hk => ⟨hk.1.1, ⟨hk.1.2.1, hk.1.2.2⟩⟩)))⟩; have n4_ : Aside0 (w34.heap[gb821]? = some (.cells #[.bool t813, .slice Ao18 t814.length co18] 27 (0, 0))) := ⟨(by rw [hw]; exact (zk BK821.out))⟩; have n5_ : Aside0 (w34.heap[gb822]? = some (.cells #[.bool t817, .slice Ao20 t818.length co20] 27 (0, 0))) := ⟨(by rw [hw]; exact (zk BK822.out))⟩; have n6_ : Aside0 (w34.heap[gb831]? = some (.cells #[.bool t823, .slice Ao28 t824.length co28] 27 (0, 0))) := ⟨(by rw [hw]; exact (zk BK831.out))⟩; have n7_ : Aside0 (w34.heap[gb832]? = some (.cells #[.bool t827, .slice Ao33 t828.length co33] 27 (0, 0))) := ⟨(by rw [hw]; exact (by (with_reducible repeat (first | refine blk_drewN ?_ _ | refine blk_drew ?_ | refine blk_alloc ?_ _)); refine blk_put (cs := #[.bool t827, .slice none 0 0]) ?_ 1 _ rfl; (with_reducible repeat (first | refine blk_drewN ?_ _ | refine blk_drew ?_ | refine blk_alloc ?_ _)); refine blk_put (cs := #[.bool false, .slice none 0 0]) ?_ 0 _ rfl; (with_reducible repeat (first | refine blk_drewN ?_ _ | refine blk_drew ?_ | refine blk_alloc ?_ _)); exact BK832.out))⟩; have n8_ : Aside0 (Below w.heap.size w w34) := ⟨(by rw [hw]; exact zb)⟩; clear hw; clear HO816; clear HO820; clear HO826; clear HO830; clear BK821; clear BK822; clear BK831; clear BK832; clear HB; have HO816 := n0_; have HO820 := n1_; have HO826 := n2_; have HO830 := n3_; have BK821 := n4_; have BK822 := n5_; have BK831 := n6_; have BK832 := n7_; have HB := n8_; clear n0_ n1_ n2_ n3_ n4_ n5_ n6_ n7_ n8_; have hcz35_0 : w34.cell? ⟨gb821, 0, none⟩ = some (.bool t813) := (blk_cell BK821.out 0).trans rfl; have hcz35_1 : w34.cell? ⟨gb821, 1, none⟩ = some (.slice Ao18 t814.length co18) := (blk_cell BK821.out 1).trans rfl; have hfz35_0 := blk_frozen BK821.out 0; have hfz35_1 := blk_frozen BK821.out 1; have hcz36_0 : w34.cell? ⟨gb822, 0, none⟩ = some (.bool t817) := (blk_cell BK822.out 0).trans rfl; have hcz36_1 : w34.cell? ⟨gb822, 1, none⟩ = some (.slice Ao20 t818.length co20) := (blk_cell BK822.out 1).trans rfl; have hfz36_0 := blk_frozen BK822.out 0; have hfz36_1 := blk_frozen BK822.out 1) | ((with_reducible refine gate_callee (f := 33) rfl ?_); refine goesL_ (some 42) rfl rfl Try.func33 (by kernel_rfl) rfl #[.agg #[.bool t813, .slice Ao18 t814.length co18], .agg #[.bool t817, .slice Ao20 t818.length co20]] rfl za ?_; (with_reducible refine (impl_BigMul.calls kj2 t813 (fun k_ => some k_ = (.slice Ao18 t814.length co18 : Value).ownBlock) _ _ t814 t817 (fun k_ => some k_ = (.slice Ao20 t818.length co20 : Value).ownBlock) _ _ t818 t833 t834 t837 _ ?side1 ?side2 A8.out).mono ?_); (case side1 => exact Kd.R_V (Kd.R_tight rfl (Kd.R_types (Kd.R_types (Kd.R_types (Kd.R_types (HO816.out) BK821.out (by decide)) BK822.out (by decide)) BK831.out (by decide)) BK832.out (by decide)))); (case side2 => exact Kd.R_V (Kd.R_tight rfl (Kd.R_types (Kd.R_types (Kd.R_types (Kd.R_types (HO820.out) BK821.out (by decide)) BK822.out (by decide)) BK831.out (by decide)) BK832.out (by decide)))); rintro e w37 ⟨v835, rfl, ho0, hb⟩; refine ⟨_, rfl, ?_⟩; have n0_ := Aside0.mk (Kd.R_below (zR HO816.out) hb); have n1_ := Aside0.mk (Kd.R_below (zR HO820.out) hb); have n2_ := Aside0.mk (Kd.R_below (zR HO826.out) hb); have n3_ := Aside0.mk (Kd.R_below (zR HO830.out) hb); have n4_ := Aside0.mk (Kd.V_lower (Kd.V_mono (ok' := fun k_ => some k_ ≠ (.slice Ao28 t824.length co28 : Value).ownBlock ∧ some k_ ≠ (.slice Ao33 t828.length co33 : Value).ownBlock ∧ k_ ≠ gb821 ∧ k_ ≠ gb822 ∧ k_ ≠ gb831 ∧ k_ ≠ gb832) ho0 (fun k_ hk_ => ⟨Or.elim hk_ (fun hs_ => Or.elim hs_ (fun hs_ => ((Kd.R_types (Kd.R_types (Kd.R_types (Kd.R_types (HO816.out) BK821.out (by decide)) BK822.out (by decide)) BK831.out (by decide)) BK832.out (by decide)).1 k_ hs_.symm).1.1.1.1.2.1) (fun hs_ => ((Kd.R_types (Kd.R_types (Kd.R_types (Kd.R_types (HO820.out) BK821.out (by decide)) BK822.out (by decide)) BK831.out (by decide)) BK832.out (by decide)).1 k_ hs_.symm).1.1.1.1.2.1)) (fun hn_ => (Kd.fresh' (Kd.R_lt (zR HO826.out)) k_ hn_)), Or.elim hk_ (fun hs_ => Or.elim hs_ (fun hs_ => ((Kd.R_types (Kd.R_types (Kd.R_types (Kd.R_types (HO816.out) BK821.out (by decide)) BK822.out (by decide)) BK831.out (by decide)) BK832.out (by decide)).1 k_ hs_.symm).1.1.1.1.2.2) (fun hs_ => ((Kd.R_types (Kd.R_types (Kd.R_types (Kd.R_types (HO820.out) BK821.out (by decide)) BK822.out (by decide)) BK831.out (by decide)) BK832.out (by decide)).1 k_ hs_.symm).1.1.1.1.2.2)) (fun hn_ => (Kd.fresh' (Kd.R_lt (zR HO830.out)) k_ hn_)), Or.elim hk_ (fun hs_ => Or.elim hs_ (fun hs_ => ((Kd.R_types (Kd.R_types (Kd.R_types (Kd.R_types (HO816.out) BK821.out (by decide)) BK822.out (by decide)) BK831.out (by decide)) BK832.out (by decide)).1 k_ hs_.symm).1.1.1.2) (fun hs_ => ((Kd.R_types (Kd.R_types (Kd.R_types (Kd.R_types (HO820.out) BK821.out (by decide)) BK822.out (by decide)) BK831.out (by decide)) BK832.out (by decide)).1 k_ hs_.symm).1.1.1.2)) (fun hn_ => (Kd.freshB (g := gb821) (o := .cells #[.bool t813, .slice Ao18 t814.length co18] 27 (0, 0)) (zk BK821.out) k_ hn_)), Or.elim hk_ (fun hs_ => Or.elim hs_ (fun hs_ => ((Kd.R_types (Kd.R_types (Kd.R_types (Kd.R_types (HO816.out) BK821.out (by decide)) BK822.out (by decide)) BK831.out (by decide)) BK832.out (by decide)).1 k_ hs_.symm).1.1.2) (fun hs_ => ((Kd.R_types (Kd.R_types (Kd.R_types (Kd.R_types (HO820.out) BK821.out (by decide)) BK822.out (by decide)) BK831.out (by decide)) BK832.out (by decide)).1 k_ hs_.symm).1.1.2)) (fun hn_ => (Kd.freshB (g := gb822) (o := .cells #[.bool t817, .slice Ao20 t818.length co20] 27 (0, 0)) (zk BK822.out) k_ hn_)), Or.elim hk_ (fun hs_ => Or.elim hs_ (fun hs_ => ((Kd.R_types (Kd.R_types (Kd.R_types (Kd.R_types (HO816.out) BK821.out (by decide)) BK822.out (by decide)) BK831.out (by decide)) BK832.out (by decide)).1 k_ hs_.symm).1.2) (fun hs_ => ((Kd.R_types (Kd.R_types (Kd.R_types (Kd.R_types (HO820.out) BK821.out (by decide)) BK822.out (by decide)) BK831.out (by decide)) BK832.out (by decide)).1 k_ hs_.symm).1.2)) (fun hn_ => (Kd.freshB (g := gb831) (o := .cells #[.bool t823, .slice Ao28 t824.length co28] 27 (0, 0)) (zk BK831.out) k_ hn_)), Or.elim hk_ (fun hs_ => Or.elim hs_ (fun hs_ => ((Kd.R_types (Kd.R_types (Kd.R_types (Kd.R_types (HO816.out) BK821.out (by decide)) BK822.out (by decide)) BK831.out (by decide)) BK832.out (by decide)).1 k_ hs_.symm).2) (fun hs_ => ((Kd.R_types (Kd.R_types (Kd.R_types (Kd.R_types (HO820.out) BK821.out (by decide)) BK822.out (by decide)) BK831.out (by decide)) BK832.out (by decide)).1 k_ hs_.symm).2)) (fun hn_ => (Kd.freshB (g := gb832) (o := .cells #[.bool t827, .slice Ao33 t828.length co33] 27 (0, 0)) (zk BK832.out) k_ hn_))⟩)) (below_size zb)); have n5_ := Aside0.mk (blk_below (g := gb821) (o := .cells #[.bool t813, .slice Ao18 t814.length co18] 27 (0, 0)) (zk BK821.out) hb); have n6_ := Aside0.mk (blk_below (g := gb822) (o := .cells #[.bool t817, .slice Ao20 t818.length co20] 27 (0, 0)) (zk BK822.out) hb); have n7_ := Aside0.mk (blk_below (g := gb831) (o := .cells #[.bool t823, .slice Ao28 t824.length co28] 27 (0, 0)) (zk BK831.out) hb); have n8_ := Aside0.mk (blk_below (g := gb832) (o := .cells #[.bool t827, .slice Ao33 t828.length co33] 27 (0, 0)) (zk BK832.out) hb); have n9_ := Aside0.mk (below_step zb hb); clear HO816; clear HO820; clear HO826; clear HO830; clear BK821; clear BK822; clear BK831; clear BK832; clear HB; have HO816 := n0_; have HO820 := n1_; have HO826 := n2_; have HO830 := n3_; have HO836 := n4_; have BK821 := n5_; have BK822 := n6_; have BK831 := n7_; have BK832 := n8_; have HB := n9_; clear n0_ n1_ n2_ n3_ n4_ n5_ n6_ n7_ n8_ n9_; (try clear hb); (try clear hb2); (try clear hk); (try clear hi); (try clear ho0)) | ((with_reducible refine gate_dst (N := 9) rfl ?_); (try (refine gate_guard (by rfl) ?_; dsimp only)); refine box_event ?hg (N := 9) ?hd (cs := #[.bool false, .slice none 0 0]) (t := 27) ?hr ?_; (case hd => rfl); (case hg => rfl); (case hr => first | (go_simp; done) | (go_simp; rfl)); intro gb838 hg w38 hbox hb; have n0_ := Aside0.mk (Kd.R_below (zR HO816.out) hb); have n1_ := Aside0.mk (Kd.R_below (zR HO820.out) hb); have n2_ := Aside0.mk (Kd.R_below (zR HO826.out) hb); have n3_ := Aside0.mk (Kd.R_below (zR HO830.out) hb); have n4_ := Aside0.mk (Kd.V_below (Kd.V_elderB (zV HO836.out) gb838 (Nat.le_of_eq hg.symm)) hb); have n5_ := Aside0.mk (blk_below (g := gb821) (o := .cells #[.bool t813, .slice Ao18 t814.length co18] 27 (0, 0)) (zk BK821.out) hb); have n6_ := Aside0.mk (blk_below (g := gb822) (o := .cells #[.bool t817, .slice Ao20 t818.length co20] 27 (0, 0)) (zk BK822.out) hb); have n7_ := Aside0.mk (blk_below (g := gb831) (o := .cells #[.bool t823, .slice Ao28 t824.length co28] 27 (0, 0)) (zk BK831.out) hb); have n8_ := Aside0.mk (blk_below (g := gb832) (o := .cells #[.bool t827, .slice Ao33 t828.length co33] 27 (0, 0)) (zk BK832.out) hb); have n9_ := Aside0.mk (below_step zb hb); have n10_ := Aside0.mk (hbox); have n11_ := Aside0.mk ((by rw [hg]; exact (below_size zb) : w.heap.size ≤ gb838)); have n12_ := Aside0.mk ((by rw [hg]; exact (below_size zb) : w.heap.size ≤ gb838)); have n13_ := Aside0.mk ((by rw [hg]; exact Nat.ne_of_lt (blk_lt (g := gb821) (o := .cells #[.bool t813, .slice Ao18 t814.length co18] 27 (0, 0)) (zk BK821.out)) : gb821 ≠ gb838)); have n14_ := Aside0.mk ((by rw [hg]; exact Nat.ne_of_gt (blk_lt (g := gb821) (o := .cells #[.bool t813, .slice Ao18 t814.length co18] 27 (0, 0)) (zk BK821.out)) : gb838 ≠ gb821)); have n15_ := Aside0.mk ((by rw [hg]; exact Nat.ne_of_lt (blk_lt (g := gb822) (o := .cells #[.bool t817, .slice Ao20 t818.length co20] 27 (0, 0)) (zk BK822.out)) : gb822 ≠ gb838)); have n16_ := Aside0.mk ((by rw [hg]; exact Nat.ne_of_gt (blk_lt (g := gb822) (o := .cells #[.bool t817, .slice Ao20 t818.length co20] 27 (0, 0)) (zk BK822.out)) : gb838 ≠ gb822)); have n17_ := Aside0.mk ((by rw [hg]; exact Nat.ne_of_lt (blk_lt (g := gb831) (o := .cells #[.bool t823, .slice Ao28 t824.length co28] 27 (0, 0)) (zk BK831.out)) : gb831 ≠ gb838)); have n18_ := Aside0.mk ((by rw [hg]; exact Nat.ne_of_gt (blk_lt (g := gb831) (o := .cells #[.bool t823, .slice Ao28 t824.length co28] 27 (0, 0)) (zk BK831.out)) : gb838 ≠ gb831)); have n19_ := Aside0.mk ((by rw [hg]; exact Nat.ne_of_lt (blk_lt (g := gb832) (o := .cells #[.bool t827, .slice Ao33 t828.length co33] 27 (0, 0)) (zk BK832.out)) : gb832 ≠ gb838)); have n20_ := Aside0.mk ((by rw [hg]; exact Nat.ne_of_gt (blk_lt (g := gb832) (o := .cells #[.bool t827, .slice Ao33 t828.length co33] 27 (0, 0)) (zk BK832.out)) : gb838 ≠ gb832)); clear HO816; clear HO820; clear HO826; clear HO830; clear HO836; clear BK821; clear BK822; clear BK831; clear BK832; clear HB; have HO816 := n0_; have HO820 := n1_; have HO826 := n2_; have HO830 := n3_; have HO836 := n4_; have BK821 := n5_; have BK822 := n6_; have BK831 := n7_; have BK832 := n8_; have HB := n9_; have BK838 := n10_; have GW838 := n11_; have GE838 := n12_; have NB821_838 := n13_; have NB838_821 := n14_; have NB822_838 := n15_; have NB838_822 := n16_; have NB831_838 := n17_; have NB838_831 := n18_; have NB832_838 := n19_; have NB838_832 := n20_; clear n0_ n1_ n2_ n3_ n4_ n5_ n6_ n7_ n8_ n9_ n10_ n11_ n12_ n13_ n14_ n15_ n16_ n17_ n18_ n19_ n20_; clear hb hbox hg; have hnb39 := NB838_821.out; have hnc39 := NB821_838.out; have hnb40 := NB838_822.out; have hnc40 := NB822_838.out; have hnb41 := NB838_831.out; have hnc41 := NB831_838.out; have hnb42 := NB838_832.out; have hnc42 := NB832_838.out; have hcz43_0 : w38.cell? ⟨gb838, 0, none⟩ = some (.bool false) := (blk_cell BK838.out 0).trans rfl; have hcz43_1 : w38.cell? ⟨gb838, 1, none⟩ = some (.slice none 0 0) := (blk_cell BK838.out 1).trans rfl; have hfz43_0 := blk_frozen BK838.out 0; have hfz43_1 := blk_frozen BK838.out 1; obtain ⟨Ao44, co44, eo44⟩ := Kd.V_slice HO836.out; subst eo44; have hcz45_0 : w38.cell? ⟨gb821, 0, none⟩ = some (.bool t813) := (blk_cell BK821.out 0).trans rfl; have hcz45_1 : w38.cell? ⟨gb821, 1, none⟩ = some (.slice Ao18 t814.length co18) := (blk_cell BK821.out 1).trans rfl; have hfz45_0 := blk_frozen BK821.out 0; have hfz45_1 := blk_frozen BK821.out 1; have hcz46_0 : w38.cell? ⟨gb822, 0, none⟩ = some (.bool t817) := (blk_cell BK822.out 0).trans rfl; have hcz46_1 : w38.cell? ⟨gb822, 1, none⟩ = some (.slice Ao20 t818.length co20) := (blk_cell BK822.out 1).trans rfl; have hfz46_0 := blk_frozen BK822.out 0; have hfz46_1 := blk_frozen BK822.out 1) | ((with_reducible refine gate_callee (f := 36) rfl ?_); refine goesL_ (some 48) rfl rfl Try.func36 (by kernel_rfl) rfl #[.agg #[.bool t813, .slice Ao18 t814.length co18], .agg #[.bool t817, .slice Ao20 t818.length co20]] rfl za ?_; (with_reducible refine (spec_BigMul.calls kj2 t813 _ _ t814 t817 _ _ t818 t839 t840 t843 _ ?side1 ?side2 ?side3 ?side4 A9.out).mono ?_); (case side1 => refine (Kd.R_reads' (e := 3) (base := w.heap.size) (ok := fun k_ => (some k_ ≠ (.slice Ao20 t818.length co20 : Value).ownBlock ∧ (some k_ ≠ (.slice Ao28 t824.length co28 : Value).ownBlock ∧ some k_ ≠ (.slice Ao33 t828.length co33 : Value).ownBlock))) (n := t814.length) (c := co18) ?_).2.2; exact (by (with_reducible repeat (first | apply Kd.R_alloc | apply Kd.R_drewN | apply Kd.R_drew)); exact (Kd.R_mono (Kd.R_far (p := ⟨gb838, 1, none⟩) (Kd.R_far (p := ⟨gb838, 0, none⟩) (Kd.R_types HO816.out BK838.out (by decide)) (fun _ hk => hk.2) (.bool t833)) (fun _ hk => hk.2) (.slice Ao44 t834.length co44)) (fun _ h_ => h_.1)))); (case side2 => exact (Kd.R_reads' HO816.out).2.1); (case side3 => refine (Kd.R_reads' (e := 3) (base := w.heap.size) (ok := fun k_ => (some k_ ≠ (.slice Ao18 t814.length co18 : Value).ownBlock ∧ (some k_ ≠ (.slice Ao28 t824.length co28 : Value).ownBlock ∧ some k_ ≠ (.slice Ao33 t828.length co33 : Value).ownBlock))) (n := t818.length) (c := co20) ?_).2.2; exact (by (with_reducible repeat (first | apply Kd.R_alloc | apply Kd.R_drewN | apply Kd.R_drew)); exact (Kd.R_mono (Kd.R_far (p := ⟨gb838, 1, none⟩) (Kd.R_far (p := ⟨gb838, 0, none⟩) (Kd.R_types HO820.out BK838.out (by decide)) (fun _ hk => hk.2) (.bool t833)) (fun _ hk => hk.2) (.slice Ao44 t834.length co44)) (fun _ h_ => h_.1)))); (case side4 => exact (Kd.R_reads' HO820.out).2.1); rintro e w47 ⟨v841, rfl, ho0, hb⟩; refine ⟨_, rfl, ?_⟩; have n0_ := Aside0.mk (Kd.R_elder' (by (with_reducible repeat (first | apply Kd.R_alloc | apply Kd.R_drewN | apply Kd.R_drew)); exact (Kd.R_mono (Kd.R_far (p := ⟨gb838, 1, none⟩) (Kd.R_far (p := ⟨gb838, 0, none⟩) (Kd.R_types HO816.out BK838.out (by decide)) (fun _ hk => hk.2) (.bool t833)) (fun _ hk => hk.2) (.slice Ao44 t834.length co44)) (fun _ h_ => h_.1))) (Kd.R_base ho0) hb); have n1_ := Aside0.mk (Kd.R_elder' (by (with_reducible repeat (first | apply Kd.R_alloc | apply Kd.R_drewN | apply Kd.R_drew)); exact (Kd.R_mono (Kd.R_far (p := ⟨gb838, 1, none⟩) (Kd.R_far (p := ⟨gb838, 0, none⟩) (Kd.R_types HO820.out BK838.out (by decide)) (fun _ hk => hk.2) (.bool t833)) (fun _ hk => hk.2) (.slice Ao44 t834.length co44)) (fun _ h_ => h_.1))) (Kd.R_base ho0) hb); have n2_ := Aside0.mk (Kd.R_elder' (by (with_reducible repeat (first | apply Kd.R_alloc | apply Kd.R_drewN | apply Kd.R_drew)); exact (Kd.R_mono (Kd.R_far (p := ⟨gb838, 1, none⟩) (Kd.R_far (p := ⟨gb838, 0, none⟩) (Kd.R_types HO826.out BK838.out (by decide)) (fun _ hk => hk.2) (.bool t833)) (fun _ hk => hk.2) (.slice Ao44 t834.length co44)) (fun _ h_ => h_.1))) (Kd.R_base ho0) hb); have n3_ := Aside0.mk (Kd.R_elder' (by (with_reducible repeat (first | apply Kd.R_alloc | apply Kd.R_drewN | apply Kd.R_drew)); exact (Kd.R_mono (Kd.R_far (p := ⟨gb838, 1, none⟩) (Kd.R_far (p := ⟨gb838, 0, none⟩) (Kd.R_types HO830.out BK838.out (by decide)) (fun _ hk => hk.2) (.bool t833)) (fun _ hk => hk.2) (.slice Ao44 t834.length co44)) (fun _ h_ => h_.1))) (Kd.R_base ho0) hb); have n4_ := Aside0.mk (Kd.V_elder' (by (with_reducible repeat (first | apply Kd.V_alloc | apply Kd.V_drewN | apply Kd.V_drew)); exact (Kd.V_mono (Kd.V_far (p := ⟨gb838, 1, none⟩) (Kd.V_far (p := ⟨gb838, 0, none⟩) (Kd.V_mono HO836.out (fun k_ hk => (⟨hk, hk.2⟩ : _ ∧ k_ ≠ gb838))) (fun _ hk => hk.2) (.bool t833)) (fun _ hk => hk.2) (.slice Ao44 t834.length co44)) (fun _ h_ => h_.1))) (Kd.R_base ho0) hb); have n5_ := Aside0.mk (Kd.R_lower (Kd.R_new' (Kd.R_new' (Kd.R_new' (Kd.R_new' ho0 (Kd.R_lt (by (with_reducible repeat (first | apply Kd.R_alloc | apply Kd.R_drewN | apply Kd.R_drew)); exact (Kd.R_mono (Kd.R_far (p := ⟨gb838, 1, none⟩) (Kd.R_far (p := ⟨gb838, 0, none⟩) (Kd.R_types HO816.out BK838.out (by decide)) (fun _ hk => hk.2) (.bool t833)) (fun _ hk => hk.2) (.slice Ao44 t834.length co44)) (fun _ h_ => h_.1))))) (Kd.R_lt (by (with_reducible repeat (first | apply Kd.R_alloc | apply Kd.R_drewN | apply Kd.R_drew)); exact (Kd.R_mono (Kd.R_far (p := ⟨gb838, 1, none⟩) (Kd.R_far (p := ⟨gb838, 0, none⟩) (Kd.R_types HO820.out BK838.out (by decide)) (fun _ hk => hk.2) (.bool t833)) (fun _ hk => hk.2) (.slice Ao44 t834.length co44)) (fun _ h_ => h_.1))))) (Kd.R_lt (by (with_reducible repeat (first | apply Kd.R_alloc | apply Kd.R_drewN | apply Kd.R_drew)); exact (Kd.R_mono (Kd.R_far (p := ⟨gb838, 1, none⟩) (Kd.R_far (p := ⟨gb838, 0, none⟩) (Kd.R_types HO826.out BK838.out (by decide)) (fun _ hk => hk.2) (.bool t833)) (fun _ hk => hk.2) (.slice Ao44 t834.length co44)) (fun _ h_ => h_.1))))) (Kd.R_lt (by (with_reducible repeat (first | apply Kd.R_alloc | apply Kd.R_drewN | apply Kd.R_drew)); exact (Kd.R_mono (Kd.R_far (p := ⟨gb838, 1, none⟩) (Kd.R_far (p := ⟨gb838, 0, none⟩) (Kd.R_types HO830.out BK838.out (by decide)) (fun _ hk => hk.2) (.bool t833)) (fun _ hk => hk.2) (.slice Ao44 t834.length co44)) (fun _ h_ => h_.1))))) (below_size zb)); have n6_ := Aside0.mk (blk_below (g := gb821) (o := .cells #[.bool t813, .slice Ao18 t814.length co18] 27 (0, 0)) (zk BK821.out) hb); have n7_ := Aside0.mk (blk_below (g := gb822) (o := .cells #[.bool t817, .slice Ao20 t818.length co20] 27 (0, 0)) (zk BK822.out) hb); have n8_ := Aside0.mk (blk_below (g := gb831) (o := .cells #[.bool t823, .slice Ao28 t824.length co28] 27 (0, 0)) (zk BK831.out) hb); have n9_ := Aside0.mk (blk_below (g := gb832) (o := .cells #[.bool t827, .slice Ao33 t828.length co33] 27 (0, 0)) (zk BK832.out) hb); have n10_ := Aside0.mk (blk_below (g := gb838) (o := .cells #[.bool t833, .slice Ao44 t834.length co44] 27 (0, 0)) (by (with_reducible repeat (first | refine blk_drewN ?_ _ | refine blk_drew ?_ | refine blk_alloc ?_ _)); refine blk_put (cs := #[.bool t833, .slice none 0 0]) ?_ 1 _ rfl; (with_reducible repeat (first | refine blk_drewN ?_ _ | refine blk_drew ?_ | refine blk_alloc ?_ _)); refine blk_put (cs := #[.bool false, .slice none 0 0]) ?_ 0 _ rfl; (with_reducible repeat (first | refine blk_drewN ?_ _ | refine blk_drew ?_ | refine blk_alloc ?_ _)); exact BK838.out) hb); have n11_ := Aside0.mk (below_step zb hb); clear HO816; clear HO820; clear HO826; clear HO830; clear HO836; clear BK821; clear BK822; clear BK831; clear BK832; clear BK838; clear HB; have HO816 := n0_; have HO820 := n1_; have HO826 := n2_; have HO830 := n3_; have HO836 := n4_; have HO842 := n5_; have BK821 := n6_; have BK822 := n7_; have BK831 := n8_; have BK832 := n9_; have BK838 := n10_; have HB := n11_; clear n0_ n1_ n2_ n3_ n4_ n5_ n6_ n7_ n8_ n9_ n10_ n11_; (try clear hb); (try clear hb2); (try clear hk); (try clear hi); (try clear ho0)) | ((with_reducible refine gate_dst (N := 11) rfl ?_); (try (refine gate_guard (by rfl) ?_; dsimp only)); refine box_event ?hg (N := 11) ?hd (cs := #[.bool false, .slice none 0 0]) (t := 27) ?hr ?_; (case hd => rfl); (case hg => rfl); (case hr => first | (go_simp; done) | (go_simp; rfl)); intro gb844 hg w48 hbox hb; have n0_ := Aside0.mk (Kd.R_below (zR HO816.out) hb); have n1_ := Aside0.mk (Kd.R_below (zR HO820.out) hb); have n2_ := Aside0.mk (Kd.R_below (zR HO826.out) hb); have n3_ := Aside0.mk (Kd.R_below (zR HO830.out) hb); have n4_ := Aside0.mk (Kd.V_below (Kd.V_elderB (zV HO836.out) gb844 (Nat.le_of_eq hg.symm)) hb); have n5_ := Aside0.mk (Kd.R_below (zR HO842.out) hb); have n6_ := Aside0.mk (blk_below (g := gb821) (o := .cells #[.bool t813, .slice Ao18 t814.length co18] 27 (0, 0)) (zk BK821.out) hb); have n7_ := Aside0.mk (blk_below (g := gb822) (o := .cells #[.bool t817, .slice Ao20 t818.length co20] 27 (0, 0)) (zk BK822.out) hb); have n8_ := Aside0.mk (blk_below (g := gb831) (o := .cells #[.bool t823, .slice Ao28 t824.length co28] 27 (0, 0)) (zk BK831.out) hb); have n9_ := Aside0.mk (blk_below (g := gb832) (o := .cells #[.bool t827, .slice Ao33 t828.length co33] 27 (0, 0)) (zk BK832.out) hb); have n10_ := Aside0.mk (blk_below (g := gb838) (o := .cells #[.bool t833, .slice Ao44 t834.length co44] 27 (0, 0)) (zk BK838.out) hb); have n11_ := Aside0.mk (below_step zb hb); have n12_ := Aside0.mk (hbox); have n13_ := Aside0.mk ((by rw [hg]; exact (below_size zb) : w.heap.size ≤ gb844)); have n14_ := Aside0.mk ((by rw [hg]; exact (below_size zb) : w.heap.size ≤ gb844)); have n15_ := Aside0.mk ((by rw [hg]; exact Nat.ne_of_lt (blk_lt (g := gb821) (o := .cells #[.bool t813, .slice Ao18 t814.length co18] 27 (0, 0)) (zk BK821.out)) : gb821 ≠ gb844)); have n16_ := Aside0.mk ((by rw [hg]; exact Nat.ne_of_gt (blk_lt (g := gb821) (o := .cells #[.bool t813, .slice Ao18 t814.length co18] 27 (0, 0)) (zk BK821.out)) : gb844 ≠ gb821)); have n17_ := Aside0.mk ((by rw [hg]; exact Nat.ne_of_lt (blk_lt (g := gb822) (o := .cells #[.bool t817, .slice Ao20 t818.length co20] 27 (0, 0)) (zk BK822.out)) : gb822 ≠ gb844)); have n18_ := Aside0.mk ((by rw [hg]; exact Nat.ne_of_gt (blk_lt (g := gb822) (o := .cells #[.bool t817, .slice Ao20 t818.length co20] 27 (0, 0)) (zk BK822.out)) : gb844 ≠ gb822)); have n19_ := Aside0.mk ((by rw [hg]; exact Nat.ne_of_lt (blk_lt (g := gb831) (o := .cells #[.bool t823, .slice Ao28 t824.length co28] 27 (0, 0)) (zk BK831.out)) : gb831 ≠ gb844)); have n20_ := Aside0.mk ((by rw [hg]; exact Nat.ne_of_gt (blk_lt (g := gb831) (o := .cells #[.bool t823, .slice Ao28 t824.length co28] 27 (0, 0)) (zk BK831.out)) : gb844 ≠ gb831)); have n21_ := Aside0.mk ((by rw [hg]; exact Nat.ne_of_lt (blk_lt (g := gb832) (o := .cells #[.bool t827, .slice Ao33 t828.length co33] 27 (0, 0)) (zk BK832.out)) : gb832 ≠ gb844)); have n22_ := Aside0.mk ((by rw [hg]; exact Nat.ne_of_gt (blk_lt (g := gb832) (o := .cells #[.bool t827, .slice Ao33 t828.length co33] 27 (0, 0)) (zk BK832.out)) : gb844 ≠ gb832)); have n23_ := Aside0.mk ((by rw [hg]; exact Nat.ne_of_lt (blk_lt (g := gb838) (o := .cells #[.bool t833, .slice Ao44 t834.length co44] 27 (0, 0)) (zk BK838.out)) : gb838 ≠ gb844)); have n24_ := Aside0.mk ((by rw [hg]; exact Nat.ne_of_gt (blk_lt (g := gb838) (o := .cells #[.bool t833, .slice Ao44 t834.length co44] 27 (0, 0)) (zk BK838.out)) : gb844 ≠ gb838)); clear HO816; clear HO820; clear HO826; clear HO830; clear HO836; clear HO842; clear BK821; clear BK822; clear BK831; clear BK832; clear BK838; clear HB; have HO816 := n0_; have HO820 := n1_; have HO826 := n2_; have HO830 := n3_; have HO836 := n4_; have HO842 := n5_; have BK821 := n6_; have BK822 := n7_; have BK831 := n8_; have BK832 := n9_; have BK838 := n10_; have HB := n11_; have BK844 := n12_; have GW844 := n13_; have GE844 := n14_; have NB821_844 := n15_; have NB844_821 := n16_; have NB822_844 := n17_; have NB844_822 := n18_; have NB831_844 := n19_; have NB844_831 := n20_; have NB832_844 := n21_; have NB844_832 := n22_; have NB838_844 := n23_; have NB844_838 := n24_; clear n0_ n1_ n2_ n3_ n4_ n5_ n6_ n7_ n8_ n9_ n10_ n11_ n12_ n13_ n14_ n15_ n16_ n17_ n18_ n19_ n20_ n21_ n22_ n23_ n24_; clear hb hbox hg; have hnb49 := NB844_821.out; have hnc49 := NB821_844.out; have hnb50 := NB844_822.out; have hnc50 := NB822_844.out; have hnb51 := NB844_831.out; have hnc51 := NB831_844.out; have hnb52 := NB844_832.out; have hnc52 := NB832_844.out; have hnb53 := NB844_838.out; have hnc53 := NB838_844.out; have hcz54_0 : w48.cell? ⟨gb844, 0, none⟩ = some (.bool false) := (blk_cell BK844.out 0).trans rfl; have hcz54_1 : w48.cell? ⟨gb844, 1, none⟩ = some (.slice none 0 0) := (blk_cell BK844.out 1).trans rfl; have hfz54_0 := blk_frozen BK844.out 0; have hfz54_1 := blk_frozen BK844.out 1; obtain ⟨Ao55, co55, eo55⟩ := Kd.R_slice HO842.out; subst eo55) | ((with_reducible refine gate_store (t := 27) (p := 11) rfl ?_); refine store_event (t := 27) (p := 11) (v := ?vo_w56) (w1 := ((w48.setCell ⟨gb844, 0, none⟩ (.bool t839)).setCell ⟨gb844, 1, none⟩ (.slice Ao55 t840.length co55))) ?hg ?ho ?hn ?hr ?_; (case ho => rfl); (case hg => rfl); (case hn => rfl); (case hr => first | (go_simp; done) | (go_simp; rfl)); intro w56 hw; have n0_ : Aside0 (Kd.R (Kd.int .i64) 3 w56 w.heap.size (fun k_ => some k_ ≠ (.slice Ao20 t818.length co20 : Value).ownBlock ∧ some k_ ≠ (.slice Ao28 t824.length co28 : Value).ownBlock ∧ some k_ ≠ (.slice Ao33 t828.length co33 : Value).ownBlock ∧ some k_ ≠ (.slice Ao55 t840.length co55 : Value).ownBlock) (.slice Ao18 t814.length co18) t814) := ⟨(by rw [hw]; exact (by (with_reducible repeat (first | apply Kd.R_alloc | apply Kd.R_drewN | apply Kd.R_drew)); exact Kd.R_mono (Kd.R_far (p := ⟨gb844, 1, none⟩) (Kd.R_far (p := ⟨gb844, 0, none⟩) (Kd.R_types HO816.out BK844.out (by decide)) (fun _ hk => hk.2) (.bool t839)) (fun _ hk => hk.2) (.slice Ao55 t840.length co55)) (fun _ hk => ⟨hk.1.1.1, ⟨hk.1.1.2.1, ⟨hk.1.1.2.2, hk.1.2⟩⟩⟩)))⟩; have n1_ : Aside0 (Kd.R (Kd.int .i64) 3 w56 w.heap.size (fun k_ => some k_ ≠ (.slice Ao18 t814.length co18 : Value).ownBlock ∧ some k_ ≠ (.slice Ao28 t824.length co28 : Value).ownBlock ∧ some k_ ≠ (.slice Ao33 t828.length co33 : Value).ownBlock ∧ some k_ ≠ (.slice Ao55 t840.length co55 : Value).ownBlock) (.slice Ao20 t818.length co20) t818) := ⟨(by rw [hw]; exact (by (with_reducible repeat (first | apply Kd.R_alloc | apply Kd.R_drewN | apply Kd.R_drew)); exact Kd.R_mono (Kd.R_far (p := ⟨gb844, 1, none⟩) (Kd.R_far (p := ⟨gb844, 0, none⟩) (Kd.R_types HO820.out BK844.out (by decide)) (fun _ hk => hk.2) (.bool t839)) (fun _ hk => hk.2) (.slice Ao55 t840.length co55)) (fun _ hk => ⟨hk.1.1.1, ⟨hk.1.1.2.1, ⟨hk.1.1.2.2, hk.1.2⟩⟩⟩)))⟩; have n2_ : Aside0 (Kd.R (Kd.int .i64) 3 w56 w.heap.size (fun k_ => some k_ ≠ (.slice Ao18 t814.length co18 : Value).ownBlock ∧ some k_ ≠ (.slice Ao20 t818.length co20 : Value).ownBlock ∧ some k_ ≠ (.slice Ao33 t828.length co33 : Value).ownBlock ∧ some k_ ≠ (.slice Ao55 t840.length co55 : Value).ownBlock) (.slice Ao28 t824.length co28) t824) := ⟨(by rw [hw]; exact (by (with_reducible repeat (first | apply Kd.R_alloc | apply Kd.R_drewN | apply Kd.R_drew)); exact Kd.R_mono (Kd.R_far (p := ⟨gb844, 1, none⟩) (Kd.R_far (p := ⟨gb844, 0, none⟩) (Kd.R_types HO826.out BK844.out (by decide)) (fun _ hk => hk.2) (.bool t839)) (fun _ hk => hk.2) (.slice Ao55 t840.length co55)) (fun _ hk => ⟨hk.1.1.1, ⟨hk.1.1.2.1, ⟨hk.1.1.2.2, hk.1.2⟩⟩⟩)))⟩; have n3_ : Aside0 (Kd.R (Kd.int .i64) 3 w56 w.heap.size (fun k_ => some k_ ≠ (.slice Ao18 t814.length co18 : Value).ownBlock ∧ some k_ ≠ (.slice Ao20 t818.length co20 : Value).ownBlock ∧ some k_ ≠ (.slice Ao28 t824.length co28 : Value).ownBlock ∧ some k_ ≠ (.slice Ao55 t840.length co55 : Value).ownBlock) (.slice Ao33 t828.length co33) t828) := ⟨(by rw [hw]; exact (by (with_reducible repeat (first | apply Kd.R_alloc | apply Kd.R_drewN | apply Kd.R_drew)); exact Kd.R_mono (Kd.R_far (p := ⟨gb844, 1, none⟩) (Kd.R_far (p := ⟨gb844, 0, none⟩) (Kd.R_types HO830.out BK844.out (by decide)) (fun _ hk => hk.2) (.bool t839)) (fun _ hk => hk.2) (.slice Ao55 t840.length co55)) (fun _ hk => ⟨hk.1.1.1, ⟨hk.1.1.2.1, ⟨hk.1.1.2.2, hk.1.2⟩⟩⟩)))⟩; have n4_ : Aside0 (Kd.V (Kd.int .i64) 3 w56 w.heap.size (fun k_ => some k_ ≠ (.slice Ao28 t824.length co28 : Value).ownBlock ∧ some k_ ≠ (.slice Ao33 t828.length co33 : Value).ownBlock ∧ some k_ ≠ (.slice Ao55 t840.length co55 : Value).ownBlock ∧ k_ ≠ gb821 ∧ k_ ≠ gb822 ∧ k_ ≠ gb831 ∧ k_ ≠ gb832 ∧ k_ ≠ gb838 ∧ k_ ≠ gb844) (.slice Ao44 t834.length co44) t834) := ⟨(by rw [hw]; exact (by (with_reducible repeat (first | apply Kd.V_alloc | apply Kd.V_drewN | apply Kd.V_drew)); exact Kd.V_mono (Kd.V_far (p := ⟨gb844, 1, none⟩) (Kd.V_far (p := ⟨gb844, 0, none⟩) (Kd.V_mono HO836.out (fun k_ hk => (⟨hk, hk.2⟩ : _ ∧ k_ ≠ gb844))) (fun _ hk => hk.2) (.bool t839)) (fun _ hk => hk.2) (.slice Ao55 t840.length co55)) (fun _ hk => ⟨hk.1.1.1.1.1, ⟨hk.1.1.1.1.2.1, ⟨hk.1.1.2, ⟨hk.1.1.1.1.2.2.1, ⟨hk.1.1.1.1.2.2.2.1, ⟨hk.1.1.1.1.2.2.2.2.1, ⟨hk.1.1.1.1.2.2.2.2.2, ⟨hk.1.1.1.2, hk.1.2⟩⟩⟩⟩⟩⟩⟩⟩)))⟩; have n5_ : Aside0 (Kd.R (Kd.int .i64) 3 w56 w.heap.size (fun k_ => some k_ ≠ (.slice Ao18 t814.length co18 : Value).ownBlock ∧ some k_ ≠ (.slice Ao20 t818.length co20 : Value).ownBlock ∧ some k_ ≠ (.slice Ao28 t824.length co28 : Value).ownBlock ∧ some k_ ≠ (.slice Ao33 t828.length co33 : Value).ownBlock) (.slice Ao55 t840.length co55) t840) := ⟨(by rw [hw]; exact (by (with_reducible repeat (first | apply Kd.R_alloc | apply Kd.R_drewN | apply Kd.R_drew)); exact Kd.R_mono (Kd.R_far (p := ⟨gb844, 1, none⟩) (Kd.R_far (p := ⟨gb844, 0, none⟩) (Kd.R_types HO842.out BK844.out (by decide)) (fun _ hk => hk.2) (.bool t839)) (fun _ hk => hk.2) (.slice Ao55 t840.length co55)) (fun _ hk => ⟨hk.1.1.1.1.2, ⟨hk.1.1.1.2, ⟨hk.1.1.2, hk.1.2⟩⟩⟩)))⟩; have n6_ : Aside0 (w56.heap[gb821]? = some (.cells #[.bool t813, .slice Ao18 t814.length co18] 27 (0, 0))) := ⟨(by rw [hw]; exact (zk BK821.out))⟩; have n7_ : Aside0 (w56.heap[gb822]? = some (.cells #[.bool t817, .slice Ao20 t818.length co20] 27 (0, 0))) := ⟨(by rw [hw]; exact (zk BK822.out))⟩; have n8_ : Aside0 (w56.heap[gb831]? = some (.cells #[.bool t823, .slice Ao28 t824.length co28] 27 (0, 0))) := ⟨(by rw [hw]; exact (zk BK831.out))⟩; have n9_ : Aside0 (w56.heap[gb832]? = some (.cells #[.bool t827, .slice Ao33 t828.length co33] 27 (0, 0))) := ⟨(by rw [hw]; exact (zk BK832.out))⟩; have n10_ : Aside0 (w56.heap[gb838]? = some (.cells #[.bool t833, .slice Ao44 t834.length co44] 27 (0, 0))) := ⟨(by rw [hw]; exact (zk BK838.out))⟩; have n11_ : Aside0 (w56.heap[gb844]? = some (.cells #[.bool t839, .slice Ao55 t840.length co55] 27 (0, 0))) := ⟨(by rw [hw]; exact (by (with_reducible repeat (first | refine blk_drewN ?_ _ | refine blk_drew ?_ | refine blk_alloc ?_ _)); refine blk_put (cs := #[.bool t839, .slice none 0 0]) ?_ 1 _ rfl; (with_reducible repeat (first | refine blk_drewN ?_ _ | refine blk_drew ?_ | refine blk_alloc ?_ _)); refine blk_put (cs := #[.bool false, .slice none 0 0]) ?_ 0 _ rfl; (with_reducible repeat (first | refine blk_drewN ?_ _ | refine blk_drew ?_ | refine blk_alloc ?_ _)); exact BK844.out))⟩; have n12_ : Aside0 (Below w.heap.size w w56) := ⟨(by rw [hw]; exact zb)⟩; clear hw; clear HO816; clear HO820; clear HO826; clear HO830; clear HO836; clear HO842; clear BK821; clear BK822; clear BK831; clear BK832; clear BK838; clear BK844; clear HB; have HO816 := n0_; have HO820 := n1_; have HO826 := n2_; have HO830 := n3_; have HO836 := n4_; have HO842 := n5_; have BK821 := n6_; have BK822 := n7_; have BK831 := n8_; have BK832 := n9_; have BK838 := n10_; have BK844 := n11_; have HB := n12_; clear n0_ n1_ n2_ n3_ n4_ n5_ n6_ n7_ n8_ n9_ n10_ n11_ n12_; have hcz57_0 : w56.cell? ⟨gb821, 0, none⟩ = some (.bool t813) := (blk_cell BK821.out 0).trans rfl; have hcz57_1 : w56.cell? ⟨gb821, 1, none⟩ = some (.slice Ao18 t814.length co18) := (blk_cell BK821.out 1).trans rfl; have hfz57_0 := blk_frozen BK821.out 0; have hfz57_1 := blk_frozen BK821.out 1; have hcz58_0 : w56.cell? ⟨gb831, 0, none⟩ = some (.bool t823) := (blk_cell BK831.out 0).trans rfl; have hcz58_1 : w56.cell? ⟨gb831, 1, none⟩ = some (.slice Ao28 t824.length co28) := (blk_cell BK831.out 1).trans rfl; have hfz58_0 := blk_frozen BK831.out 0; have hfz58_1 := blk_frozen BK831.out 1) | ((with_reducible refine gate_callee (f := 33) rfl ?_); refine goesL_ (some 54) rfl rfl Try.func33 (by kernel_rfl) rfl #[.agg #[.bool t813, .slice Ao18 t814.length co18], .agg #[.bool t823, .slice Ao28 t824.length co28]] rfl za ?_; (with_reducible refine (impl_BigMul.calls kj2 t813 (fun k_ => some k_ = (.slice Ao18 t814.length co18 : Value).ownBlock) _ _ t814 t823 (fun k_ => some k_ = (.slice Ao28 t824.length co28 : Value).ownBlock) _ _ t824 t845 t846 t849 _ ?side1 ?side2 A10.out).mono ?_); (case side1 => exact Kd.R_V (Kd.R_tight rfl (Kd.R_types (Kd.R_types (Kd.R_types (Kd.R_types (Kd.R_types (Kd.R_types (HO816.out) BK821.out (by decide)) BK822.out (by decide)) BK831.out (by decide)) BK832.out (by decide)) BK838.out (by decide)) BK844.out (by decide)))); (case side2 => exact Kd.R_V (Kd.R_tight rfl (Kd.R_types (Kd.R_types (Kd.R_types (Kd.R_types (Kd.R_types (Kd.R_types (HO826.out) BK821.out (by decide)) BK822.out (by decide)) BK831.out (by decide)) BK832.out (by decide)) BK838.out (by decide)) BK844.out (by decide)))); rintro e w59 ⟨v847, rfl, ho0, hb⟩; refine ⟨_, rfl, ?_⟩; have n0_ := Aside0.mk (Kd.R_below (zR HO816.out) hb); have n1_ := Aside0.mk (Kd.R_below (zR HO820.out) hb); have n2_ := Aside0.mk (Kd.R_below (zR HO826.out) hb); have n3_ := Aside0.mk (Kd.R_below (zR HO830.out) hb); have n4_ := Aside0.mk (Kd.V_below (zV HO836.out) hb); have n5_ := Aside0.mk (Kd.R_below (zR HO842.out) hb); have n6_ := Aside0.mk (Kd.V_lower (Kd.V_mono (ok' := fun k_ => some k_ ≠ (.slice Ao20 t818.length co20 : Value).ownBlock ∧ some k_ ≠ (.slice Ao33 t828.length co33 : Value).ownBlock ∧ some k_ ≠ (.slice Ao55 t840.length co55 : Value).ownBlock ∧ k_ ≠ gb821 ∧ k_ ≠ gb822 ∧ k_ ≠ gb831 ∧ k_ ≠ gb832 ∧ k_ ≠ gb838 ∧ k_ ≠ gb844) ho0 (fun k_ hk_ => ⟨Or.elim hk_ (fun hs_ => Or.elim hs_ (fun hs_ => ((Kd.R_types (Kd.R_types (Kd.R_types (Kd.R_types (Kd.R_types (Kd.R_types (HO816.out) BK821.out (by decide)) BK822.out (by decide)) BK831.out (by decide)) BK832.out (by decide)) BK838.out (by decide)) BK844.out (by decide)).1 k_ hs_.symm).1.1.1.1.1.1.1) (fun hs_ => ((Kd.R_types (Kd.R_types (Kd.R_types (Kd.R_types (Kd.R_types (Kd.R_types (HO826.out) BK821.out (by decide)) BK822.out (by decide)) BK831.out (by decide)) BK832.out (by decide)) BK838.out (by decide)) BK844.out (by decide)).1 k_ hs_.symm).1.1.1.1.1.1.2.1)) (fun hn_ => (Kd.fresh' (Kd.R_lt (zR HO820.out)) k_ hn_)), Or.elim hk_ (fun hs_ => Or.elim hs_ (fun hs_ => ((Kd.R_types (Kd.R_types (Kd.R_types (Kd.R_types (Kd.R_types (Kd.R_types (HO816.out) BK821.out (by decide)) BK822.out (by decide)) BK831.out (by decide)) BK832.out (by decide)) BK838.out (by decide)) BK844.out (by decide)).1 k_ hs_.symm).1.1.1.1.1.1.2.2.1) (fun hs_ => ((Kd.R_types (Kd.R_types (Kd.R_types (Kd.R_types (Kd.R_types (Kd.R_types (HO826.out) BK821.out (by decide)) BK822.out (by decide)) BK831.out (by decide)) BK832.out (by decide)) BK838.out (by decide)) BK844.out (by decide)).1 k_ hs_.symm).1.1.1.1.1.1.2.2.1)) (fun hn_ => (Kd.fresh' (Kd.R_lt (zR HO830.out)) k_ hn_)), Or.elim hk_ (fun hs_ => Or.elim hs_ (fun hs_ => ((Kd.R_types (Kd.R_types (Kd.R_types (Kd.R_types (Kd.R_types (Kd.R_types (HO816.out) BK821.out (by decide)) BK822.out (by decide)) BK831.out (by decide)) BK832.out (by decide)) BK838.out (by decide)) BK844.out (by decide)).1 k_ hs_.symm).1.1.1.1.1.1.2.2.2) (fun hs_ => ((Kd.R_types (Kd.R_types (Kd.R_types (Kd.R_types (Kd.R_types (Kd.R_types (HO826.out) BK821.out (by decide)) BK822.out (by decide)) BK831.out (by decide)) BK832.out (by decide)) BK838.out (by decide)) BK844.out (by decide)).1 k_ hs_.symm).1.1.1.1.1.1.2.2.2)) (fun hn_ => (Kd.fresh' (Kd.R_lt (zR HO842.out)) k_ hn_)), Or.elim hk_ (fun hs_ => Or.elim hs_ (fun hs_ => ((Kd.R_types (Kd.R_types (Kd.R_types (Kd.R_types (Kd.R_types (Kd.R_types (HO816.out) BK821.out (by decide)) BK822.out (by decide)) BK831.out (by decide)) BK832.out (by decide)) BK838.out (by decide)) BK844.out (by decide)).1 k_ hs_.symm).1.1.1.1.1.2) (fun hs_ => ((Kd.R_types (Kd.R_types (Kd.R_types (Kd.R_types (Kd.R_types (Kd.R_types (HO826.out) BK821.out (by decide)) BK822.out (by decide)) BK831.out (by decide)) BK832.out (by decide)) BK838.out (by decide)) BK844.out (by decide)).1 k_ hs_.symm).1.1.1.1.1.2)) (fun hn_ => (Kd.freshB (g := gb821) (o := .cells #[.bool t813, .slice Ao18 t814.length co18] 27 (0, 0)) (zk BK821.out) k_ hn_)), Or.elim hk_ (fun hs_ => Or.elim hs_ (fun hs_ => ((Kd.R_types (Kd.R_types (Kd.R_types (Kd.R_types (Kd.R_types (Kd.R_types (HO816.out) BK821.out (by decide)) BK822.out (by decide)) BK831.out (by decide)) BK832.out (by decide)) BK838.out (by decide)) BK844.out (by decide)).1 k_ hs_.symm).1.1.1.1.2) (fun hs_ => ((Kd.R_types (Kd.R_types (Kd.R_types (Kd.R_types (Kd.R_types (Kd.R_types (HO826.out) BK821.out (by decide)) BK822.out (by decide)) BK831.out (by decide)) BK832.out (by decide)) BK838.out (by decide)) BK844.out (by decide)).1 k_ hs_.symm).1.1.1.1.2)) (fun hn_ => (Kd.freshB (g := gb822) (o := .cells #[.bool t817, .slice Ao20 t818.length co20] 27 (0, 0)) (zk BK822.out) k_ hn_)), Or.elim hk_ (fun hs_ => Or.elim hs_ (fun hs_ => ((Kd.R_types (Kd.R_types (Kd.R_types (Kd.R_types (Kd.R_types (Kd.R_types (HO816.out) BK821.out (by decide)) BK822.out (by decide)) BK831.out (by decide)) BK832.out (by decide)) BK838.out (by decide)) BK844.out (by decide)).1 k_ hs_.symm).1.1.1.2) (fun hs_ => ((Kd.R_types (Kd.R_types (Kd.R_types (Kd.R_types (Kd.R_types (Kd.R_types (HO826.out) BK821.out (by decide)) BK822.out (by decide)) BK831.out (by decide)) BK832.out (by decide)) BK838.out (by decide)) BK844.out (by decide)).1 k_ hs_.symm).1.1.1.2)) (fun hn_ => (Kd.freshB (g := gb831) (o := .cells #[.bool t823, .slice Ao28 t824.length co28] 27 (0, 0)) (zk BK831.out) k_ hn_)), Or.elim hk_ (fun hs_ => Or.elim hs_ (fun hs_ => ((Kd.R_types (Kd.R_types (Kd.R_types (Kd.R_types (Kd.R_types (Kd.R_types (HO816.out) BK821.out (by decide)) BK822.out (by decide)) BK831.out (by decide)) BK832.out (by decide)) BK838.out (by decide)) BK844.out (by decide)).1 k_ hs_.symm).1.1.2) (fun hs_ => ((Kd.R_types (Kd.R_types (Kd.R_types (Kd.R_types (Kd.R_types (Kd.R_types (HO826.out) BK821.out (by decide)) BK822.out (by decide)) BK831.out (by decide)) BK832.out (by decide)) BK838.out (by decide)) BK844.out (by decide)).1 k_ hs_.symm).1.1.2)) (fun hn_ => (Kd.freshB (g := gb832) (o := .cells #[.bool t827, .slice Ao33 t828.length co33] 27 (0, 0)) (zk BK832.out) k_ hn_)), Or.elim hk_ (fun hs_ => Or.elim hs_ (fun hs_ => ((Kd.R_types (Kd.R_types (Kd.R_types (Kd.R_types (Kd.R_types (Kd.R_types (HO816.out) BK821.out (by decide)) BK822.out (by decide)) BK831.out (by decide)) BK832.out (by decide)) BK838.out (by decide)) BK844.out (by decide)).1 k_ hs_.symm).1.2) (fun hs_ => ((Kd.R_types (Kd.R_types (Kd.R_types (Kd.R_types (Kd.R_types (Kd.R_types (HO826.out) BK821.out (by decide)) BK822.out (by decide)) BK831.out (by decide)) BK832.out (by decide)) BK838.out (by decide)) BK844.out (by decide)).1 k_ hs_.symm).1.2)) (fun hn_ => (Kd.freshB (g := gb838) (o := .cells #[.bool t833, .slice Ao44 t834.length co44] 27 (0, 0)) (zk BK838.out) k_ hn_)), Or.elim hk_ (fun hs_ => Or.elim hs_ (fun hs_ => ((Kd.R_types (Kd.R_types (Kd.R_types (Kd.R_types (Kd.R_types (Kd.R_types (HO816.out) BK821.out (by decide)) BK822.out (by decide)) BK831.out (by decide)) BK832.out (by decide)) BK838.out (by decide)) BK844.out (by decide)).1 k_ hs_.symm).2) (fun hs_ => ((Kd.R_types (Kd.R_types (Kd.R_types (Kd.R_types (Kd.R_types (Kd.R_types (HO826.out) BK821.out (by decide)) BK822.out (by decide)) BK831.out (by decide)) BK832.out (by decide)) BK838.out (by decide)) BK844.out (by decide)).1 k_ hs_.symm).2)) (fun hn_ => (Kd.freshB (g := gb844) (o := .cells #[.bool t839, .slice Ao55 t840.length co55] 27 (0, 0)) (zk BK844.out) k_ hn_))⟩)) (below_size zb)); have n7_ := Aside0.mk (blk_below (g := gb821) (o := .cells #[.bool t813, .slice Ao18 t814.length co18] 27 (0, 0)) (zk BK821.out) hb); have n8_ := Aside0.mk (blk_below (g := gb822) (o := .cells #[.bool t817, .slice Ao20 t818.length co20] 27 (0, 0)) (zk BK822.out) hb); have n9_ := Aside0.mk (blk_below (g := gb831) (o := .cells #[.bool t823, .slice Ao28 t824.length co28] 27 (0, 0)) (zk BK831.out) hb); have n10_ := Aside0.mk (blk_below (g := gb832) (o := .cells #[.bool t827, .slice Ao33 t828.length co33] 27 (0, 0)) (zk BK832.out) hb); have n11_ := Aside0.mk (blk_below (g := gb838) (o := .cells #[.bool t833, .slice Ao44 t834.length co44] 27 (0, 0)) (zk BK838.out) hb); have n12_ := Aside0.mk (blk_below (g := gb844) (o := .cells #[.bool t839, .slice Ao55 t840.length co55] 27 (0, 0)) (zk BK844.out) hb); have n13_ := Aside0.mk (below_step zb hb); clear HO816; clear HO820; clear HO826; clear HO830; clear HO836; clear HO842; clear BK821; clear BK822; clear BK831; clear BK832; clear BK838; clear BK844; clear HB; have HO816 := n0_; have HO820 := n1_; have HO826 := n2_; have HO830 := n3_; have HO836 := n4_; have HO842 := n5_; have HO848 := n6_; have BK821 := n7_; have BK822 := n8_; have BK831 := n9_; have BK832 := n10_; have BK838 := n11_; have BK844 := n12_; have HB := n13_; clear n0_ n1_ n2_ n3_ n4_ n5_ n6_ n7_ n8_ n9_ n10_ n11_ n12_ n13_; (try clear hb); (try clear hb2); (try clear hk); (try clear hi); (try clear ho0)) | ((with_reducible refine gate_dst (N := 13) rfl ?_); (try (refine gate_guard (by rfl) ?_; dsimp only)); refine box_event ?hg (N := 13) ?hd (cs := #[.bool false, .slice none 0 0]) (t := 27) ?hr ?_; (case hd => rfl); (case hg => rfl); (case hr => first | (go_simp; done) | (go_simp; rfl)); intro gb850 hg w60 hbox hb; have n0_ := Aside0.mk (Kd.R_below (zR HO816.out) hb); have n1_ := Aside0.mk (Kd.R_below (zR HO820.out) hb); have n2_ := Aside0.mk (Kd.R_below (zR HO826.out) hb); have n3_ := Aside0.mk (Kd.R_below (zR HO830.out) hb); have n4_ := Aside0.mk (Kd.V_below (Kd.V_elderB (zV HO836.out) gb850 (Nat.le_of_eq hg.symm)) hb); have n5_ := Aside0.mk (Kd.R_below (zR HO842.out) hb); have n6_ := Aside0.mk (Kd.V_below (Kd.V_elderB (zV HO848.out) gb850 (Nat.le_of_eq hg.symm)) hb); have n7_ := Aside0.mk (blk_below (g := gb821) (o := .cells #[.bool t813, .slice Ao18 t814.length co18] 27 (0, 0)) (zk BK821.out) hb); have n8_ := Aside0.mk (blk_below (g := gb822) (o := .cells #[.bool t817, .slice Ao20 t818.length co20] 27 (0, 0)) (zk BK822.out) hb); have n9_ := Aside0.mk (blk_below (g := gb831) (o := .cells #[.bool t823, .slice Ao28 t824.length co28] 27 (0, 0)) (zk BK831.out) hb); have n10_ := Aside0.mk (blk_below (g := gb832) (o := .cells #[.bool t827, .slice Ao33 t828.length co33] 27 (0, 0)) (zk BK832.out) hb); have n11_ := Aside0.mk (blk_below (g := gb838) (o := .cells #[.bool t833, .slice Ao44 t834.length co44] 27 (0, 0)) (zk BK838.out) hb); have n12_ := Aside0.mk (blk_below (g := gb844) (o := .cells #[.bool t839, .slice Ao55 t840.length co55] 27 (0, 0)) (zk BK844.out) hb); have n13_ := Aside0.mk (below_step zb hb); have n14_ := Aside0.mk (hbox); have n15_ := Aside0.mk ((by rw [hg]; exact (below_size zb) : w.heap.size ≤ gb850)); have n16_ := Aside0.mk ((by rw [hg]; exact (below_size zb) : w.heap.size ≤ gb850)); have n17_ := Aside0.mk ((by rw [hg]; exact Nat.ne_of_lt (blk_lt (g := gb821) (o := .cells #[.bool t813, .slice Ao18 t814.length co18] 27 (0, 0)) (zk BK821.out)) : gb821 ≠ gb850)); have n18_ := Aside0.mk ((by rw [hg]; exact Nat.ne_of_gt (blk_lt (g := gb821) (o := .cells #[.bool t813, .slice Ao18 t814.length co18] 27 (0, 0)) (zk BK821.out)) : gb850 ≠ gb821)); have n19_ := Aside0.mk ((by rw [hg]; exact Nat.ne_of_lt (blk_lt (g := gb822) (o := .cells #[.bool t817, .slice Ao20 t818.length co20] 27 (0, 0)) (zk BK822.out)) : gb822 ≠ gb850)); have n20_ := Aside0.mk ((by rw [hg]; exact Nat.ne_of_gt (blk_lt (g := gb822) (o := .cells #[.bool t817, .slice Ao20 t818.length co20] 27 (0, 0)) (zk BK822.out)) : gb850 ≠ gb822)); have n21_ := Aside0.mk ((by rw [hg]; exact Nat.ne_of_lt (blk_lt (g := gb831) (o := .cells #[.bool t823, .slice Ao28 t824.length co28] 27 (0, 0)) (zk BK831.out)) : gb831 ≠ gb850)); have n22_ := Aside0.mk ((by rw [hg]; exact Nat.ne_of_gt (blk_lt (g := gb831) (o := .cells #[.bool t823, .slice Ao28 t824.length co28] 27 (0, 0)) (zk BK831.out)) : gb850 ≠ gb831)); have n23_ := Aside0.mk ((by rw [hg]; exact Nat.ne_of_lt (blk_lt (g := gb832) (o := .cells #[.bool t827, .slice Ao33 t828.length co33] 27 (0, 0)) (zk BK832.out)) : gb832 ≠ gb850)); have n24_ := Aside0.mk ((by rw [hg]; exact Nat.ne_of_gt (blk_lt (g := gb832) (o := .cells #[.bool t827, .slice Ao33 t828.length co33] 27 (0, 0)) (zk BK832.out)) : gb850 ≠ gb832)); have n25_ := Aside0.mk ((by rw [hg]; exact Nat.ne_of_lt (blk_lt (g := gb838) (o := .cells #[.bool t833, .slice Ao44 t834.length co44] 27 (0, 0)) (zk BK838.out)) : gb838 ≠ gb850)); have n26_ := Aside0.mk ((by rw [hg]; exact Nat.ne_of_gt (blk_lt (g := gb838) (o := .cells #[.bool t833, .slice Ao44 t834.length co44] 27 (0, 0)) (zk BK838.out)) : gb850 ≠ gb838)); have n27_ := Aside0.mk ((by rw [hg]; exact Nat.ne_of_lt (blk_lt (g := gb844) (o := .cells #[.bool t839, .slice Ao55 t840.length co55] 27 (0, 0)) (zk BK844.out)) : gb844 ≠ gb850)); have n28_ := Aside0.mk ((by rw [hg]; exact Nat.ne_of_gt (blk_lt (g := gb844) (o := .cells #[.bool t839, .slice Ao55 t840.length co55] 27 (0, 0)) (zk BK844.out)) : gb850 ≠ gb844)); clear HO816; clear HO820; clear HO826; clear HO830; clear HO836; clear HO842; clear HO848; clear BK821; clear BK822; clear BK831; clear BK832; clear BK838; clear BK844; clear HB; have HO816 := n0_; have HO820 := n1_; have HO826 := n2_; have HO830 := n3_; have HO836 := n4_; have HO842 := n5_; have HO848 := n6_; have BK821 := n7_; have BK822 := n8_; have BK831 := n9_; have BK832 := n10_; have BK838 := n11_; have BK844 := n12_; have HB := n13_; have BK850 := n14_; have GW850 := n15_; have GE850 := n16_; have NB821_850 := n17_; have NB850_821 := n18_; have NB822_850 := n19_; have NB850_822 := n20_; have NB831_850 := n21_; have NB850_831 := n22_; have NB832_850 := n23_; have NB850_832 := n24_; have NB838_850 := n25_; have NB850_838 := n26_; have NB844_850 := n27_; have NB850_844 := n28_; clear n0_ n1_ n2_ n3_ n4_ n5_ n6_ n7_ n8_ n9_ n10_ n11_ n12_ n13_ n14_ n15_ n16_ n17_ n18_ n19_ n20_ n21_ n22_ n23_ n24_ n25_ n26_ n27_ n28_; clear hb hbox hg; have hnb61 := NB850_821.out; have hnc61 := NB821_850.out; have hnb62 := NB850_822.out; have hnc62 := NB822_850.out; have hnb63 := NB850_831.out; have hnc63 := NB831_850.out; have hnb64 := NB850_832.out; have hnc64 := NB832_850.out; have hnb65 := NB850_838.out; have hnc65 := NB838_850.out; have hnb66 := NB850_844.out; have hnc66 := NB844_850.out; have hcz67_0 : w60.cell? ⟨gb850, 0, none⟩ = some (.bool false) := (blk_cell BK850.out 0).trans rfl; have hcz67_1 : w60.cell? ⟨gb850, 1, none⟩ = some (.slice none 0 0) := (blk_cell BK850.out 1).trans rfl; have hfz67_0 := blk_frozen BK850.out 0; have hfz67_1 := blk_frozen BK850.out 1; obtain ⟨Ao68, co68, eo68⟩ := Kd.V_slice HO848.out; subst eo68) | ((with_reducible refine gate_store (t := 27) (p := 13) rfl ?_); refine store_event (t := 27) (p := 13) (v := ?vo_w69) (w1 := ((w60.setCell ⟨gb850, 0, none⟩ (.bool t845)).setCell ⟨gb850, 1, none⟩ (.slice Ao68 t846.length co68))) ?hg ?ho ?hn ?hr ?_; (case ho => rfl); (case hg => rfl); (case hn => rfl); (case hr => first | (go_simp; done) | (go_simp; rfl)); intro w69 hw; have n0_ : Aside0 (Kd.R (Kd.int .i64) 3 w69 w.heap.size (fun k_ => some k_ ≠ (.slice Ao20 t818.length co20 : Value).ownBlock ∧ some k_ ≠ (.slice Ao28 t824.length co28 : Value).ownBlock ∧ some k_ ≠ (.slice Ao33 t828.length co33 : Value).ownBlock ∧ some k_ ≠ (.slice Ao55 t840.length co55 : Value).ownBlock) (.slice Ao18 t814.length co18) t814) := ⟨(by rw [hw]; exact (by (with_reducible repeat (first | apply Kd.R_alloc | apply Kd.R_drewN | apply Kd.R_drew)); exact Kd.R_mono (Kd.R_far (p := ⟨gb850, 1, none⟩) (Kd.R_far (p := ⟨gb850, 0, none⟩) (Kd.R_types HO816.out BK850.out (by decide)) (fun _ hk => hk.2) (.bool t845)) (fun _ hk => hk.2) (.slice Ao68 t846.length co68)) (fun _ hk => ⟨hk.1.1, ⟨hk.1.2.1, ⟨hk.1.2.2.1, hk.1.2.2.2⟩⟩⟩)))⟩; have n1_ : Aside0 (Kd.R (Kd.int .i64) 3 w69 w.heap.size (fun k_ => some k_ ≠ (.slice Ao18 t814.length co18 : Value).ownBlock ∧ some k_ ≠ (.slice Ao28 t824.length co28 : Value).ownBlock ∧ some k_ ≠ (.slice Ao33 t828.length co33 : Value).ownBlock ∧ some k_ ≠ (.slice Ao55 t840.length co55 : Value).ownBlock) (.slice Ao20 t818.length co20) t818) := ⟨(by rw [hw]; exact (by (with_reducible repeat (first | apply Kd.R_alloc | apply Kd.R_drewN | apply Kd.R_drew)); exact Kd.R_mono (Kd.R_far (p := ⟨gb850, 1, none⟩) (Kd.R_far (p := ⟨gb850, 0, none⟩) (Kd.R_types HO820.out BK850.out (by decide)) (fun _ hk => hk.2) (.bool t845)) (fun _ hk => hk.2) (.slice Ao68 t846.length co68)) (fun _ hk => ⟨hk.1.1, ⟨hk.1.2.1, ⟨hk.1.2.2.1, hk.1.2.2.2⟩⟩⟩)))⟩; have n2_ : Aside0 (Kd.R (Kd.int .i64) 3 w69 w.heap.size (fun k_ => some k_ ≠ (.slice Ao18 t814.length co18 : Value).ownBlock ∧ some k_ ≠ (.slice Ao20 t818.length co20 : Value).ownBlock ∧ some k_ ≠ (.slice Ao33 t828.length co33 : Value).ownBlock ∧ some k_ ≠ (.slice Ao55 t840.length co55 : Value).ownBlock) (.slice Ao28 t824.length co28) t824) := ⟨(by rw [hw]; exact (by (with_reducible repeat (first | apply Kd.R_alloc | apply Kd.R_drewN | apply Kd.R_drew)); exact Kd.R_mono (Kd.R_far (p := ⟨gb850, 1, none⟩) (Kd.R_far (p := ⟨gb850, 0, none⟩) (Kd.R_types HO826.out BK850.out (by decide)) (fun _ hk => hk.2) (.bool t845)) (fun _ hk => hk.2) (.slice Ao68 t846.length co68)) (fun _ hk => ⟨hk.1.1, ⟨hk.1.2.1, ⟨hk.1.2.2.1, hk.1.2.2.2⟩⟩⟩)))⟩; have n3_ : Aside0 (Kd.R (Kd.int .i64) 3 w69 w.heap.size (fun k_ => some k_ ≠ (.slice Ao18 t814.length co18 : Value).ownBlock ∧ some k_ ≠ (.slice Ao20 t818.length co20 : Value).ownBlock ∧ some k_ ≠ (.slice Ao28 t824.length co28 : Value).ownBlock ∧ some k_ ≠ (.slice Ao55 t840.length co55 : Value).ownBlock) (.slice Ao33 t828.length co33) t828) := ⟨(by rw [hw]; exact (by (with_reducible repeat (first | apply Kd.R_alloc | apply Kd.R_drewN | apply Kd.R_drew)); exact Kd.R_mono (Kd.R_far (p := ⟨gb850, 1, none⟩) (Kd.R_far (p := ⟨gb850, 0, none⟩) (Kd.R_types HO830.out BK850.out (by decide)) (fun _ hk => hk.2) (.bool t845)) (fun _ hk => hk.2) (.slice Ao68 t846.length co68)) (fun _ hk => ⟨hk.1.1, ⟨hk.1.2.1, ⟨hk.1.2.2.1, hk.1.2.2.2⟩⟩⟩)))⟩; have n4_ : Aside0 (Kd.V (Kd.int .i64) 3 w69 w.heap.size (fun k_ => some k_ ≠ (.slice Ao28 t824.length co28 : Value).ownBlock ∧ some k_ ≠ (.slice Ao33 t828.length co33 : Value).ownBlock ∧ some k_ ≠ (.slice Ao55 t840.length co55 : Value).ownBlock ∧ k_ ≠ gb821 ∧ k_ ≠ gb822 ∧ k_ ≠ gb831 ∧ k_ ≠ gb832 ∧ k_ ≠ gb838 ∧ k_ ≠ gb844 ∧ k_ ≠ gb850) (.slice Ao44 t834.length co44) t834) := ⟨(by rw [hw]; exact (by (with_reducible repeat (first | apply Kd.V_alloc | apply Kd.V_drewN | apply Kd.V_drew)); exact Kd.V_mono (Kd.V_far (p := ⟨gb850, 1, none⟩) (Kd.V_far (p := ⟨gb850, 0, none⟩) (Kd.V_mono HO836.out (fun k_ hk => (⟨hk, hk.2⟩ : _ ∧ k_ ≠ gb850))) (fun _ hk => hk.2) (.bool t845)) (fun _ hk => hk.2) (.slice Ao68 t846.length co68)) (fun _ hk => ⟨hk.1.1.1, ⟨hk.1.1.2.1, ⟨hk.1.1.2.2.1, ⟨hk.1.1.2.2.2.1, ⟨hk.1.1.2.2.2.2.1, ⟨hk.1.1.2.2.2.2.2.1, ⟨hk.1.1.2.2.2.2.2.2.1, ⟨hk.1.1.2.2.2.2.2.2.2.1, ⟨hk.1.1.2.2.2.2.2.2.2.2, hk.1.2⟩⟩⟩⟩⟩⟩⟩⟩⟩)))⟩; have n5_ : Aside0 (Kd.R (Kd.int .i64) 3 w69 w.heap.size (fun k_ => some k_ ≠ (.slice Ao18 t814.length co18 : Value).ownBlock ∧ some k_ ≠ (.slice Ao20 t818.length co20 : Value).ownBlock ∧ some k_ ≠ (.slice Ao28 t824.length co28 : Value).ownBlock ∧ some k_ ≠ (.slice Ao33 t828.length co33 : Value).ownBlock) (.slice Ao55 t840.length co55) t840) := ⟨(by rw [hw]; exact (by (with_reducible repeat (first | apply Kd.R_alloc | apply Kd.R_drewN | apply Kd.R_drew)); exact Kd.R_mono (Kd.R_far (p := ⟨gb850, 1, none⟩) (Kd.R_far (p := ⟨gb850, 0, none⟩) (Kd.R_types HO842.out BK850.out (by decide)) (fun _ hk => hk.2) (.bool t845)) (fun _ hk => hk.2) (.slice Ao68 t846.length co68)) (fun _ hk => ⟨hk.1.1, ⟨hk.1.2.1, ⟨hk.1.2.2.1, hk.1.2.2.2⟩⟩⟩)))⟩; have n6_ : Aside0 (Kd.V (Kd.int .i64) 3 w69 w.heap.size (fun k_ => some k_ ≠ (.slice Ao20 t818.length co20 : Value).ownBlock ∧ some k_ ≠ (.slice Ao33 t828.length co33 : Value).ownBlock ∧ some k_ ≠ (.slice Ao55 t840.length co55 : Value).ownBlock ∧ k_ ≠ gb821 ∧ k_ ≠ gb822 ∧ k_ ≠ gb831 ∧ k_ ≠ gb832 ∧ k_ ≠ gb838 ∧ k_ ≠ gb844 ∧ k_ ≠ gb850) (.slice Ao68 t846.length co68) t846) := ⟨(by rw [hw]; exact (by (with_reducible repeat (first | apply Kd.V_alloc | apply Kd.V_drewN | apply Kd.V_drew)); exact Kd.V_mono (Kd.V_far (p := ⟨gb850, 1, none⟩) (Kd.V_far (p := ⟨gb850, 0, none⟩) (Kd.V_mono HO848.out (fun k_ hk => (⟨hk, hk.2⟩ : _ ∧ k_ ≠ gb850))) (fun _ hk => hk.2) (.bool t845)) (fun _ hk => hk.2) (.slice Ao68 t846.length co68)) (fun _ hk => ⟨hk.1.1.1, ⟨hk.1.1.2.1, ⟨hk.1.1.2.2.1, ⟨hk.1.1.2.2.2.1, ⟨hk.1.1.2.2.2.2.1, ⟨hk.1.1.2.2.2.2.2.1, ⟨hk.1.1.2.2.2.2.2.2.1, ⟨hk.1.1.2.2.2.2.2.2.2.1, ⟨hk.1.1.2.2.2.2.2.2.2.2, hk.1.2⟩⟩⟩⟩⟩⟩⟩⟩⟩)))⟩; have n7_ : Aside0 (w69.heap[gb821]? = some (.cells #[.bool t813, .slice Ao18 t814.length co18] 27 (0, 0))) := ⟨(by rw [hw]; exact (zk BK821.out))⟩; have n8_ : Aside0 (w69.heap[gb822]? = some (.cells #[.bool t817, .slice Ao20 t818.length co20] 27 (0, 0))) := ⟨(by rw [hw]; exact (zk BK822.out))⟩; have n9_ : Aside0 (w69.heap[gb831]? = some (.cells #[.bool t823, .slice Ao28 t824.length co28] 27 (0, 0))) := ⟨(by rw [hw]; exact (zk BK831.out))⟩; have n10_ : Aside0 (w69.heap[gb832]? = some (.cells #[.bool t827, .slice Ao33 t828.length co33] 27 (0, 0))) := ⟨(by rw [hw]; exact (zk BK832.out))⟩; have n11_ : Aside0 (w69.heap[gb838]? = some (.cells #[.bool t833, .slice Ao44 t834.length co44] 27 (0, 0))) := ⟨(by rw [hw]; exact (zk BK838.out))⟩; have n12_ : Aside0 (w69.heap[gb844]? = some (.cells #[.bool t839, .slice Ao55 t840.length co55] 27 (0, 0))) := ⟨(by rw [hw]; exact (zk BK844.out))⟩; have n13_ : Aside0 (w69.heap[gb850]? = some (.cells #[.bool t845, .slice Ao68 t846.length co68] 27 (0, 0))) := ⟨(by rw [hw]; exact (by (with_reducible repeat (first | refine blk_drewN ?_ _ | refine blk_drew ?_ | refine blk_alloc ?_ _)); refine blk_put (cs := #[.bool t845, .slice none 0 0]) ?_ 1 _ rfl; (with_reducible repeat (first | refine blk_drewN ?_ _ | refine blk_drew ?_ | refine blk_alloc ?_ _)); refine blk_put (cs := #[.bool false, .slice none 0 0]) ?_ 0 _ rfl; (with_reducible repeat (first | refine blk_drewN ?_ _ | refine blk_drew ?_ | refine blk_alloc ?_ _)); exact BK850.out))⟩; have n14_ : Aside0 (Below w.heap.size w w69) := ⟨(by rw [hw]; exact zb)⟩; clear hw; clear HO816; clear HO820; clear HO826; clear HO830; clear HO836; clear HO842; clear HO848; clear BK821; clear BK822; clear BK831; clear BK832; clear BK838; clear BK844; clear BK850; clear HB; have HO816 := n0_; have HO820 := n1_; have HO826 := n2_; have HO830 := n3_; have HO836 := n4_; have HO842 := n5_; have HO848 := n6_; have BK821 := n7_; have BK822 := n8_; have BK831 := n9_; have BK832 := n10_; have BK838 := n11_; have BK844 := n12_; have BK850 := n13_; have HB := n14_; clear n0_ n1_ n2_ n3_ n4_ n5_ n6_ n7_ n8_ n9_ n10_ n11_ n12_ n13_ n14_; have hcz70_0 : w69.cell? ⟨gb822, 0, none⟩ = some (.bool t817) := (blk_cell BK822.out 0).trans rfl; have hcz70_1 : w69.cell? ⟨gb822, 1, none⟩ = some (.slice Ao20 t818.length co20) := (blk_cell BK822.out 1).trans rfl; have hfz70_0 := blk_frozen BK822.out 0; have hfz70_1 := blk_frozen BK822.out 1; have hcz71_0 : w69.cell? ⟨gb831, 0, none⟩ = some (.bool t823) := (blk_cell BK831.out 0).trans rfl; have hcz71_1 : w69.cell? ⟨gb831, 1, none⟩ = some (.slice Ao28 t824.length co28) := (blk_cell BK831.out 1).trans rfl; have hfz71_0 := blk_frozen BK831.out 0; have hfz71_1 := blk_frozen BK831.out 1) | ((with_reducible refine gate_callee (f := 32) rfl ?_); refine goesL_ (some 60) rfl rfl Try.func32 (by kernel_rfl) rfl #[.agg #[.bool t817, .slice Ao20 t818.length co20], .agg #[.bool t823, .slice Ao28 t824.length co28]] rfl za ?_; (with_reducible refine (impl_BigAdd.calls kj2 t817 (fun k_ => some k_ = (.slice Ao20 t818.length co20 : Value).ownBlock) _ _ t818 t823 (fun k_ => some k_ = (.slice Ao28 t824.length co28 : Value).ownBlock) _ _ t824 t851 t852 t855 _ ?side1 ?side2 A11.out).mono ?_); (case side1 => exact Kd.R_V (Kd.R_tight rfl (Kd.R_types (Kd.R_types (Kd.R_types (Kd.R_types (Kd.R_types (Kd.R_types (Kd.R_types (HO820.out) BK821.out (by decide)) BK822.out (by decide)) BK831.out (by decide)) BK832.out (by decide)) BK838.out (by decide)) BK844.out (by decide)) BK850.out (by decide)))); (case side2 => exact Kd.R_V (Kd.R_tight rfl (Kd.R_types (Kd.R_types (Kd.R_types (Kd.R_types (Kd.R_types (Kd.R_types (Kd.R_types (HO826.out) BK821.out (by decide)) BK822.out (by decide)) BK831.out (by decide)) BK832.out (by decide)) BK838.out (by decide)) BK844.out (by decide)) BK850.out (by decide)))); rintro e w72 ⟨v853, rfl, ho0, hb⟩; refine ⟨_, rfl, ?_⟩; have n0_ := Aside0.mk (Kd.R_below (zR HO816.out) hb); have n1_ := Aside0.mk (Kd.R_below (zR HO820.out) hb); have n2_ := Aside0.mk (Kd.R_below (zR HO826.out) hb); have n3_ := Aside0.mk (Kd.R_below (zR HO830.out) hb); have n4_ := Aside0.mk (Kd.V_below (zV HO836.out) hb); have n5_ := Aside0.mk (Kd.R_below (zR HO842.out) hb); have n6_ := Aside0.mk (Kd.V_below (zV HO848.out) hb); have n7_ := Aside0.mk (Kd.V_lower (Kd.V_mono (ok' := fun k_ => some k_ ≠ (.slice Ao18 t814.length co18 : Value).ownBlock ∧ some k_ ≠ (.slice Ao33 t828.length co33 : Value).ownBlock ∧ some k_ ≠ (.slice Ao55 t840.length co55 : Value).ownBlock ∧ k_ ≠ gb821 ∧ k_ ≠ gb822 ∧ k_ ≠ gb831 ∧ k_ ≠ gb832 ∧ k_ ≠ gb838 ∧ k_ ≠ gb844 ∧ k_ ≠ gb850) ho0 (fun k_ hk_ => ⟨Or.elim hk_ (fun hs_ => Or.elim hs_ (fun hs_ => ((Kd.R_types (Kd.R_types (Kd.R_types (Kd.R_types (Kd.R_types (Kd.R_types (Kd.R_types (HO820.out) BK821.out (by decide)) BK822.out (by decide)) BK831.out (by decide)) BK832.out (by decide)) BK838.out (by decide)) BK844.out (by decide)) BK850.out (by decide)).1 k_ hs_.symm).1.1.1.1.1.1.1.1) (fun hs_ => ((Kd.R_types (Kd.R_types (Kd.R_types (Kd.R_types (Kd.R_types (Kd.R_types (Kd.R_types (HO826.out) BK821.out (by decide)) BK822.out (by decide)) BK831.out (by decide)) BK832.out (by decide)) BK838.out (by decide)) BK844.out (by decide)) BK850.out (by decide)).1 k_ hs_.symm).1.1.1.1.1.1.1.1)) (fun hn_ => (Kd.fresh' (Kd.R_lt (zR HO816.out)) k_ hn_)), Or.elim hk_ (fun hs_ => Or.elim hs_ (fun hs_ => ((Kd.R_types (Kd.R_types (Kd.R_types (Kd.R_types (Kd.R_types (Kd.R_types (Kd.R_types (HO820.out) BK821.out (by decide)) BK822.out (by decide)) BK831.out (by decide)) BK832.out (by decide)) BK838.out (by decide)) BK844.out (by decide)) BK850.out (by decide)).1 k_ hs_.symm).1.1.1.1.1.1.1.2.2.1) (fun hs_ => ((Kd.R_types (Kd.R_types (Kd.R_types (Kd.R_types (Kd.R_types (Kd.R_types (Kd.R_types (HO826.out) BK821.out (by decide)) BK822.out (by decide)) BK831.out (by decide)) BK832.out (by decide)) BK838.out (by decide)) BK844.out (by decide)) BK850.out (by decide)).1 k_ hs_.symm).1.1.1.1.1.1.1.2.2.1)) (fun hn_ => (Kd.fresh' (Kd.R_lt (zR HO830.out)) k_ hn_)), Or.elim hk_ (fun hs_ => Or.elim hs_ (fun hs_ => ((Kd.R_types (Kd.R_types (Kd.R_types (Kd.R_types (Kd.R_types (Kd.R_types (Kd.R_types (HO820.out) BK821.out (by decide)) BK822.out (by decide)) BK831.out (by decide)) BK832.out (by decide)) BK838.out (by decide)) BK844.out (by decide)) BK850.out (by decide)).1 k_ hs_.symm).1.1.1.1.1.1.1.2.2.2) (fun hs_ => ((Kd.R_types (Kd.R_types (Kd.R_types (Kd.R_types (Kd.R_types (Kd.R_types (Kd.R_types (HO826.out) BK821.out (by decide)) BK822.out (by decide)) BK831.out (by decide)) BK832.out (by decide)) BK838.out (by decide)) BK844.out (by decide)) BK850.out (by decide)).1 k_ hs_.symm).1.1.1.1.1.1.1.2.2.2)) (fun hn_ => (Kd.fresh' (Kd.R_lt (zR HO842.out)) k_ hn_)), Or.elim hk_ (fun hs_ => Or.elim hs_ (fun hs_ => ((Kd.R_types (Kd.R_types (Kd.R_types (Kd.R_types (Kd.R_types (Kd.R_types (Kd.R_types (HO820.out) BK821.out (by decide)) BK822.out (by decide)) BK831.out (by decide)) BK832.out (by decide)) BK838.out (by decide)) BK844.out (by decide)) BK850.out (by decide)).1 k_ hs_.symm).1.1.1.1.1.1.2) (fun hs_ => ((Kd.R_types (Kd.R_types (Kd.R_types (Kd.R_types (Kd.R_types (Kd.R_types (Kd.R_types (HO826.out) BK821.out (by decide)) BK822.out (by decide)) BK831.out (by decide)) BK832.out (by decide)) BK838.out (by decide)) BK844.out (by decide)) BK850.out (by decide)).1 k_ hs_.symm).1.1.1.1.1.1.2)) (fun hn_ => (Kd.freshB (g := gb821) (o := .cells #[.bool t813, .slice Ao18 t814.length co18] 27 (0, 0)) (zk BK821.out) k_ hn_)), Or.elim hk_ (fun hs_ => Or.elim hs_ (fun hs_ => ((Kd.R_types (Kd.R_types (Kd.R_types (Kd.R_types (Kd.R_types (Kd.R_types (Kd.R_types (HO820.out) BK821.out (by decide)) BK822.out (by decide)) BK831.out (by decide)) BK832.out (by decide)) BK838.out (by decide)) BK844.out (by decide)) BK850.out (by decide)).1 k_ hs_.symm).1.1.1.1.1.2) (fun hs_ => ((Kd.R_types (Kd.R_types (Kd.R_types (Kd.R_types (Kd.R_types (Kd.R_types (Kd.R_types (HO826.out) BK821.out (by decide)) BK822.out (by decide)) BK831.out (by decide)) BK832.out (by decide)) BK838.out (by decide)) BK844.out (by decide)) BK850.out (by decide)).1 k_ hs_.symm).1.1.1.1.1.2)) (fun hn_ => (Kd.freshB (g := gb822) (o := .cells #[.bool t817, .slice Ao20 t818.length co20] 27 (0, 0)) (zk BK822.out) k_ hn_)), Or.elim hk_ (fun hs_ => Or.elim hs_ (fun hs_ => ((Kd.R_types (Kd.R_types (Kd.R_types (Kd.R_types (Kd.R_types (Kd.R_types (Kd.R_types (HO820.out) BK821.out (by decide)) BK822.out (by decide)) BK831.out (by decide)) BK832.out (by decide)) BK838.out (by decide)) BK844.out (by decide)) BK850.out (by decide)).1 k_ hs_.symm).1.1.1.1.2) (fun hs_ => ((Kd.R_types (Kd.R_types (Kd.R_types (Kd.R_types (Kd.R_types (Kd.R_types (Kd.R_types (HO826.out) BK821.out (by decide)) BK822.out (by decide)) BK831.out (by decide)) BK832.out (by decide)) BK838.out (by decide)) BK844.out (by decide)) BK850.out (by decide)).1 k_ hs_.symm).1.1.1.1.2)) (fun hn_ => (Kd.freshB (g := gb831) (o := .cells #[.bool t823, .slice Ao28 t824.length co28] 27 (0, 0)) (zk BK831.out) k_ hn_)), Or.elim hk_ (fun hs_ => Or.elim hs_ (fun hs_ => ((Kd.R_types (Kd.R_types (Kd.R_types (Kd.R_types (Kd.R_types (Kd.R_types (Kd.R_types (HO820.out) BK821.out (by decide)) BK822.out (by decide)) BK831.out (by decide)) BK832.out (by decide)) BK838.out (by decide)) BK844.out (by decide)) BK850.out (by decide)).1 k_ hs_.symm).1.1.1.2) (fun hs_ => ((Kd.R_types (Kd.R_types (Kd.R_types (Kd.R_types (Kd.R_types (Kd.R_types (Kd.R_types (HO826.out) BK821.out (by decide)) BK822.out (by decide)) BK831.out (by decide)) BK832.out (by decide)) BK838.out (by decide)) BK844.out (by decide)) BK850.out (by decide)).1 k_ hs_.symm).1.1.1.2)) (fun hn_ => (Kd.freshB (g := gb832) (o := .cells #[.bool t827, .slice Ao33 t828.length co33] 27 (0, 0)) (zk BK832.out) k_ hn_)), Or.elim hk_ (fun hs_ => Or.elim hs_ (fun hs_ => ((Kd.R_types (Kd.R_types (Kd.R_types (Kd.R_types (Kd.R_types (Kd.R_types (Kd.R_types (HO820.out) BK821.out (by decide)) BK822.out (by decide)) BK831.out (by decide)) BK832.out (by decide)) BK838.out (by decide)) BK844.out (by decide)) BK850.out (by decide)).1 k_ hs_.symm).1.1.2) (fun hs_ => ((Kd.R_types (Kd.R_types (Kd.R_types (Kd.R_types (Kd.R_types (Kd.R_types (Kd.R_types (HO826.out) BK821.out (by decide)) BK822.out (by decide)) BK831.out (by decide)) BK832.out (by decide)) BK838.out (by decide)) BK844.out (by decide)) BK850.out (by decide)).1 k_ hs_.symm).1.1.2)) (fun hn_ => (Kd.freshB (g := gb838) (o := .cells #[.bool t833, .slice Ao44 t834.length co44] 27 (0, 0)) (zk BK838.out) k_ hn_)), Or.elim hk_ (fun hs_ => Or.elim hs_ (fun hs_ => ((Kd.R_types (Kd.R_types (Kd.R_types (Kd.R_types (Kd.R_types (Kd.R_types (Kd.R_types (HO820.out) BK821.out (by decide)) BK822.out (by decide)) BK831.out (by decide)) BK832.out (by decide)) BK838.out (by decide)) BK844.out (by decide)) BK850.out (by decide)).1 k_ hs_.symm).1.2) (fun hs_ => ((Kd.R_types (Kd.R_types (Kd.R_types (Kd.R_types (Kd.R_types (Kd.R_types (Kd.R_types (HO826.out) BK821.out (by decide)) BK822.out (by decide)) BK831.out (by decide)) BK832.out (by decide)) BK838.out (by decide)) BK844.out (by decide)) BK850.out (by decide)).1 k_ hs_.symm).1.2)) (fun hn_ => (Kd.freshB (g := gb844) (o := .cells #[.bool t839, .slice Ao55 t840.length co55] 27 (0, 0)) (zk BK844.out) k_ hn_)), Or.elim hk_ (fun hs_ => Or.elim hs_ (fun hs_ => ((Kd.R_types (Kd.R_types (Kd.R_types (Kd.R_types (Kd.R_types (Kd.R_types (Kd.R_types (HO820.out) BK821.out (by decide)) BK822.out (by decide)) BK831.out (by decide)) BK832.out (by decide)) BK838.out (by decide)) BK844.out (by decide)) BK850.out (by decide)).1 k_ hs_.symm).2) (fun hs_ => ((Kd.R_types (Kd.R_types (Kd.R_types (Kd.R_types (Kd.R_types (Kd.R_types (Kd.R_types (HO826.out) BK821.out (by decide)) BK822.out (by decide)) BK831.out (by decide)) BK832.out (by decide)) BK838.out (by decide)) BK844.out (by decide)) BK850.out (by decide)).1 k_ hs_.symm).2)) (fun hn_ => (Kd.freshB (g := gb850) (o := .cells #[.bool t845, .slice Ao68 t846.length co68] 27 (0, 0)) (zk BK850.out) k_ hn_))⟩)) (below_size zb)); have n8_ := Aside0.mk (blk_below (g := gb821) (o := .cells #[.bool t813, .slice Ao18 t814.length co18] 27 (0, 0)) (zk BK821.out) hb); have n9_ := Aside0.mk (blk_below (g := gb822) (o := .cells #[.bool t817, .slice Ao20 t818.length co20] 27 (0, 0)) (zk BK822.out) hb); have n10_ := Aside0.mk (blk_below (g := gb831) (o := .cells #[.bool t823, .slice Ao28 t824.length co28] 27 (0, 0)) (zk BK831.out) hb); have n11_ := Aside0.mk (blk_below (g := gb832) (o := .cells #[.bool t827, .slice Ao33 t828.length co33] 27 (0, 0)) (zk BK832.out) hb); have n12_ := Aside0.mk (blk_below (g := gb838) (o := .cells #[.bool t833, .slice Ao44 t834.length co44] 27 (0, 0)) (zk BK838.out) hb); have n13_ := Aside0.mk (blk_below (g := gb844) (o := .cells #[.bool t839, .slice Ao55 t840.length co55] 27 (0, 0)) (zk BK844.out) hb); have n14_ := Aside0.mk (blk_below (g := gb850) (o := .cells #[.bool t845, .slice Ao68 t846.length co68] 27 (0, 0)) (zk BK850.out) hb); have n15_ := Aside0.mk (below_step zb hb); clear HO816; clear HO820; clear HO826; clear HO830; clear HO836; clear HO842; clear HO848; clear BK821; clear BK822; clear BK831; clear BK832; clear BK838; clear BK844; clear BK850; clear HB; have HO816 := n0_; have HO820 := n1_; have HO826 := n2_; have HO830 := n3_; have HO836 := n4_; have HO842 := n5_; have HO848 := n6_; have HO854 := n7_; have BK821 := n8_; have BK822 := n9_; have BK831 := n10_; have BK832 := n11_; have BK838 := n12_; have BK844 := n13_; have BK850 := n14_; have HB := n15_; clear n0_ n1_ n2_ n3_ n4_ n5_ n6_ n7_ n8_ n9_ n10_ n11_ n12_ n13_ n14_ n15_; (try clear hb); (try clear hb2); (try clear hk); (try clear hi); (try clear ho0)) | ((with_reducible refine gate_dst (N := 15) rfl ?_); (try (refine gate_guard (by rfl) ?_; dsimp only)); refine box_event ?hg (N := 15) ?hd (cs := #[.bool false, .slice none 0 0]) (t := 27) ?hr ?_; (case hd => rfl); (case hg => rfl); (case hr => first | (go_simp; done) | (go_simp; rfl)); intro gb856 hg w73 hbox hb; have n0_ := Aside0.mk (Kd.R_below (zR HO816.out) hb); have n1_ := Aside0.mk (Kd.R_below (zR HO820.out) hb); have n2_ := Aside0.mk (Kd.R_below (zR HO826.out) hb); have n3_ := Aside0.mk (Kd.R_below (zR HO830.out) hb); have n4_ := Aside0.mk (Kd.V_below (Kd.V_elderB (zV HO836.out) gb856 (Nat.le_of_eq hg.symm)) hb); have n5_ := Aside0.mk (Kd.R_below (zR HO842.out) hb); have n6_ := Aside0.mk (Kd.V_below (Kd.V_elderB (zV HO848.out) gb856 (Nat.le_of_eq hg.symm)) hb); have n7_ := Aside0.mk (Kd.V_below (Kd.V_elderB (zV HO854.out) gb856 (Nat.le_of_eq hg.symm)) hb); have n8_ := Aside0.mk (blk_below (g := gb821) (o := .cells #[.bool t813, .slice Ao18 t814.length co18] 27 (0, 0)) (zk BK821.out) hb); have n9_ := Aside0.mk (blk_below (g := gb822) (o := .cells #[.bool t817, .slice Ao20 t818.length co20] 27 (0, 0)) (zk BK822.out) hb); have n10_ := Aside0.mk (blk_below (g := gb831) (o := .cells #[.bool t823, .slice Ao28 t824.length co28] 27 (0, 0)) (zk BK831.out) hb); have n11_ := Aside0.mk (blk_below (g := gb832) (o := .cells #[.bool t827, .slice Ao33 t828.length co33] 27 (0, 0)) (zk BK832.out) hb); have n12_ := Aside0.mk (blk_below (g := gb838) (o := .cells #[.bool t833, .slice Ao44 t834.length co44] 27 (0, 0)) (zk BK838.out) hb); have n13_ := Aside0.mk (blk_below (g := gb844) (o := .cells #[.bool t839, .slice Ao55 t840.length co55] 27 (0, 0)) (zk BK844.out) hb); have n14_ := Aside0.mk (blk_below (g := gb850) (o := .cells #[.bool t845, .slice Ao68 t846.length co68] 27 (0, 0)) (zk BK850.out) hb); have n15_ := Aside0.mk (below_step zb hb); have n16_ := Aside0.mk (hbox); have n17_ := Aside0.mk ((by rw [hg]; exact (below_size zb) : w.heap.size ≤ gb856)); have n18_ := Aside0.mk ((by rw [hg]; exact (below_size zb) : w.heap.size ≤ gb856)); have n19_ := Aside0.mk ((by rw [hg]; exact Nat.ne_of_lt (blk_lt (g := gb821) (o := .cells #[.bool t813, .slice Ao18 t814.length co18] 27 (0, 0)) (zk BK821.out)) : gb821 ≠ gb856)); have n20_ := Aside0.mk ((by rw [hg]; exact Nat.ne_of_gt (blk_lt (g := gb821) (o := .cells #[.bool t813, .slice Ao18 t814.length co18] 27 (0, 0)) (zk BK821.out)) : gb856 ≠ gb821)); have n21_ := Aside0.mk ((by rw [hg]; exact Nat.ne_of_lt (blk_lt (g := gb822) (o := .cells #[.bool t817, .slice Ao20 t818.length co20] 27 (0, 0)) (zk BK822.out)) : gb822 ≠ gb856)); have n22_ := Aside0.mk ((by rw [hg]; exact Nat.ne_of_gt (blk_lt (g := gb822) (o := .cells #[.bool t817, .slice Ao20 t818.length co20] 27 (0, 0)) (zk BK822.out)) : gb856 ≠ gb822)); have n23_ := Aside0.mk ((by rw [hg]; exact Nat.ne_of_lt (blk_lt (g := gb831) (o := .cells #[.bool t823, .slice Ao28 t824.length co28] 27 (0, 0)) (zk BK831.out)) : gb831 ≠ gb856)); have n24_ := Aside0.mk ((by rw [hg]; exact Nat.ne_of_gt (blk_lt (g := gb831) (o := .cells #[.bool t823, .slice Ao28 t824.length co28] 27 (0, 0)) (zk BK831.out)) : gb856 ≠ gb831)); have n25_ := Aside0.mk ((by rw [hg]; exact Nat.ne_of_lt (blk_lt (g := gb832) (o := .cells #[.bool t827, .slice Ao33 t828.length co33] 27 (0, 0)) (zk BK832.out)) : gb832 ≠ gb856)); have n26_ := Aside0.mk ((by rw [hg]; exact Nat.ne_of_gt (blk_lt (g := gb832) (o := .cells #[.bool t827, .slice Ao33 t828.length co33] 27 (0, 0)) (zk BK832.out)) : gb856 ≠ gb832)); have n27_ := Aside0.mk ((by rw [hg]; exact Nat.ne_of_lt (blk_lt (g := gb838) (o := .cells #[.bool t833, .slice Ao44 t834.length co44] 27 (0, 0)) (zk BK838.out)) : gb838 ≠ gb856)); have n28_ := Aside0.mk ((by rw [hg]; exact Nat.ne_of_gt (blk_lt (g := gb838) (o := .cells #[.bool t833, .slice Ao44 t834.length co44] 27 (0, 0)) (zk BK838.out)) : gb856 ≠ gb838)); have n29_ := Aside0.mk ((by rw [hg]; exact Nat.ne_of_lt (blk_lt (g := gb844) (o := .cells #[.bool t839, .slice Ao55 t840.length co55] 27 (0, 0)) (zk BK844.out)) : gb844 ≠ gb856)); have n30_ := Aside0.mk ((by rw [hg]; exact Nat.ne_of_gt (blk_lt (g := gb844) (o := .cells #[.bool t839, .slice Ao55 t840.length co55] 27 (0, 0)) (zk BK844.out)) : gb856 ≠ gb844)); have n31_ := Aside0.mk ((by rw [hg]; exact Nat.ne_of_lt (blk_lt (g := gb850) (o := .cells #[.bool t845, .slice Ao68 t846.length co68] 27 (0, 0)) (zk BK850.out)) : gb850 ≠ gb856)); have n32_ := Aside0.mk ((by rw [hg]; exact Nat.ne_of_gt (blk_lt (g := gb850) (o := .cells #[.bool t845, .slice Ao68 t846.length co68] 27 (0, 0)) (zk BK850.out)) : gb856 ≠ gb850)); clear HO816; clear HO820; clear HO826; clear HO830; clear HO836; clear HO842; clear HO848; clear HO854; clear BK821; clear BK822; clear BK831; clear BK832; clear BK838; clear BK844; clear BK850; clear HB; have HO816 := n0_; have HO820 := n1_; have HO826 := n2_; have HO830 := n3_; have HO836 := n4_; have HO842 := n5_; have HO848 := n6_; have HO854 := n7_; have BK821 := n8_; have BK822 := n9_; have BK831 := n10_; have BK832 := n11_; have BK838 := n12_; have BK844 := n13_; have BK850 := n14_; have HB := n15_; have BK856 := n16_; have GW856 := n17_; have GE856 := n18_; have NB821_856 := n19_; have NB856_821 := n20_; have NB822_856 := n21_; have NB856_822 := n22_; have NB831_856 := n23_; have NB856_831 := n24_; have NB832_856 := n25_; have NB856_832 := n26_; have NB838_856 := n27_; have NB856_838 := n28_; have NB844_856 := n29_; have NB856_844 := n30_; have NB850_856 := n31_; have NB856_850 := n32_; clear n0_ n1_ n2_ n3_ n4_ n5_ n6_ n7_ n8_ n9_ n10_ n11_ n12_ n13_ n14_ n15_ n16_ n17_ n18_ n19_ n20_ n21_ n22_ n23_ n24_ n25_ n26_ n27_ n28_ n29_ n30_ n31_ n32_; clear hb hbox hg; have hnb74 := NB856_821.out; have hnc74 := NB821_856.out; have hnb75 := NB856_822.out; have hnc75 := NB822_856.out; have hnb76 := NB856_831.out; have hnc76 := NB831_856.out; have hnb77 := NB856_832.out; have hnc77 := NB832_856.out; have hnb78 := NB856_838.out; have hnc78 := NB838_856.out; have hnb79 := NB856_844.out; have hnc79 := NB844_856.out; have hnb80 := NB856_850.out; have hnc80 := NB850_856.out; have hcz81_0 : w73.cell? ⟨gb856, 0, none⟩ = some (.bool false) := (blk_cell BK856.out 0).trans rfl; have hcz81_1 : w73.cell? ⟨gb856, 1, none⟩ = some (.slice none 0 0) := (blk_cell BK856.out 1).trans rfl; have hfz81_0 := blk_frozen BK856.out 0; have hfz81_1 := blk_frozen BK856.out 1; obtain ⟨Ao82, co82, eo82⟩ := Kd.V_slice HO854.out; subst eo82))
        (try simp only [Act.put, List.setIfInBounds_toArray, List.set_cons_zero, List.set_cons_succ])
        go_cut [83] (fun v83 wc => ∃ (kq : Nat) (x83_11 : Bool), v83 = .bool x83_11 ∧ Aside0 (laws_FnBigParts.j1 kq t837 t843 x83_11 t813 t814 t833 t834 t839 t840 t845 t846 t851 t852 = some r) ∧ Aside0 (kq ≤ kj2) ∧ Aside0 (Kd.R (Kd.int .i64) 3 wc w.heap.size (fun k_ => some k_ ≠ ((.slice Ao20 t818.length co20) : Value).ownBlock ∧ some k_ ≠ ((.slice Ao28 t824.length co28) : Value).ownBlock ∧ some k_ ≠ ((.slice Ao33 t828.length co33) : Value).ownBlock ∧ some k_ ≠ ((.slice Ao55 t840.length co55) : Value).ownBlock) (.slice Ao18 t814.length co18) t814) ∧ Aside0 (Kd.R (Kd.int .i64) 3 wc w.heap.size (fun k_ => some k_ ≠ ((.slice Ao18 t814.length co18) : Value).ownBlock ∧ some k_ ≠ ((.slice Ao28 t824.length co28) : Value).ownBlock ∧ some k_ ≠ ((.slice Ao33 t828.length co33) : Value).ownBlock ∧ some k_ ≠ ((.slice Ao55 t840.length co55) : Value).ownBlock) (.slice Ao20 t818.length co20) t818) ∧ Aside0 (Kd.R (Kd.int .i64) 3 wc w.heap.size (fun k_ => some k_ ≠ ((.slice Ao18 t814.length co18) : Value).ownBlock ∧ some k_ ≠ ((.slice Ao20 t818.length co20) : Value).ownBlock ∧ some k_ ≠ ((.slice Ao33 t828.length co33) : Value).ownBlock ∧ some k_ ≠ ((.slice Ao55 t840.length co55) : Value).ownBlock) (.slice Ao28 t824.length co28) t824) ∧ Aside0 (Kd.R (Kd.int .i64) 3 wc w.heap.size (fun k_ => some k_ ≠ ((.slice Ao18 t814.length co18) : Value).ownBlock ∧ some k_ ≠ ((.slice Ao20 t818.length co20) : Value).ownBlock ∧ some k_ ≠ ((.slice Ao28 t824.length co28) : Value).ownBlock ∧ some k_ ≠ ((.slice Ao55 t840.length co55) : Value).ownBlock) (.slice Ao33 t828.length co33) t828) ∧ Aside0 (Kd.V (Kd.int .i64) 3 wc w.heap.size (fun k_ => some k_ ≠ ((.slice Ao28 t824.length co28) : Value).ownBlock ∧ some k_ ≠ ((.slice Ao33 t828.length co33) : Value).ownBlock ∧ some k_ ≠ ((.slice Ao55 t840.length co55) : Value).ownBlock ∧ k_ ≠ gb821 ∧ k_ ≠ gb822 ∧ k_ ≠ gb831 ∧ k_ ≠ gb832 ∧ k_ ≠ gb838 ∧ k_ ≠ gb844 ∧ k_ ≠ gb850 ∧ k_ ≠ gb856) (.slice Ao44 t834.length co44) t834) ∧ Aside0 (Kd.R (Kd.int .i64) 3 wc w.heap.size (fun k_ => some k_ ≠ ((.slice Ao18 t814.length co18) : Value).ownBlock ∧ some k_ ≠ ((.slice Ao20 t818.length co20) : Value).ownBlock ∧ some k_ ≠ ((.slice Ao28 t824.length co28) : Value).ownBlock ∧ some k_ ≠ ((.slice Ao33 t828.length co33) : Value).ownBlock) (.slice Ao55 t840.length co55) t840) ∧ Aside0 (Kd.V (Kd.int .i64) 3 wc w.heap.size (fun k_ => some k_ ≠ ((.slice Ao20 t818.length co20) : Value).ownBlock ∧ some k_ ≠ ((.slice Ao33 t828.length co33) : Value).ownBlock ∧ some k_ ≠ ((.slice Ao55 t840.length co55) : Value).ownBlock ∧ k_ ≠ gb821 ∧ k_ ≠ gb822 ∧ k_ ≠ gb831 ∧ k_ ≠ gb832 ∧ k_ ≠ gb838 ∧ k_ ≠ gb844 ∧ k_ ≠ gb850 ∧ k_ ≠ gb856) (.slice Ao68 t846.length co68) t846) ∧ Aside0 (Kd.V (Kd.int .i64) 3 wc w.heap.size (fun k_ => some k_ ≠ ((.slice Ao18 t814.length co18) : Value).ownBlock ∧ some k_ ≠ ((.slice Ao33 t828.length co33) : Value).ownBlock ∧ some k_ ≠ ((.slice Ao55 t840.length co55) : Value).ownBlock ∧ k_ ≠ gb821 ∧ k_ ≠ gb822 ∧ k_ ≠ gb831 ∧ k_ ≠ gb832 ∧ k_ ≠ gb838 ∧ k_ ≠ gb844 ∧ k_ ≠ gb850 ∧ k_ ≠ gb856) (.slice Ao82 t852.length co82) t852) ∧ Aside0 (wc.heap[gb821]? = some (.cells #[.bool t813, (.slice Ao18 t814.length co18)] 27 (0, 0))) ∧ Aside0 (wc.heap[gb822]? = some (.cells #[.bool t817, (.slice Ao20 t818.length co20)] 27 (0, 0))) ∧ Aside0 (wc.heap[gb831]? = some (.cells #[.bool t823, (.slice Ao28 t824.length co28)] 27 (0, 0))) ∧ Aside0 (wc.heap[gb832]? = some (.cells #[.bool t827, (.slice Ao33 t828.length co33)] 27 (0, 0))) ∧ Aside0 (wc.heap[gb838]? = some (.cells #[.bool t833, (.slice Ao44 t834.length co44)] 27 (0, 0))) ∧ Aside0 (wc.heap[gb844]? = some (.cells #[.bool t839, (.slice Ao55 t840.length co55)] 27 (0, 0))) ∧ Aside0 (wc.heap[gb850]? = some (.cells #[.bool t845, (.slice Ao68 t846.length co68)] 27 (0, 0))) ∧ Aside0 (wc.heap[gb856]? = some (.cells #[.bool t851, (.slice Ao82 t852.length co82)] 27 (0, 0))) ∧ Aside0 (Below w.heap.size w wc))
        case first =>
          have H := HC12.out
          clear HC12
          by_cases c83 : (t837 != t843) = true
          · rw [if_pos c83] at H
            exact absurd H (by simp)
          · rw [if_neg c83] at H
            have c83b0 : (t837 != t843) = false := by simpa using c83
            (try (have c83b1 : decide (t837 = t843) = true := by simpa using c83))
            (try (have c83b2 : (t837 == t843) = true := by simpa using c83))
            clear c83
            (first | rw [c83b0] | (simp only [i64_w, i32_w]; rw [c83b0]) | skip)
            replace H := Option.bind_eq_some_iff.mp H
            obtain ⟨t857, A840, H⟩ := H
            replace H : (if t857 = true then (if t837 = true then (if t849 = true then (laws_FnBigParts.j1 kj2 t837 t843 (!t855) t813 t814 t833 t834 t839 t840 t845 t846 t851 t852) else (laws_FnBigParts.j1 kj2 t837 t843 true t813 t814 t833 t834 t839 t840 t845 t846 t851 t852)) else (laws_FnBigParts.j1 kj2 t837 t843 true t813 t814 t833 t834 t839 t840 t845 t846 t851 t852)) else (laws_FnBigParts.j1 kj2 t837 t843 true t813 t814 t833 t834 t839 t840 t845 t846 t851 t852)) = some r := H
            have A84 := Aside0.mk A840
            clear A840
            by_cases c85 : t857 = true
            · subst c85
              have H1 : (if t837 = true then (if t849 = true then (laws_FnBigParts.j1 kj2 t837 t843 (!t855) t813 t814 t833 t834 t839 t840 t845 t846 t851 t852) else (laws_FnBigParts.j1 kj2 t837 t843 true t813 t814 t833 t834 t839 t840 t845 t846 t851 t852)) else (laws_FnBigParts.j1 kj2 t837 t843 true t813 t814 t833 t834 t839 t840 t845 t846 t851 t852)) = some r := by rw [if_pos rfl] at H; exact H
              clear H
              have H := H1
              clear H1
              by_cases c86 : t837 = true
              · subst c86
                have H1 : (if t849 = true then (laws_FnBigParts.j1 kj2 true t843 (!t855) t813 t814 t833 t834 t839 t840 t845 t846 t851 t852) else (laws_FnBigParts.j1 kj2 true t843 true t813 t814 t833 t834 t839 t840 t845 t846 t851 t852)) = some r := by rw [if_pos rfl] at H; exact H
                clear H
                have H := H1
                clear H1
                by_cases c87 : t849 = true
                · subst c87
                  have H1 : (laws_FnBigParts.j1 kj2 true t843 (!t855) t813 t814 t833 t834 t839 t840 t845 t846 t851 t852) = some r := by rw [if_pos rfl] at H; exact H
                  clear H
                  have H := H1
                  clear H1
                  have H' := Aside0.mk H
                  clear H
                  have hnb88 := NB838_821.out
                  have hnc88 := NB821_838.out
                  have hnb89 := NB838_822.out
                  have hnc89 := NB822_838.out
                  have hnb90 := NB838_831.out
                  have hnc90 := NB831_838.out
                  have hnb91 := NB838_832.out
                  have hnc91 := NB832_838.out
                  have hnb92 := NB838_844.out
                  have hnc92 := NB844_838.out
                  have hnb93 := NB838_850.out
                  have hnc93 := NB850_838.out
                  have hnb94 := NB838_856.out
                  have hnc94 := NB856_838.out
                  have hcz95_0 : w73.cell? ⟨gb838, 0, none⟩ = some (.bool t833) := (blk_cell BK838.out 0).trans rfl
                  have hcz95_1 : w73.cell? ⟨gb838, 1, none⟩ = some (.slice Ao44 t834.length co44) := (blk_cell BK838.out 1).trans rfl
                  have hfz95_0 := blk_frozen BK838.out 0
                  have hfz95_1 := blk_frozen BK838.out 1
                  have hnb96 := NB844_821.out
                  have hnc96 := NB821_844.out
                  have hnb97 := NB844_822.out
                  have hnc97 := NB822_844.out
                  have hnb98 := NB844_831.out
                  have hnc98 := NB831_844.out
                  have hnb99 := NB844_832.out
                  have hnc99 := NB832_844.out
                  have hnb100 := NB844_850.out
                  have hnc100 := NB850_844.out
                  have hnb101 := NB844_856.out
                  have hnc101 := NB856_844.out
                  have hcz102_0 : w73.cell? ⟨gb844, 0, none⟩ = some (.bool t839) := (blk_cell BK844.out 0).trans rfl
                  have hcz102_1 : w73.cell? ⟨gb844, 1, none⟩ = some (.slice Ao55 t840.length co55) := (blk_cell BK844.out 1).trans rfl
                  have hfz102_0 := blk_frozen BK844.out 0
                  have hfz102_1 := blk_frozen BK844.out 1
                  go_wp2_with (first | (go_at_call 31; (with_reducible refine (laws_jtBig.calls kj2 t833 _ _ t834 t839 _ _ t840 true _ ?side1 ?side2 ?side3 ?side4 A84.out).mono ?_); (case side1 => refine (Kd.V_reads' (e := 3) (base := w.heap.size) (ok := fun k_ => ((some k_ ≠ (.slice Ao28 t824.length co28 : Value).ownBlock ∧ (some k_ ≠ (.slice Ao33 t828.length co33 : Value).ownBlock ∧ (some k_ ≠ (.slice Ao55 t840.length co55 : Value).ownBlock ∧ (k_ ≠ gb821 ∧ (k_ ≠ gb822 ∧ (k_ ≠ gb831 ∧ (k_ ≠ gb832 ∧ (k_ ≠ gb838 ∧ (k_ ≠ gb844 ∧ k_ ≠ gb850))))))))) ∧ k_ ≠ gb856)) (n := t834.length) (c := co44) ?_).2.2; exact (by (with_reducible repeat (first | apply Kd.V_alloc | apply Kd.V_drewN | apply Kd.V_drew)); exact (Kd.V_mono (Kd.V_far (p := ⟨gb856, 1, none⟩) (Kd.V_far (p := ⟨gb856, 0, none⟩) (Kd.V_mono HO836.out (fun k_ hk => (⟨hk, hk.2⟩ : _ ∧ k_ ≠ gb856))) (fun _ hk => hk.2) (.bool t851)) (fun _ hk => hk.2) (.slice Ao82 t852.length co82)) (fun _ h_ => h_.1)))); (case side2 => exact (Kd.V_reads' HO836.out).2.1); (case side3 => refine (Kd.R_reads' (e := 3) (base := w.heap.size) (ok := fun k_ => (some k_ ≠ (.slice Ao18 t814.length co18 : Value).ownBlock ∧ (some k_ ≠ (.slice Ao20 t818.length co20 : Value).ownBlock ∧ (some k_ ≠ (.slice Ao28 t824.length co28 : Value).ownBlock ∧ some k_ ≠ (.slice Ao33 t828.length co33 : Value).ownBlock)))) (n := t840.length) (c := co55) ?_).2.2; exact (by (with_reducible repeat (first | apply Kd.R_alloc | apply Kd.R_drewN | apply Kd.R_drew)); exact (Kd.R_mono (Kd.R_far (p := ⟨gb856, 1, none⟩) (Kd.R_far (p := ⟨gb856, 0, none⟩) (Kd.R_types HO842.out BK856.out (by decide)) (fun _ hk => hk.2) (.bool t851)) (fun _ hk => hk.2) (.slice Ao82 t852.length co82)) (fun _ h_ => h_.1)))); (case side4 => exact (Kd.R_reads' HO842.out).2.1); rintro e w103 ⟨rfl, hb⟩; have n0_ := Aside0.mk (Kd.R_below (by (with_reducible repeat (first | apply Kd.R_alloc | apply Kd.R_drewN | apply Kd.R_drew)); exact (Kd.R_mono (Kd.R_far (p := ⟨gb856, 1, none⟩) (Kd.R_far (p := ⟨gb856, 0, none⟩) (Kd.R_types HO816.out BK856.out (by decide)) (fun _ hk => hk.2) (.bool t851)) (fun _ hk => hk.2) (.slice Ao82 t852.length co82)) (fun _ h_ => h_.1))) hb); have n1_ := Aside0.mk (Kd.R_below (by (with_reducible repeat (first | apply Kd.R_alloc | apply Kd.R_drewN | apply Kd.R_drew)); exact (Kd.R_mono (Kd.R_far (p := ⟨gb856, 1, none⟩) (Kd.R_far (p := ⟨gb856, 0, none⟩) (Kd.R_types HO820.out BK856.out (by decide)) (fun _ hk => hk.2) (.bool t851)) (fun _ hk => hk.2) (.slice Ao82 t852.length co82)) (fun _ h_ => h_.1))) hb); have n2_ := Aside0.mk (Kd.R_below (by (with_reducible repeat (first | apply Kd.R_alloc | apply Kd.R_drewN | apply Kd.R_drew)); exact (Kd.R_mono (Kd.R_far (p := ⟨gb856, 1, none⟩) (Kd.R_far (p := ⟨gb856, 0, none⟩) (Kd.R_types HO826.out BK856.out (by decide)) (fun _ hk => hk.2) (.bool t851)) (fun _ hk => hk.2) (.slice Ao82 t852.length co82)) (fun _ h_ => h_.1))) hb); have n3_ := Aside0.mk (Kd.R_below (by (with_reducible repeat (first | apply Kd.R_alloc | apply Kd.R_drewN | apply Kd.R_drew)); exact (Kd.R_mono (Kd.R_far (p := ⟨gb856, 1, none⟩) (Kd.R_far (p := ⟨gb856, 0, none⟩) (Kd.R_types HO830.out BK856.out (by decide)) (fun _ hk => hk.2) (.bool t851)) (fun _ hk => hk.2) (.slice Ao82 t852.length co82)) (fun _ h_ => h_.1))) hb); have n4_ := Aside0.mk (Kd.V_below (by (with_reducible repeat (first | apply Kd.V_alloc | apply Kd.V_drewN | apply Kd.V_drew)); exact (Kd.V_mono (Kd.V_far (p := ⟨gb856, 1, none⟩) (Kd.V_far (p := ⟨gb856, 0, none⟩) (Kd.V_mono HO836.out (fun k_ hk => (⟨hk, hk.2⟩ : _ ∧ k_ ≠ gb856))) (fun _ hk => hk.2) (.bool t851)) (fun _ hk => hk.2) (.slice Ao82 t852.length co82)) (fun _ h_ => h_.1))) hb); have n5_ := Aside0.mk (Kd.R_below (by (with_reducible repeat (first | apply Kd.R_alloc | apply Kd.R_drewN | apply Kd.R_drew)); exact (Kd.R_mono (Kd.R_far (p := ⟨gb856, 1, none⟩) (Kd.R_far (p := ⟨gb856, 0, none⟩) (Kd.R_types HO842.out BK856.out (by decide)) (fun _ hk => hk.2) (.bool t851)) (fun _ hk => hk.2) (.slice Ao82 t852.length co82)) (fun _ h_ => h_.1))) hb); have n6_ := Aside0.mk (Kd.V_below (by (with_reducible repeat (first | apply Kd.V_alloc | apply Kd.V_drewN | apply Kd.V_drew)); exact (Kd.V_mono (Kd.V_far (p := ⟨gb856, 1, none⟩) (Kd.V_far (p := ⟨gb856, 0, none⟩) (Kd.V_mono HO848.out (fun k_ hk => (⟨hk, hk.2⟩ : _ ∧ k_ ≠ gb856))) (fun _ hk => hk.2) (.bool t851)) (fun _ hk => hk.2) (.slice Ao82 t852.length co82)) (fun _ h_ => h_.1))) hb); have n7_ := Aside0.mk (Kd.V_below (by (with_reducible repeat (first | apply Kd.V_alloc | apply Kd.V_drewN | apply Kd.V_drew)); exact (Kd.V_mono (Kd.V_far (p := ⟨gb856, 1, none⟩) (Kd.V_far (p := ⟨gb856, 0, none⟩) (Kd.V_mono HO854.out (fun k_ hk => (⟨hk, hk.2⟩ : _ ∧ k_ ≠ gb856))) (fun _ hk => hk.2) (.bool t851)) (fun _ hk => hk.2) (.slice Ao82 t852.length co82)) (fun _ h_ => h_.1))) hb); have n8_ := Aside0.mk (blk_below (g := gb821) (o := .cells #[.bool t813, .slice Ao18 t814.length co18] 27 (0, 0)) (zk BK821.out) hb); have n9_ := Aside0.mk (blk_below (g := gb822) (o := .cells #[.bool t817, .slice Ao20 t818.length co20] 27 (0, 0)) (zk BK822.out) hb); have n10_ := Aside0.mk (blk_below (g := gb831) (o := .cells #[.bool t823, .slice Ao28 t824.length co28] 27 (0, 0)) (zk BK831.out) hb); have n11_ := Aside0.mk (blk_below (g := gb832) (o := .cells #[.bool t827, .slice Ao33 t828.length co33] 27 (0, 0)) (zk BK832.out) hb); have n12_ := Aside0.mk (blk_below (g := gb838) (o := .cells #[.bool t833, .slice Ao44 t834.length co44] 27 (0, 0)) (zk BK838.out) hb); have n13_ := Aside0.mk (blk_below (g := gb844) (o := .cells #[.bool t839, .slice Ao55 t840.length co55] 27 (0, 0)) (zk BK844.out) hb); have n14_ := Aside0.mk (blk_below (g := gb850) (o := .cells #[.bool t845, .slice Ao68 t846.length co68] 27 (0, 0)) (zk BK850.out) hb); have n15_ := Aside0.mk (blk_below (g := gb856) (o := .cells #[.bool t851, .slice Ao82 t852.length co82] 27 (0, 0)) (by (with_reducible repeat (first | refine blk_drewN ?_ _ | refine blk_drew ?_ | refine blk_alloc ?_ _)); refine blk_put (cs := #[.bool t851, .slice none 0 0]) ?_ 1 _ rfl; (with_reducible repeat (first | refine blk_drewN ?_ _ | refine blk_drew ?_ | refine blk_alloc ?_ _)); refine blk_put (cs := #[.bool false, .slice none 0 0]) ?_ 0 _ rfl; (with_reducible repeat (first | refine blk_drewN ?_ _ | refine blk_drew ?_ | refine blk_alloc ?_ _)); exact BK856.out) hb); have n16_ := Aside0.mk (below_step zb hb); clear HO816; clear HO820; clear HO826; clear HO830; clear HO836; clear HO842; clear HO848; clear HO854; clear BK821; clear BK822; clear BK831; clear BK832; clear BK838; clear BK844; clear BK850; clear BK856; clear HB; have HO816 := n0_; have HO820 := n1_; have HO826 := n2_; have HO830 := n3_; have HO836 := n4_; have HO842 := n5_; have HO848 := n6_; have HO854 := n7_; have BK821 := n8_; have BK822 := n9_; have BK831 := n10_; have BK832 := n11_; have BK838 := n12_; have BK844 := n13_; have BK850 := n14_; have BK856 := n15_; have HB := n16_; clear n0_ n1_ n2_ n3_ n4_ n5_ n6_ n7_ n8_ n9_ n10_ n11_ n12_ n13_ n14_ n15_ n16_; (try clear hb); (try clear hb2); (try clear hk); (try clear hi)))
                  go_meet
                  case rel => exact ⟨_, (!t855), (by first | rfl | (simp; done) | (simp [*]; done)), H', ⟨by have := HJ2.out; first | omega | exact Nat.le_refl _⟩, ⟨by (with_reducible repeat (first | apply Kd.R_alloc | apply Kd.R_drewN | apply Kd.R_drew)); exact HO816.out⟩, ⟨by (with_reducible repeat (first | apply Kd.R_alloc | apply Kd.R_drewN | apply Kd.R_drew)); exact HO820.out⟩, ⟨by (with_reducible repeat (first | apply Kd.R_alloc | apply Kd.R_drewN | apply Kd.R_drew)); exact HO826.out⟩, ⟨by (with_reducible repeat (first | apply Kd.R_alloc | apply Kd.R_drewN | apply Kd.R_drew)); exact HO830.out⟩, ⟨by (with_reducible repeat (first | apply Kd.V_alloc | apply Kd.V_drewN | apply Kd.V_drew)); exact Kd.V_mono HO836.out (fun _ hk => ⟨hk.1.1, ⟨hk.1.2.1, ⟨hk.1.2.2.1, ⟨hk.1.2.2.2.1, ⟨hk.1.2.2.2.2.1, ⟨hk.1.2.2.2.2.2.1, ⟨hk.1.2.2.2.2.2.2.1, ⟨hk.1.2.2.2.2.2.2.2.1, ⟨hk.1.2.2.2.2.2.2.2.2.1, ⟨hk.1.2.2.2.2.2.2.2.2.2, hk.2⟩⟩⟩⟩⟩⟩⟩⟩⟩⟩)⟩, ⟨by (with_reducible repeat (first | apply Kd.R_alloc | apply Kd.R_drewN | apply Kd.R_drew)); exact HO842.out⟩, ⟨by (with_reducible repeat (first | apply Kd.V_alloc | apply Kd.V_drewN | apply Kd.V_drew)); exact Kd.V_mono HO848.out (fun _ hk => ⟨hk.1.1, ⟨hk.1.2.1, ⟨hk.1.2.2.1, ⟨hk.1.2.2.2.1, ⟨hk.1.2.2.2.2.1, ⟨hk.1.2.2.2.2.2.1, ⟨hk.1.2.2.2.2.2.2.1, ⟨hk.1.2.2.2.2.2.2.2.1, ⟨hk.1.2.2.2.2.2.2.2.2.1, ⟨hk.1.2.2.2.2.2.2.2.2.2, hk.2⟩⟩⟩⟩⟩⟩⟩⟩⟩⟩)⟩, ⟨by (with_reducible repeat (first | apply Kd.V_alloc | apply Kd.V_drewN | apply Kd.V_drew)); exact Kd.V_mono HO854.out (fun _ hk => ⟨hk.1.1, ⟨hk.1.2.1, ⟨hk.1.2.2.1, ⟨hk.1.2.2.2.1, ⟨hk.1.2.2.2.2.1, ⟨hk.1.2.2.2.2.2.1, ⟨hk.1.2.2.2.2.2.2.1, ⟨hk.1.2.2.2.2.2.2.2.1, ⟨hk.1.2.2.2.2.2.2.2.2.1, ⟨hk.1.2.2.2.2.2.2.2.2.2, hk.2⟩⟩⟩⟩⟩⟩⟩⟩⟩⟩)⟩, ⟨by (with_reducible repeat (first | refine blk_drewN ?_ _ | refine blk_drew ?_ | refine blk_alloc ?_ _)); exact BK821.out⟩, ⟨by (with_reducible repeat (first | refine blk_drewN ?_ _ | refine blk_drew ?_ | refine blk_alloc ?_ _)); exact BK822.out⟩, ⟨by (with_reducible repeat (first | refine blk_drewN ?_ _ | refine blk_drew ?_ | refine blk_alloc ?_ _)); exact BK831.out⟩, ⟨by (with_reducible repeat (first | refine blk_drewN ?_ _ | refine blk_drew ?_ | refine blk_alloc ?_ _)); exact BK832.out⟩, ⟨by (with_reducible repeat (first | refine blk_drewN ?_ _ | refine blk_drew ?_ | refine blk_alloc ?_ _)); exact BK838.out⟩, ⟨by (with_reducible repeat (first | refine blk_drewN ?_ _ | refine blk_drew ?_ | refine blk_alloc ?_ _)); exact BK844.out⟩, ⟨by (with_reducible repeat (first | refine blk_drewN ?_ _ | refine blk_drew ?_ | refine blk_alloc ?_ _)); exact BK850.out⟩, ⟨by (with_reducible repeat (first | refine blk_drewN ?_ _ | refine blk_drew ?_ | refine blk_alloc ?_ _)); exact BK856.out⟩, ⟨zb⟩⟩
                · replace c87 := Bool.eq_false_iff.mpr c87
                  subst c87
                  have H1 : (laws_FnBigParts.j1 kj2 true t843 true t813 t814 t833 t834 t839 t840 t845 t846 t851 t852) = some r := by rw [if_neg (show ¬ (false = true) by decide)] at H; exact H
                  clear H
                  have H := H1
                  clear H1
                  have H' := Aside0.mk H
                  clear H
                  have hnb104 := NB838_821.out
                  have hnc104 := NB821_838.out
                  have hnb105 := NB838_822.out
                  have hnc105 := NB822_838.out
                  have hnb106 := NB838_831.out
                  have hnc106 := NB831_838.out
                  have hnb107 := NB838_832.out
                  have hnc107 := NB832_838.out
                  have hnb108 := NB838_844.out
                  have hnc108 := NB844_838.out
                  have hnb109 := NB838_850.out
                  have hnc109 := NB850_838.out
                  have hnb110 := NB838_856.out
                  have hnc110 := NB856_838.out
                  have hcz111_0 : w73.cell? ⟨gb838, 0, none⟩ = some (.bool t833) := (blk_cell BK838.out 0).trans rfl
                  have hcz111_1 : w73.cell? ⟨gb838, 1, none⟩ = some (.slice Ao44 t834.length co44) := (blk_cell BK838.out 1).trans rfl
                  have hfz111_0 := blk_frozen BK838.out 0
                  have hfz111_1 := blk_frozen BK838.out 1
                  have hnb112 := NB844_821.out
                  have hnc112 := NB821_844.out
                  have hnb113 := NB844_822.out
                  have hnc113 := NB822_844.out
                  have hnb114 := NB844_831.out
                  have hnc114 := NB831_844.out
                  have hnb115 := NB844_832.out
                  have hnc115 := NB832_844.out
                  have hnb116 := NB844_850.out
                  have hnc116 := NB850_844.out
                  have hnb117 := NB844_856.out
                  have hnc117 := NB856_844.out
                  have hcz118_0 : w73.cell? ⟨gb844, 0, none⟩ = some (.bool t839) := (blk_cell BK844.out 0).trans rfl
                  have hcz118_1 : w73.cell? ⟨gb844, 1, none⟩ = some (.slice Ao55 t840.length co55) := (blk_cell BK844.out 1).trans rfl
                  have hfz118_0 := blk_frozen BK844.out 0
                  have hfz118_1 := blk_frozen BK844.out 1
                  go_wp2_with (first | (go_at_call 31; (with_reducible refine (laws_jtBig.calls kj2 t833 _ _ t834 t839 _ _ t840 true _ ?side1 ?side2 ?side3 ?side4 A84.out).mono ?_); (case side1 => refine (Kd.V_reads' (e := 3) (base := w.heap.size) (ok := fun k_ => ((some k_ ≠ (.slice Ao28 t824.length co28 : Value).ownBlock ∧ (some k_ ≠ (.slice Ao33 t828.length co33 : Value).ownBlock ∧ (some k_ ≠ (.slice Ao55 t840.length co55 : Value).ownBlock ∧ (k_ ≠ gb821 ∧ (k_ ≠ gb822 ∧ (k_ ≠ gb831 ∧ (k_ ≠ gb832 ∧ (k_ ≠ gb838 ∧ (k_ ≠ gb844 ∧ k_ ≠ gb850))))))))) ∧ k_ ≠ gb856)) (n := t834.length) (c := co44) ?_).2.2; exact (by (with_reducible repeat (first | apply Kd.V_alloc | apply Kd.V_drewN | apply Kd.V_drew)); exact (Kd.V_mono (Kd.V_far (p := ⟨gb856, 1, none⟩) (Kd.V_far (p := ⟨gb856, 0, none⟩) (Kd.V_mono HO836.out (fun k_ hk => (⟨hk, hk.2⟩ : _ ∧ k_ ≠ gb856))) (fun _ hk => hk.2) (.bool t851)) (fun _ hk => hk.2) (.slice Ao82 t852.length co82)) (fun _ h_ => h_.1)))); (case side2 => exact (Kd.V_reads' HO836.out).2.1); (case side3 => refine (Kd.R_reads' (e := 3) (base := w.heap.size) (ok := fun k_ => (some k_ ≠ (.slice Ao18 t814.length co18 : Value).ownBlock ∧ (some k_ ≠ (.slice Ao20 t818.length co20 : Value).ownBlock ∧ (some k_ ≠ (.slice Ao28 t824.length co28 : Value).ownBlock ∧ some k_ ≠ (.slice Ao33 t828.length co33 : Value).ownBlock)))) (n := t840.length) (c := co55) ?_).2.2; exact (by (with_reducible repeat (first | apply Kd.R_alloc | apply Kd.R_drewN | apply Kd.R_drew)); exact (Kd.R_mono (Kd.R_far (p := ⟨gb856, 1, none⟩) (Kd.R_far (p := ⟨gb856, 0, none⟩) (Kd.R_types HO842.out BK856.out (by decide)) (fun _ hk => hk.2) (.bool t851)) (fun _ hk => hk.2) (.slice Ao82 t852.length co82)) (fun _ h_ => h_.1)))); (case side4 => exact (Kd.R_reads' HO842.out).2.1); rintro e w119 ⟨rfl, hb⟩; have n0_ := Aside0.mk (Kd.R_below (by (with_reducible repeat (first | apply Kd.R_alloc | apply Kd.R_drewN | apply Kd.R_drew)); exact (Kd.R_mono (Kd.R_far (p := ⟨gb856, 1, none⟩) (Kd.R_far (p := ⟨gb856, 0, none⟩) (Kd.R_types HO816.out BK856.out (by decide)) (fun _ hk => hk.2) (.bool t851)) (fun _ hk => hk.2) (.slice Ao82 t852.length co82)) (fun _ h_ => h_.1))) hb); have n1_ := Aside0.mk (Kd.R_below (by (with_reducible repeat (first | apply Kd.R_alloc | apply Kd.R_drewN | apply Kd.R_drew)); exact (Kd.R_mono (Kd.R_far (p := ⟨gb856, 1, none⟩) (Kd.R_far (p := ⟨gb856, 0, none⟩) (Kd.R_types HO820.out BK856.out (by decide)) (fun _ hk => hk.2) (.bool t851)) (fun _ hk => hk.2) (.slice Ao82 t852.length co82)) (fun _ h_ => h_.1))) hb); have n2_ := Aside0.mk (Kd.R_below (by (with_reducible repeat (first | apply Kd.R_alloc | apply Kd.R_drewN | apply Kd.R_drew)); exact (Kd.R_mono (Kd.R_far (p := ⟨gb856, 1, none⟩) (Kd.R_far (p := ⟨gb856, 0, none⟩) (Kd.R_types HO826.out BK856.out (by decide)) (fun _ hk => hk.2) (.bool t851)) (fun _ hk => hk.2) (.slice Ao82 t852.length co82)) (fun _ h_ => h_.1))) hb); have n3_ := Aside0.mk (Kd.R_below (by (with_reducible repeat (first | apply Kd.R_alloc | apply Kd.R_drewN | apply Kd.R_drew)); exact (Kd.R_mono (Kd.R_far (p := ⟨gb856, 1, none⟩) (Kd.R_far (p := ⟨gb856, 0, none⟩) (Kd.R_types HO830.out BK856.out (by decide)) (fun _ hk => hk.2) (.bool t851)) (fun _ hk => hk.2) (.slice Ao82 t852.length co82)) (fun _ h_ => h_.1))) hb); have n4_ := Aside0.mk (Kd.V_below (by (with_reducible repeat (first | apply Kd.V_alloc | apply Kd.V_drewN | apply Kd.V_drew)); exact (Kd.V_mono (Kd.V_far (p := ⟨gb856, 1, none⟩) (Kd.V_far (p := ⟨gb856, 0, none⟩) (Kd.V_mono HO836.out (fun k_ hk => (⟨hk, hk.2⟩ : _ ∧ k_ ≠ gb856))) (fun _ hk => hk.2) (.bool t851)) (fun _ hk => hk.2) (.slice Ao82 t852.length co82)) (fun _ h_ => h_.1))) hb); have n5_ := Aside0.mk (Kd.R_below (by (with_reducible repeat (first | apply Kd.R_alloc | apply Kd.R_drewN | apply Kd.R_drew)); exact (Kd.R_mono (Kd.R_far (p := ⟨gb856, 1, none⟩) (Kd.R_far (p := ⟨gb856, 0, none⟩) (Kd.R_types HO842.out BK856.out (by decide)) (fun _ hk => hk.2) (.bool t851)) (fun _ hk => hk.2) (.slice Ao82 t852.length co82)) (fun _ h_ => h_.1))) hb); have n6_ := Aside0.mk (Kd.V_below (by (with_reducible repeat (first | apply Kd.V_alloc | apply Kd.V_drewN | apply Kd.V_drew)); exact (Kd.V_mono (Kd.V_far (p := ⟨gb856, 1, none⟩) (Kd.V_far (p := ⟨gb856, 0, none⟩) (Kd.V_mono HO848.out (fun k_ hk => (⟨hk, hk.2⟩ : _ ∧ k_ ≠ gb856))) (fun _ hk => hk.2) (.bool t851)) (fun _ hk => hk.2) (.slice Ao82 t852.length co82)) (fun _ h_ => h_.1))) hb); have n7_ := Aside0.mk (Kd.V_below (by (with_reducible repeat (first | apply Kd.V_alloc | apply Kd.V_drewN | apply Kd.V_drew)); exact (Kd.V_mono (Kd.V_far (p := ⟨gb856, 1, none⟩) (Kd.V_far (p := ⟨gb856, 0, none⟩) (Kd.V_mono HO854.out (fun k_ hk => (⟨hk, hk.2⟩ : _ ∧ k_ ≠ gb856))) (fun _ hk => hk.2) (.bool t851)) (fun _ hk => hk.2) (.slice Ao82 t852.length co82)) (fun _ h_ => h_.1))) hb); have n8_ := Aside0.mk (blk_below (g := gb821) (o := .cells #[.bool t813, .slice Ao18 t814.length co18] 27 (0, 0)) (zk BK821.out) hb); have n9_ := Aside0.mk (blk_below (g := gb822) (o := .cells #[.bool t817, .slice Ao20 t818.length co20] 27 (0, 0)) (zk BK822.out) hb); have n10_ := Aside0.mk (blk_below (g := gb831) (o := .cells #[.bool t823, .slice Ao28 t824.length co28] 27 (0, 0)) (zk BK831.out) hb); have n11_ := Aside0.mk (blk_below (g := gb832) (o := .cells #[.bool t827, .slice Ao33 t828.length co33] 27 (0, 0)) (zk BK832.out) hb); have n12_ := Aside0.mk (blk_below (g := gb838) (o := .cells #[.bool t833, .slice Ao44 t834.length co44] 27 (0, 0)) (zk BK838.out) hb); have n13_ := Aside0.mk (blk_below (g := gb844) (o := .cells #[.bool t839, .slice Ao55 t840.length co55] 27 (0, 0)) (zk BK844.out) hb); have n14_ := Aside0.mk (blk_below (g := gb850) (o := .cells #[.bool t845, .slice Ao68 t846.length co68] 27 (0, 0)) (zk BK850.out) hb); have n15_ := Aside0.mk (blk_below (g := gb856) (o := .cells #[.bool t851, .slice Ao82 t852.length co82] 27 (0, 0)) (by (with_reducible repeat (first | refine blk_drewN ?_ _ | refine blk_drew ?_ | refine blk_alloc ?_ _)); refine blk_put (cs := #[.bool t851, .slice none 0 0]) ?_ 1 _ rfl; (with_reducible repeat (first | refine blk_drewN ?_ _ | refine blk_drew ?_ | refine blk_alloc ?_ _)); refine blk_put (cs := #[.bool false, .slice none 0 0]) ?_ 0 _ rfl; (with_reducible repeat (first | refine blk_drewN ?_ _ | refine blk_drew ?_ | refine blk_alloc ?_ _)); exact BK856.out) hb); have n16_ := Aside0.mk (below_step zb hb); clear HO816; clear HO820; clear HO826; clear HO830; clear HO836; clear HO842; clear HO848; clear HO854; clear BK821; clear BK822; clear BK831; clear BK832; clear BK838; clear BK844; clear BK850; clear BK856; clear HB; have HO816 := n0_; have HO820 := n1_; have HO826 := n2_; have HO830 := n3_; have HO836 := n4_; have HO842 := n5_; have HO848 := n6_; have HO854 := n7_; have BK821 := n8_; have BK822 := n9_; have BK831 := n10_; have BK832 := n11_; have BK838 := n12_; have BK844 := n13_; have BK850 := n14_; have BK856 := n15_; have HB := n16_; clear n0_ n1_ n2_ n3_ n4_ n5_ n6_ n7_ n8_ n9_ n10_ n11_ n12_ n13_ n14_ n15_ n16_; (try clear hb); (try clear hb2); (try clear hk); (try clear hi)))
                  go_meet
                  case rel => exact ⟨_, (true), (by first | rfl | (simp; done) | (simp [*]; done)), H', ⟨by have := HJ2.out; first | omega | exact Nat.le_refl _⟩, ⟨by (with_reducible repeat (first | apply Kd.R_alloc | apply Kd.R_drewN | apply Kd.R_drew)); exact HO816.out⟩, ⟨by (with_reducible repeat (first | apply Kd.R_alloc | apply Kd.R_drewN | apply Kd.R_drew)); exact HO820.out⟩, ⟨by (with_reducible repeat (first | apply Kd.R_alloc | apply Kd.R_drewN | apply Kd.R_drew)); exact HO826.out⟩, ⟨by (with_reducible repeat (first | apply Kd.R_alloc | apply Kd.R_drewN | apply Kd.R_drew)); exact HO830.out⟩, ⟨by (with_reducible repeat (first | apply Kd.V_alloc | apply Kd.V_drewN | apply Kd.V_drew)); exact Kd.V_mono HO836.out (fun _ hk => ⟨hk.1.1, ⟨hk.1.2.1, ⟨hk.1.2.2.1, ⟨hk.1.2.2.2.1, ⟨hk.1.2.2.2.2.1, ⟨hk.1.2.2.2.2.2.1, ⟨hk.1.2.2.2.2.2.2.1, ⟨hk.1.2.2.2.2.2.2.2.1, ⟨hk.1.2.2.2.2.2.2.2.2.1, ⟨hk.1.2.2.2.2.2.2.2.2.2, hk.2⟩⟩⟩⟩⟩⟩⟩⟩⟩⟩)⟩, ⟨by (with_reducible repeat (first | apply Kd.R_alloc | apply Kd.R_drewN | apply Kd.R_drew)); exact HO842.out⟩, ⟨by (with_reducible repeat (first | apply Kd.V_alloc | apply Kd.V_drewN | apply Kd.V_drew)); exact Kd.V_mono HO848.out (fun _ hk => ⟨hk.1.1, ⟨hk.1.2.1, ⟨hk.1.2.2.1, ⟨hk.1.2.2.2.1, ⟨hk.1.2.2.2.2.1, ⟨hk.1.2.2.2.2.2.1, ⟨hk.1.2.2.2.2.2.2.1, ⟨hk.1.2.2.2.2.2.2.2.1, ⟨hk.1.2.2.2.2.2.2.2.2.1, ⟨hk.1.2.2.2.2.2.2.2.2.2, hk.2⟩⟩⟩⟩⟩⟩⟩⟩⟩⟩)⟩, ⟨by (with_reducible repeat (first | apply Kd.V_alloc | apply Kd.V_drewN | apply Kd.V_drew)); exact Kd.V_mono HO854.out (fun _ hk => ⟨hk.1.1, ⟨hk.1.2.1, ⟨hk.1.2.2.1, ⟨hk.1.2.2.2.1, ⟨hk.1.2.2.2.2.1, ⟨hk.1.2.2.2.2.2.1, ⟨hk.1.2.2.2.2.2.2.1, ⟨hk.1.2.2.2.2.2.2.2.1, ⟨hk.1.2.2.2.2.2.2.2.2.1, ⟨hk.1.2.2.2.2.2.2.2.2.2, hk.2⟩⟩⟩⟩⟩⟩⟩⟩⟩⟩)⟩, ⟨by (with_reducible repeat (first | refine blk_drewN ?_ _ | refine blk_drew ?_ | refine blk_alloc ?_ _)); exact BK821.out⟩, ⟨by (with_reducible repeat (first | refine blk_drewN ?_ _ | refine blk_drew ?_ | refine blk_alloc ?_ _)); exact BK822.out⟩, ⟨by (with_reducible repeat (first | refine blk_drewN ?_ _ | refine blk_drew ?_ | refine blk_alloc ?_ _)); exact BK831.out⟩, ⟨by (with_reducible repeat (first | refine blk_drewN ?_ _ | refine blk_drew ?_ | refine blk_alloc ?_ _)); exact BK832.out⟩, ⟨by (with_reducible repeat (first | refine blk_drewN ?_ _ | refine blk_drew ?_ | refine blk_alloc ?_ _)); exact BK838.out⟩, ⟨by (with_reducible repeat (first | refine blk_drewN ?_ _ | refine blk_drew ?_ | refine blk_alloc ?_ _)); exact BK844.out⟩, ⟨by (with_reducible repeat (first | refine blk_drewN ?_ _ | refine blk_drew ?_ | refine blk_alloc ?_ _)); exact BK850.out⟩, ⟨by (with_reducible repeat (first | refine blk_drewN ?_ _ | refine blk_drew ?_ | refine blk_alloc ?_ _)); exact BK856.out⟩, ⟨zb⟩⟩
              · replace c86 := Bool.eq_false_iff.mpr c86
                subst c86
                have H1 : (laws_FnBigParts.j1 kj2 false t843 true t813 t814 t833 t834 t839 t840 t845 t846 t851 t852) = some r := by rw [if_neg (show ¬ (false = true) by decide)] at H; exact H
                clear H
                have H := H1
                clear H1
                have H' := Aside0.mk H
                clear H
                have hnb120 := NB838_821.out
                have hnc120 := NB821_838.out
                have hnb121 := NB838_822.out
                have hnc121 := NB822_838.out
                have hnb122 := NB838_831.out
                have hnc122 := NB831_838.out
                have hnb123 := NB838_832.out
                have hnc123 := NB832_838.out
                have hnb124 := NB838_844.out
                have hnc124 := NB844_838.out
                have hnb125 := NB838_850.out
                have hnc125 := NB850_838.out
                have hnb126 := NB838_856.out
                have hnc126 := NB856_838.out
                have hcz127_0 : w73.cell? ⟨gb838, 0, none⟩ = some (.bool t833) := (blk_cell BK838.out 0).trans rfl
                have hcz127_1 : w73.cell? ⟨gb838, 1, none⟩ = some (.slice Ao44 t834.length co44) := (blk_cell BK838.out 1).trans rfl
                have hfz127_0 := blk_frozen BK838.out 0
                have hfz127_1 := blk_frozen BK838.out 1
                have hnb128 := NB844_821.out
                have hnc128 := NB821_844.out
                have hnb129 := NB844_822.out
                have hnc129 := NB822_844.out
                have hnb130 := NB844_831.out
                have hnc130 := NB831_844.out
                have hnb131 := NB844_832.out
                have hnc131 := NB832_844.out
                have hnb132 := NB844_850.out
                have hnc132 := NB850_844.out
                have hnb133 := NB844_856.out
                have hnc133 := NB856_844.out
                have hcz134_0 : w73.cell? ⟨gb844, 0, none⟩ = some (.bool t839) := (blk_cell BK844.out 0).trans rfl
                have hcz134_1 : w73.cell? ⟨gb844, 1, none⟩ = some (.slice Ao55 t840.length co55) := (blk_cell BK844.out 1).trans rfl
                have hfz134_0 := blk_frozen BK844.out 0
                have hfz134_1 := blk_frozen BK844.out 1
                go_wp2_with (first | (go_at_call 31; (with_reducible refine (laws_jtBig.calls kj2 t833 _ _ t834 t839 _ _ t840 true _ ?side1 ?side2 ?side3 ?side4 A84.out).mono ?_); (case side1 => refine (Kd.V_reads' (e := 3) (base := w.heap.size) (ok := fun k_ => ((some k_ ≠ (.slice Ao28 t824.length co28 : Value).ownBlock ∧ (some k_ ≠ (.slice Ao33 t828.length co33 : Value).ownBlock ∧ (some k_ ≠ (.slice Ao55 t840.length co55 : Value).ownBlock ∧ (k_ ≠ gb821 ∧ (k_ ≠ gb822 ∧ (k_ ≠ gb831 ∧ (k_ ≠ gb832 ∧ (k_ ≠ gb838 ∧ (k_ ≠ gb844 ∧ k_ ≠ gb850))))))))) ∧ k_ ≠ gb856)) (n := t834.length) (c := co44) ?_).2.2; exact (by (with_reducible repeat (first | apply Kd.V_alloc | apply Kd.V_drewN | apply Kd.V_drew)); exact (Kd.V_mono (Kd.V_far (p := ⟨gb856, 1, none⟩) (Kd.V_far (p := ⟨gb856, 0, none⟩) (Kd.V_mono HO836.out (fun k_ hk => (⟨hk, hk.2⟩ : _ ∧ k_ ≠ gb856))) (fun _ hk => hk.2) (.bool t851)) (fun _ hk => hk.2) (.slice Ao82 t852.length co82)) (fun _ h_ => h_.1)))); (case side2 => exact (Kd.V_reads' HO836.out).2.1); (case side3 => refine (Kd.R_reads' (e := 3) (base := w.heap.size) (ok := fun k_ => (some k_ ≠ (.slice Ao18 t814.length co18 : Value).ownBlock ∧ (some k_ ≠ (.slice Ao20 t818.length co20 : Value).ownBlock ∧ (some k_ ≠ (.slice Ao28 t824.length co28 : Value).ownBlock ∧ some k_ ≠ (.slice Ao33 t828.length co33 : Value).ownBlock)))) (n := t840.length) (c := co55) ?_).2.2; exact (by (with_reducible repeat (first | apply Kd.R_alloc | apply Kd.R_drewN | apply Kd.R_drew)); exact (Kd.R_mono (Kd.R_far (p := ⟨gb856, 1, none⟩) (Kd.R_far (p := ⟨gb856, 0, none⟩) (Kd.R_types HO842.out BK856.out (by decide)) (fun _ hk => hk.2) (.bool t851)) (fun _ hk => hk.2) (.slice Ao82 t852.length co82)) (fun _ h_ => h_.1)))); (case side4 => exact (Kd.R_reads' HO842.out).2.1); rintro e w135 ⟨rfl, hb⟩; have n0_ := Aside0.mk (Kd.R_below (by (with_reducible repeat (first | apply Kd.R_alloc | apply Kd.R_drewN | apply Kd.R_drew)); exact (Kd.R_mono (Kd.R_far (p := ⟨gb856, 1, none⟩) (Kd.R_far (p := ⟨gb856, 0, none⟩) (Kd.R_types HO816.out BK856.out (by decide)) (fun _ hk => hk.2) (.bool t851)) (fun _ hk => hk.2) (.slice Ao82 t852.length co82)) (fun _ h_ => h_.1))) hb); have n1_ := Aside0.mk (Kd.R_below (by (with_reducible repeat (first | apply Kd.R_alloc | apply Kd.R_drewN | apply Kd.R_drew)); exact (Kd.R_mono (Kd.R_far (p := ⟨gb856, 1, none⟩) (Kd.R_far (p := ⟨gb856, 0, none⟩) (Kd.R_types HO820.out BK856.out (by decide)) (fun _ hk => hk.2) (.bool t851)) (fun _ hk => hk.2) (.slice Ao82 t852.length co82)) (fun _ h_ => h_.1))) hb); have n2_ := Aside0.mk (Kd.R_below (by (with_reducible repeat (first | apply Kd.R_alloc | apply Kd.R_drewN | apply Kd.R_drew)); exact (Kd.R_mono (Kd.R_far (p := ⟨gb856, 1, none⟩) (Kd.R_far (p := ⟨gb856, 0, none⟩) (Kd.R_types HO826.out BK856.out (by decide)) (fun _ hk => hk.2) (.bool t851)) (fun _ hk => hk.2) (.slice Ao82 t852.length co82)) (fun _ h_ => h_.1))) hb); have n3_ := Aside0.mk (Kd.R_below (by (with_reducible repeat (first | apply Kd.R_alloc | apply Kd.R_drewN | apply Kd.R_drew)); exact (Kd.R_mono (Kd.R_far (p := ⟨gb856, 1, none⟩) (Kd.R_far (p := ⟨gb856, 0, none⟩) (Kd.R_types HO830.out BK856.out (by decide)) (fun _ hk => hk.2) (.bool t851)) (fun _ hk => hk.2) (.slice Ao82 t852.length co82)) (fun _ h_ => h_.1))) hb); have n4_ := Aside0.mk (Kd.V_below (by (with_reducible repeat (first | apply Kd.V_alloc | apply Kd.V_drewN | apply Kd.V_drew)); exact (Kd.V_mono (Kd.V_far (p := ⟨gb856, 1, none⟩) (Kd.V_far (p := ⟨gb856, 0, none⟩) (Kd.V_mono HO836.out (fun k_ hk => (⟨hk, hk.2⟩ : _ ∧ k_ ≠ gb856))) (fun _ hk => hk.2) (.bool t851)) (fun _ hk => hk.2) (.slice Ao82 t852.length co82)) (fun _ h_ => h_.1))) hb); have n5_ := Aside0.mk (Kd.R_below (by (with_reducible repeat (first | apply Kd.R_alloc | apply Kd.R_drewN | apply Kd.R_drew)); exact (Kd.R_mono (Kd.R_far (p := ⟨gb856, 1, none⟩) (Kd.R_far (p := ⟨gb856, 0, none⟩) (Kd.R_types HO842.out BK856.out (by decide)) (fun _ hk => hk.2) (.bool t851)) (fun _ hk => hk.2) (.slice Ao82 t852.length co82)) (fun _ h_ => h_.1))) hb); have n6_ := Aside0.mk (Kd.V_below (by (with_reducible repeat (first | apply Kd.V_alloc | apply Kd.V_drewN | apply Kd.V_drew)); exact (Kd.V_mono (Kd.V_far (p := ⟨gb856, 1, none⟩) (Kd.V_far (p := ⟨gb856, 0, none⟩) (Kd.V_mono HO848.out (fun k_ hk => (⟨hk, hk.2⟩ : _ ∧ k_ ≠ gb856))) (fun _ hk => hk.2) (.bool t851)) (fun _ hk => hk.2) (.slice Ao82 t852.length co82)) (fun _ h_ => h_.1))) hb); have n7_ := Aside0.mk (Kd.V_below (by (with_reducible repeat (first | apply Kd.V_alloc | apply Kd.V_drewN | apply Kd.V_drew)); exact (Kd.V_mono (Kd.V_far (p := ⟨gb856, 1, none⟩) (Kd.V_far (p := ⟨gb856, 0, none⟩) (Kd.V_mono HO854.out (fun k_ hk => (⟨hk, hk.2⟩ : _ ∧ k_ ≠ gb856))) (fun _ hk => hk.2) (.bool t851)) (fun _ hk => hk.2) (.slice Ao82 t852.length co82)) (fun _ h_ => h_.1))) hb); have n8_ := Aside0.mk (blk_below (g := gb821) (o := .cells #[.bool t813, .slice Ao18 t814.length co18] 27 (0, 0)) (zk BK821.out) hb); have n9_ := Aside0.mk (blk_below (g := gb822) (o := .cells #[.bool t817, .slice Ao20 t818.length co20] 27 (0, 0)) (zk BK822.out) hb); have n10_ := Aside0.mk (blk_below (g := gb831) (o := .cells #[.bool t823, .slice Ao28 t824.length co28] 27 (0, 0)) (zk BK831.out) hb); have n11_ := Aside0.mk (blk_below (g := gb832) (o := .cells #[.bool t827, .slice Ao33 t828.length co33] 27 (0, 0)) (zk BK832.out) hb); have n12_ := Aside0.mk (blk_below (g := gb838) (o := .cells #[.bool t833, .slice Ao44 t834.length co44] 27 (0, 0)) (zk BK838.out) hb); have n13_ := Aside0.mk (blk_below (g := gb844) (o := .cells #[.bool t839, .slice Ao55 t840.length co55] 27 (0, 0)) (zk BK844.out) hb); have n14_ := Aside0.mk (blk_below (g := gb850) (o := .cells #[.bool t845, .slice Ao68 t846.length co68] 27 (0, 0)) (zk BK850.out) hb); have n15_ := Aside0.mk (blk_below (g := gb856) (o := .cells #[.bool t851, .slice Ao82 t852.length co82] 27 (0, 0)) (by (with_reducible repeat (first | refine blk_drewN ?_ _ | refine blk_drew ?_ | refine blk_alloc ?_ _)); refine blk_put (cs := #[.bool t851, .slice none 0 0]) ?_ 1 _ rfl; (with_reducible repeat (first | refine blk_drewN ?_ _ | refine blk_drew ?_ | refine blk_alloc ?_ _)); refine blk_put (cs := #[.bool false, .slice none 0 0]) ?_ 0 _ rfl; (with_reducible repeat (first | refine blk_drewN ?_ _ | refine blk_drew ?_ | refine blk_alloc ?_ _)); exact BK856.out) hb); have n16_ := Aside0.mk (below_step zb hb); clear HO816; clear HO820; clear HO826; clear HO830; clear HO836; clear HO842; clear HO848; clear HO854; clear BK821; clear BK822; clear BK831; clear BK832; clear BK838; clear BK844; clear BK850; clear BK856; clear HB; have HO816 := n0_; have HO820 := n1_; have HO826 := n2_; have HO830 := n3_; have HO836 := n4_; have HO842 := n5_; have HO848 := n6_; have HO854 := n7_; have BK821 := n8_; have BK822 := n9_; have BK831 := n10_; have BK832 := n11_; have BK838 := n12_; have BK844 := n13_; have BK850 := n14_; have BK856 := n15_; have HB := n16_; clear n0_ n1_ n2_ n3_ n4_ n5_ n6_ n7_ n8_ n9_ n10_ n11_ n12_ n13_ n14_ n15_ n16_; (try clear hb); (try clear hb2); (try clear hk); (try clear hi)))
                go_meet
                case rel => exact ⟨_, (true), (by first | rfl | (simp; done) | (simp [*]; done)), H', ⟨by have := HJ2.out; first | omega | exact Nat.le_refl _⟩, ⟨by (with_reducible repeat (first | apply Kd.R_alloc | apply Kd.R_drewN | apply Kd.R_drew)); exact HO816.out⟩, ⟨by (with_reducible repeat (first | apply Kd.R_alloc | apply Kd.R_drewN | apply Kd.R_drew)); exact HO820.out⟩, ⟨by (with_reducible repeat (first | apply Kd.R_alloc | apply Kd.R_drewN | apply Kd.R_drew)); exact HO826.out⟩, ⟨by (with_reducible repeat (first | apply Kd.R_alloc | apply Kd.R_drewN | apply Kd.R_drew)); exact HO830.out⟩, ⟨by (with_reducible repeat (first | apply Kd.V_alloc | apply Kd.V_drewN | apply Kd.V_drew)); exact Kd.V_mono HO836.out (fun _ hk => ⟨hk.1.1, ⟨hk.1.2.1, ⟨hk.1.2.2.1, ⟨hk.1.2.2.2.1, ⟨hk.1.2.2.2.2.1, ⟨hk.1.2.2.2.2.2.1, ⟨hk.1.2.2.2.2.2.2.1, ⟨hk.1.2.2.2.2.2.2.2.1, ⟨hk.1.2.2.2.2.2.2.2.2.1, ⟨hk.1.2.2.2.2.2.2.2.2.2, hk.2⟩⟩⟩⟩⟩⟩⟩⟩⟩⟩)⟩, ⟨by (with_reducible repeat (first | apply Kd.R_alloc | apply Kd.R_drewN | apply Kd.R_drew)); exact HO842.out⟩, ⟨by (with_reducible repeat (first | apply Kd.V_alloc | apply Kd.V_drewN | apply Kd.V_drew)); exact Kd.V_mono HO848.out (fun _ hk => ⟨hk.1.1, ⟨hk.1.2.1, ⟨hk.1.2.2.1, ⟨hk.1.2.2.2.1, ⟨hk.1.2.2.2.2.1, ⟨hk.1.2.2.2.2.2.1, ⟨hk.1.2.2.2.2.2.2.1, ⟨hk.1.2.2.2.2.2.2.2.1, ⟨hk.1.2.2.2.2.2.2.2.2.1, ⟨hk.1.2.2.2.2.2.2.2.2.2, hk.2⟩⟩⟩⟩⟩⟩⟩⟩⟩⟩)⟩, ⟨by (with_reducible repeat (first | apply Kd.V_alloc | apply Kd.V_drewN | apply Kd.V_drew)); exact Kd.V_mono HO854.out (fun _ hk => ⟨hk.1.1, ⟨hk.1.2.1, ⟨hk.1.2.2.1, ⟨hk.1.2.2.2.1, ⟨hk.1.2.2.2.2.1, ⟨hk.1.2.2.2.2.2.1, ⟨hk.1.2.2.2.2.2.2.1, ⟨hk.1.2.2.2.2.2.2.2.1, ⟨hk.1.2.2.2.2.2.2.2.2.1, ⟨hk.1.2.2.2.2.2.2.2.2.2, hk.2⟩⟩⟩⟩⟩⟩⟩⟩⟩⟩)⟩, ⟨by (with_reducible repeat (first | refine blk_drewN ?_ _ | refine blk_drew ?_ | refine blk_alloc ?_ _)); exact BK821.out⟩, ⟨by (with_reducible repeat (first | refine blk_drewN ?_ _ | refine blk_drew ?_ | refine blk_alloc ?_ _)); exact BK822.out⟩, ⟨by (with_reducible repeat (first | refine blk_drewN ?_ _ | refine blk_drew ?_ | refine blk_alloc ?_ _)); exact BK831.out⟩, ⟨by (with_reducible repeat (first | refine blk_drewN ?_ _ | refine blk_drew ?_ | refine blk_alloc ?_ _)); exact BK832.out⟩, ⟨by (with_reducible repeat (first | refine blk_drewN ?_ _ | refine blk_drew ?_ | refine blk_alloc ?_ _)); exact BK838.out⟩, ⟨by (with_reducible repeat (first | refine blk_drewN ?_ _ | refine blk_drew ?_ | refine blk_alloc ?_ _)); exact BK844.out⟩, ⟨by (with_reducible repeat (first | refine blk_drewN ?_ _ | refine blk_drew ?_ | refine blk_alloc ?_ _)); exact BK850.out⟩, ⟨by (with_reducible repeat (first | refine blk_drewN ?_ _ | refine blk_drew ?_ | refine blk_alloc ?_ _)); exact BK856.out⟩, ⟨zb⟩⟩
            · replace c85 := Bool.eq_false_iff.mpr c85
              subst c85
              have H1 : (laws_FnBigParts.j1 kj2 t837 t843 true t813 t814 t833 t834 t839 t840 t845 t846 t851 t852) = some r := by rw [if_neg (show ¬ (false = true) by decide)] at H; exact H
              clear H
              have H := H1
              clear H1
              have H' := Aside0.mk H
              clear H
              have hnb136 := NB838_821.out
              have hnc136 := NB821_838.out
              have hnb137 := NB838_822.out
              have hnc137 := NB822_838.out
              have hnb138 := NB838_831.out
              have hnc138 := NB831_838.out
              have hnb139 := NB838_832.out
              have hnc139 := NB832_838.out
              have hnb140 := NB838_844.out
              have hnc140 := NB844_838.out
              have hnb141 := NB838_850.out
              have hnc141 := NB850_838.out
              have hnb142 := NB838_856.out
              have hnc142 := NB856_838.out
              have hcz143_0 : w73.cell? ⟨gb838, 0, none⟩ = some (.bool t833) := (blk_cell BK838.out 0).trans rfl
              have hcz143_1 : w73.cell? ⟨gb838, 1, none⟩ = some (.slice Ao44 t834.length co44) := (blk_cell BK838.out 1).trans rfl
              have hfz143_0 := blk_frozen BK838.out 0
              have hfz143_1 := blk_frozen BK838.out 1
              have hnb144 := NB844_821.out
              have hnc144 := NB821_844.out
              have hnb145 := NB844_822.out
              have hnc145 := NB822_844.out
              have hnb146 := NB844_831.out
              have hnc146 := NB831_844.out
              have hnb147 := NB844_832.out
              have hnc147 := NB832_844.out
              have hnb148 := NB844_850.out
              have hnc148 := NB850_844.out
              have hnb149 := NB844_856.out
              have hnc149 := NB856_844.out
              have hcz150_0 : w73.cell? ⟨gb844, 0, none⟩ = some (.bool t839) := (blk_cell BK844.out 0).trans rfl
              have hcz150_1 : w73.cell? ⟨gb844, 1, none⟩ = some (.slice Ao55 t840.length co55) := (blk_cell BK844.out 1).trans rfl
              have hfz150_0 := blk_frozen BK844.out 0
              have hfz150_1 := blk_frozen BK844.out 1
              go_wp2_with (first | (go_at_call 31; (with_reducible refine (laws_jtBig.calls kj2 t833 _ _ t834 t839 _ _ t840 false _ ?side1 ?side2 ?side3 ?side4 A84.out).mono ?_); (case side1 => refine (Kd.V_reads' (e := 3) (base := w.heap.size) (ok := fun k_ => ((some k_ ≠ (.slice Ao28 t824.length co28 : Value).ownBlock ∧ (some k_ ≠ (.slice Ao33 t828.length co33 : Value).ownBlock ∧ (some k_ ≠ (.slice Ao55 t840.length co55 : Value).ownBlock ∧ (k_ ≠ gb821 ∧ (k_ ≠ gb822 ∧ (k_ ≠ gb831 ∧ (k_ ≠ gb832 ∧ (k_ ≠ gb838 ∧ (k_ ≠ gb844 ∧ k_ ≠ gb850))))))))) ∧ k_ ≠ gb856)) (n := t834.length) (c := co44) ?_).2.2; exact (by (with_reducible repeat (first | apply Kd.V_alloc | apply Kd.V_drewN | apply Kd.V_drew)); exact (Kd.V_mono (Kd.V_far (p := ⟨gb856, 1, none⟩) (Kd.V_far (p := ⟨gb856, 0, none⟩) (Kd.V_mono HO836.out (fun k_ hk => (⟨hk, hk.2⟩ : _ ∧ k_ ≠ gb856))) (fun _ hk => hk.2) (.bool t851)) (fun _ hk => hk.2) (.slice Ao82 t852.length co82)) (fun _ h_ => h_.1)))); (case side2 => exact (Kd.V_reads' HO836.out).2.1); (case side3 => refine (Kd.R_reads' (e := 3) (base := w.heap.size) (ok := fun k_ => (some k_ ≠ (.slice Ao18 t814.length co18 : Value).ownBlock ∧ (some k_ ≠ (.slice Ao20 t818.length co20 : Value).ownBlock ∧ (some k_ ≠ (.slice Ao28 t824.length co28 : Value).ownBlock ∧ some k_ ≠ (.slice Ao33 t828.length co33 : Value).ownBlock)))) (n := t840.length) (c := co55) ?_).2.2; exact (by (with_reducible repeat (first | apply Kd.R_alloc | apply Kd.R_drewN | apply Kd.R_drew)); exact (Kd.R_mono (Kd.R_far (p := ⟨gb856, 1, none⟩) (Kd.R_far (p := ⟨gb856, 0, none⟩) (Kd.R_types HO842.out BK856.out (by decide)) (fun _ hk => hk.2) (.bool t851)) (fun _ hk => hk.2) (.slice Ao82 t852.length co82)) (fun _ h_ => h_.1)))); (case side4 => exact (Kd.R_reads' HO842.out).2.1); rintro e w151 ⟨rfl, hb⟩; have n0_ := Aside0.mk (Kd.R_below (by (with_reducible repeat (first | apply Kd.R_alloc | apply Kd.R_drewN | apply Kd.R_drew)); exact (Kd.R_mono (Kd.R_far (p := ⟨gb856, 1, none⟩) (Kd.R_far (p := ⟨gb856, 0, none⟩) (Kd.R_types HO816.out BK856.out (by decide)) (fun _ hk => hk.2) (.bool t851)) (fun _ hk => hk.2) (.slice Ao82 t852.length co82)) (fun _ h_ => h_.1))) hb); have n1_ := Aside0.mk (Kd.R_below (by (with_reducible repeat (first | apply Kd.R_alloc | apply Kd.R_drewN | apply Kd.R_drew)); exact (Kd.R_mono (Kd.R_far (p := ⟨gb856, 1, none⟩) (Kd.R_far (p := ⟨gb856, 0, none⟩) (Kd.R_types HO820.out BK856.out (by decide)) (fun _ hk => hk.2) (.bool t851)) (fun _ hk => hk.2) (.slice Ao82 t852.length co82)) (fun _ h_ => h_.1))) hb); have n2_ := Aside0.mk (Kd.R_below (by (with_reducible repeat (first | apply Kd.R_alloc | apply Kd.R_drewN | apply Kd.R_drew)); exact (Kd.R_mono (Kd.R_far (p := ⟨gb856, 1, none⟩) (Kd.R_far (p := ⟨gb856, 0, none⟩) (Kd.R_types HO826.out BK856.out (by decide)) (fun _ hk => hk.2) (.bool t851)) (fun _ hk => hk.2) (.slice Ao82 t852.length co82)) (fun _ h_ => h_.1))) hb); have n3_ := Aside0.mk (Kd.R_below (by (with_reducible repeat (first | apply Kd.R_alloc | apply Kd.R_drewN | apply Kd.R_drew)); exact (Kd.R_mono (Kd.R_far (p := ⟨gb856, 1, none⟩) (Kd.R_far (p := ⟨gb856, 0, none⟩) (Kd.R_types HO830.out BK856.out (by decide)) (fun _ hk => hk.2) (.bool t851)) (fun _ hk => hk.2) (.slice Ao82 t852.length co82)) (fun _ h_ => h_.1))) hb); have n4_ := Aside0.mk (Kd.V_below (by (with_reducible repeat (first | apply Kd.V_alloc | apply Kd.V_drewN | apply Kd.V_drew)); exact (Kd.V_mono (Kd.V_far (p := ⟨gb856, 1, none⟩) (Kd.V_far (p := ⟨gb856, 0, none⟩) (Kd.V_mono HO836.out (fun k_ hk => (⟨hk, hk.2⟩ : _ ∧ k_ ≠ gb856))) (fun _ hk => hk.2) (.bool t851)) (fun _ hk => hk.2) (.slice Ao82 t852.length co82)) (fun _ h_ => h_.1))) hb); have n5_ := Aside0.mk (Kd.R_below (by (with_reducible repeat (first | apply Kd.R_alloc | apply Kd.R_drewN | apply Kd.R_drew)); exact (Kd.R_mono (Kd.R_far (p := ⟨gb856, 1, none⟩) (Kd.R_far (p := ⟨gb856, 0, none⟩) (Kd.R_types HO842.out BK856.out (by decide)) (fun _ hk => hk.2) (.bool t851)) (fun _ hk => hk.2) (.slice Ao82 t852.length co82)) (fun _ h_ => h_.1))) hb); have n6_ := Aside0.mk (Kd.V_below (by (with_reducible repeat (first | apply Kd.V_alloc | apply Kd.V_drewN | apply Kd.V_drew)); exact (Kd.V_mono (Kd.V_far (p := ⟨gb856, 1, none⟩) (Kd.V_far (p := ⟨gb856, 0, none⟩) (Kd.V_mono HO848.out (fun k_ hk => (⟨hk, hk.2⟩ : _ ∧ k_ ≠ gb856))) (fun _ hk => hk.2) (.bool t851)) (fun _ hk => hk.2) (.slice Ao82 t852.length co82)) (fun _ h_ => h_.1))) hb); have n7_ := Aside0.mk (Kd.V_below (by (with_reducible repeat (first | apply Kd.V_alloc | apply Kd.V_drewN | apply Kd.V_drew)); exact (Kd.V_mono (Kd.V_far (p := ⟨gb856, 1, none⟩) (Kd.V_far (p := ⟨gb856, 0, none⟩) (Kd.V_mono HO854.out (fun k_ hk => (⟨hk, hk.2⟩ : _ ∧ k_ ≠ gb856))) (fun _ hk => hk.2) (.bool t851)) (fun _ hk => hk.2) (.slice Ao82 t852.length co82)) (fun _ h_ => h_.1))) hb); have n8_ := Aside0.mk (blk_below (g := gb821) (o := .cells #[.bool t813, .slice Ao18 t814.length co18] 27 (0, 0)) (zk BK821.out) hb); have n9_ := Aside0.mk (blk_below (g := gb822) (o := .cells #[.bool t817, .slice Ao20 t818.length co20] 27 (0, 0)) (zk BK822.out) hb); have n10_ := Aside0.mk (blk_below (g := gb831) (o := .cells #[.bool t823, .slice Ao28 t824.length co28] 27 (0, 0)) (zk BK831.out) hb); have n11_ := Aside0.mk (blk_below (g := gb832) (o := .cells #[.bool t827, .slice Ao33 t828.length co33] 27 (0, 0)) (zk BK832.out) hb); have n12_ := Aside0.mk (blk_below (g := gb838) (o := .cells #[.bool t833, .slice Ao44 t834.length co44] 27 (0, 0)) (zk BK838.out) hb); have n13_ := Aside0.mk (blk_below (g := gb844) (o := .cells #[.bool t839, .slice Ao55 t840.length co55] 27 (0, 0)) (zk BK844.out) hb); have n14_ := Aside0.mk (blk_below (g := gb850) (o := .cells #[.bool t845, .slice Ao68 t846.length co68] 27 (0, 0)) (zk BK850.out) hb); have n15_ := Aside0.mk (blk_below (g := gb856) (o := .cells #[.bool t851, .slice Ao82 t852.length co82] 27 (0, 0)) (by (with_reducible repeat (first | refine blk_drewN ?_ _ | refine blk_drew ?_ | refine blk_alloc ?_ _)); refine blk_put (cs := #[.bool t851, .slice none 0 0]) ?_ 1 _ rfl; (with_reducible repeat (first | refine blk_drewN ?_ _ | refine blk_drew ?_ | refine blk_alloc ?_ _)); refine blk_put (cs := #[.bool false, .slice none 0 0]) ?_ 0 _ rfl; (with_reducible repeat (first | refine blk_drewN ?_ _ | refine blk_drew ?_ | refine blk_alloc ?_ _)); exact BK856.out) hb); have n16_ := Aside0.mk (below_step zb hb); clear HO816; clear HO820; clear HO826; clear HO830; clear HO836; clear HO842; clear HO848; clear HO854; clear BK821; clear BK822; clear BK831; clear BK832; clear BK838; clear BK844; clear BK850; clear BK856; clear HB; have HO816 := n0_; have HO820 := n1_; have HO826 := n2_; have HO830 := n3_; have HO836 := n4_; have HO842 := n5_; have HO848 := n6_; have HO854 := n7_; have BK821 := n8_; have BK822 := n9_; have BK831 := n10_; have BK832 := n11_; have BK838 := n12_; have BK844 := n13_; have BK850 := n14_; have BK856 := n15_; have HB := n16_; clear n0_ n1_ n2_ n3_ n4_ n5_ n6_ n7_ n8_ n9_ n10_ n11_ n12_ n13_ n14_ n15_ n16_; (try clear hb); (try clear hb2); (try clear hk); (try clear hi)))
              go_meet
              case rel => exact ⟨_, (true), (by first | rfl | (simp; done) | (simp [*]; done)), H', ⟨by have := HJ2.out; first | omega | exact Nat.le_refl _⟩, ⟨by (with_reducible repeat (first | apply Kd.R_alloc | apply Kd.R_drewN | apply Kd.R_drew)); exact HO816.out⟩, ⟨by (with_reducible repeat (first | apply Kd.R_alloc | apply Kd.R_drewN | apply Kd.R_drew)); exact HO820.out⟩, ⟨by (with_reducible repeat (first | apply Kd.R_alloc | apply Kd.R_drewN | apply Kd.R_drew)); exact HO826.out⟩, ⟨by (with_reducible repeat (first | apply Kd.R_alloc | apply Kd.R_drewN | apply Kd.R_drew)); exact HO830.out⟩, ⟨by (with_reducible repeat (first | apply Kd.V_alloc | apply Kd.V_drewN | apply Kd.V_drew)); exact Kd.V_mono HO836.out (fun _ hk => ⟨hk.1.1, ⟨hk.1.2.1, ⟨hk.1.2.2.1, ⟨hk.1.2.2.2.1, ⟨hk.1.2.2.2.2.1, ⟨hk.1.2.2.2.2.2.1, ⟨hk.1.2.2.2.2.2.2.1, ⟨hk.1.2.2.2.2.2.2.2.1, ⟨hk.1.2.2.2.2.2.2.2.2.1, ⟨hk.1.2.2.2.2.2.2.2.2.2, hk.2⟩⟩⟩⟩⟩⟩⟩⟩⟩⟩)⟩, ⟨by (with_reducible repeat (first | apply Kd.R_alloc | apply Kd.R_drewN | apply Kd.R_drew)); exact HO842.out⟩, ⟨by (with_reducible repeat (first | apply Kd.V_alloc | apply Kd.V_drewN | apply Kd.V_drew)); exact Kd.V_mono HO848.out (fun _ hk => ⟨hk.1.1, ⟨hk.1.2.1, ⟨hk.1.2.2.1, ⟨hk.1.2.2.2.1, ⟨hk.1.2.2.2.2.1, ⟨hk.1.2.2.2.2.2.1, ⟨hk.1.2.2.2.2.2.2.1, ⟨hk.1.2.2.2.2.2.2.2.1, ⟨hk.1.2.2.2.2.2.2.2.2.1, ⟨hk.1.2.2.2.2.2.2.2.2.2, hk.2⟩⟩⟩⟩⟩⟩⟩⟩⟩⟩)⟩, ⟨by (with_reducible repeat (first | apply Kd.V_alloc | apply Kd.V_drewN | apply Kd.V_drew)); exact Kd.V_mono HO854.out (fun _ hk => ⟨hk.1.1, ⟨hk.1.2.1, ⟨hk.1.2.2.1, ⟨hk.1.2.2.2.1, ⟨hk.1.2.2.2.2.1, ⟨hk.1.2.2.2.2.2.1, ⟨hk.1.2.2.2.2.2.2.1, ⟨hk.1.2.2.2.2.2.2.2.1, ⟨hk.1.2.2.2.2.2.2.2.2.1, ⟨hk.1.2.2.2.2.2.2.2.2.2, hk.2⟩⟩⟩⟩⟩⟩⟩⟩⟩⟩)⟩, ⟨by (with_reducible repeat (first | refine blk_drewN ?_ _ | refine blk_drew ?_ | refine blk_alloc ?_ _)); exact BK821.out⟩, ⟨by (with_reducible repeat (first | refine blk_drewN ?_ _ | refine blk_drew ?_ | refine blk_alloc ?_ _)); exact BK822.out⟩, ⟨by (with_reducible repeat (first | refine blk_drewN ?_ _ | refine blk_drew ?_ | refine blk_alloc ?_ _)); exact BK831.out⟩, ⟨by (with_reducible repeat (first | refine blk_drewN ?_ _ | refine blk_drew ?_ | refine blk_alloc ?_ _)); exact BK832.out⟩, ⟨by (with_reducible repeat (first | refine blk_drewN ?_ _ | refine blk_drew ?_ | refine blk_alloc ?_ _)); exact BK838.out⟩, ⟨by (with_reducible repeat (first | refine blk_drewN ?_ _ | refine blk_drew ?_ | refine blk_alloc ?_ _)); exact BK844.out⟩, ⟨by (with_reducible repeat (first | refine blk_drewN ?_ _ | refine blk_drew ?_ | refine blk_alloc ?_ _)); exact BK850.out⟩, ⟨by (with_reducible repeat (first | refine blk_drewN ?_ _ | refine blk_drew ?_ | refine blk_alloc ?_ _)); exact BK856.out⟩, ⟨zb⟩⟩
        case rest =>
          clear HC12
          try clear c1
          try clear c2
          try clear p2
          try clear c3
          try clear c4
          try clear c4b0
          try clear c4b1
          try clear c5
          try clear c6
          try clear c7
          try clear c8
          try clear c9
          try clear c10
          try clear c11
          try clear c12
          try clear c13
          try clear c14
          try clear c16
          try clear c24
          try clear c25
          try clear c26
          try clear c30
          try clear c31
          try clear c32
          try clear c33
          try clear c36
          try clear c38
          try clear c39
          try clear c40
          try clear c41
          try clear c42
          try clear c49
          try clear c50
          try clear c51
          try clear c52
          try clear c53
          try clear c61
          try clear c62
          try clear c63
          try clear c64
          try clear c65
          try clear c66
          try clear c74
          try clear c75
          try clear c76
          try clear c77
          try clear c78
          try clear c79
          try clear c80
          try clear c83
          try clear c83b0
          try clear c83b1
          try clear c83b2
          try clear c85
          try clear c86
          try clear c87
          try clear c88
          try clear c89
          try clear c90
          try clear c91
          try clear c92
          try clear c93
          try clear c94
          try clear c96
          try clear c97
          try clear c98
          try clear c99
          try clear c100
          try clear c101
          try clear c104
          try clear c105
          try clear c106
          try clear c107
          try clear c108
          try clear c109
          try clear c110
          try clear c112
          try clear c113
          try clear c114
          try clear c115
          try clear c116
          try clear c117
          try clear c120
          try clear c121
          try clear c122
          try clear c123
          try clear c124
          try clear c125
          try clear c126
          try clear c128
          try clear c129
          try clear c130
          try clear c131
          try clear c132
          try clear c133
          try clear c136
          try clear c137
          try clear c138
          try clear c139
          try clear c140
          try clear c141
          try clear c142
          try clear c144
          try clear c145
          try clear c146
          try clear c147
          try clear c148
          try clear c149
          try clear hcz102_0
          try clear hcz102_1
          try clear hcz111_0
          try clear hcz111_1
          try clear hcz118_0
          try clear hcz118_1
          try clear hcz127_0
          try clear hcz127_1
          try clear hcz134_0
          try clear hcz134_1
          try clear hcz143_0
          try clear hcz143_1
          try clear hcz150_0
          try clear hcz150_1
          try clear hcz17_0
          try clear hcz17_1
          try clear hcz19_0
          try clear hcz19_1
          try clear hcz27_0
          try clear hcz27_1
          try clear hcz32_0
          try clear hcz32_1
          try clear hcz35_0
          try clear hcz35_1
          try clear hcz36_0
          try clear hcz36_1
          try clear hcz43_0
          try clear hcz43_1
          try clear hcz45_0
          try clear hcz45_1
          try clear hcz46_0
          try clear hcz46_1
          try clear hcz54_0
          try clear hcz54_1
          try clear hcz57_0
          try clear hcz57_1
          try clear hcz58_0
          try clear hcz58_1
          try clear hcz67_0
          try clear hcz67_1
          try clear hcz70_0
          try clear hcz70_1
          try clear hcz71_0
          try clear hcz71_1
          try clear hcz81_0
          try clear hcz81_1
          try clear hcz95_0
          try clear hcz95_1
          try clear hfz102_0
          try clear hfz102_1
          try clear hfz111_0
          try clear hfz111_1
          try clear hfz118_0
          try clear hfz118_1
          try clear hfz127_0
          try clear hfz127_1
          try clear hfz134_0
          try clear hfz134_1
          try clear hfz143_0
          try clear hfz143_1
          try clear hfz150_0
          try clear hfz150_1
          try clear hfz17_0
          try clear hfz17_1
          try clear hfz19_0
          try clear hfz19_1
          try clear hfz27_0
          try clear hfz27_1
          try clear hfz32_0
          try clear hfz32_1
          try clear hfz35_0
          try clear hfz35_1
          try clear hfz36_0
          try clear hfz36_1
          try clear hfz43_0
          try clear hfz43_1
          try clear hfz45_0
          try clear hfz45_1
          try clear hfz46_0
          try clear hfz46_1
          try clear hfz54_0
          try clear hfz54_1
          try clear hfz57_0
          try clear hfz57_1
          try clear hfz58_0
          try clear hfz58_1
          try clear hfz67_0
          try clear hfz67_1
          try clear hfz70_0
          try clear hfz70_1
          try clear hfz71_0
          try clear hfz71_1
          try clear hfz81_0
          try clear hfz81_1
          try clear hfz95_0
          try clear hfz95_1
          try clear p2
          obtain ⟨kq, x83_11, rfl, HA, HJ11, HO_822001, HO_823001, HO_832001, HO_833001, HO_839001, HO_845001, HO_851001, HO_857001, BK821, BK822, BK831, BK832, BK838, BK844, BK850, BK856, HB⟩ := hcut
          cases kq with
          | zero => exact absurd HA.out (by simp [laws_FnBigParts.j1])
          | succ kj11 =>
            have H := HA.out
            clear HA
            simp only [laws_FnBigParts.j1] at H
            by_cases c152 : x83_11 = true
            · subst c152
              have H1 : (if (t837 == t843) = true then ((laws_jtBig.f kj11 t833 t834 t839 t840).bind fun t858 => (some t858)) else (none)) = some r := by rw [if_pos rfl] at H; exact H
              clear H
              have H := H1
              clear H1
              by_cases c153 : (t837 == t843) = true
              · rw [if_pos c153] at H
                have c153b0 : (t837 == t843) = true := c153
                (try (have c153b1 : decide (t837 = t843) = true := by simpa using c153))
                (try (have c153b2 : (t837 == t843) = true := by simpa using c153))
                clear c153
                replace H := Option.bind_eq_some_iff.mp H
                obtain ⟨t858, A1540, H⟩ := H
                replace H : (some t858) = some r := H
                have A154 := Aside0.mk A1540
                clear A1540
                obtain rfl := Option.some.inj H
                have hnb155 := NB838_821.out
                have hnc155 := NB821_838.out
                have hnb156 := NB838_822.out
                have hnc156 := NB822_838.out
                have hnb157 := NB838_831.out
                have hnc157 := NB831_838.out
                have hnb158 := NB838_832.out
                have hnc158 := NB832_838.out
                have hnb159 := NB838_844.out
                have hnc159 := NB844_838.out
                have hnb160 := NB838_850.out
                have hnc160 := NB850_838.out
                have hnb161 := NB838_856.out
                have hnc161 := NB856_838.out
                have hcz162_0 : wc.cell? ⟨gb838, 0, none⟩ = some (.bool t833) := (blk_cell BK838.out 0).trans rfl
                have hcz162_1 : wc.cell? ⟨gb838, 1, none⟩ = some (.slice Ao44 t834.length co44) := (blk_cell BK838.out 1).trans rfl
                have hfz162_0 := blk_frozen BK838.out 0
                have hfz162_1 := blk_frozen BK838.out 1
                have hnb163 := NB844_821.out
                have hnc163 := NB821_844.out
                have hnb164 := NB844_822.out
                have hnc164 := NB822_844.out
                have hnb165 := NB844_831.out
                have hnc165 := NB831_844.out
                have hnb166 := NB844_832.out
                have hnc166 := NB832_844.out
                have hnb167 := NB844_850.out
                have hnc167 := NB850_844.out
                have hnb168 := NB844_856.out
                have hnc168 := NB856_844.out
                have hcz169_0 : wc.cell? ⟨gb844, 0, none⟩ = some (.bool t839) := (blk_cell BK844.out 0).trans rfl
                have hcz169_1 : wc.cell? ⟨gb844, 1, none⟩ = some (.slice Ao55 t840.length co55) := (blk_cell BK844.out 1).trans rfl
                have hfz169_0 := blk_frozen BK844.out 0
                have hfz169_1 := blk_frozen BK844.out 1
                go_wp2_with (first | (go_at_call 31; (with_reducible refine (laws_jtBig.calls kj11 t833 _ _ t834 t839 _ _ t840 t858 _ ?side1 ?side2 ?side3 ?side4 A154.out).mono ?_); (case side1 => repeat (first | exact (Kd.V_reads' HO_839001.out).2.2 | (with_reducible refine Kd.C_alloc ?_ _) | (with_reducible refine Kd.C_drewN ?_ _) | (with_reducible refine Kd.C_drew ?_))); (case side2 => exact (Kd.V_reads' HO_839001.out).2.1); (case side3 => repeat (first | exact (Kd.R_reads' HO_845001.out).2.2 | (with_reducible refine Kd.C_alloc ?_ _) | (with_reducible refine Kd.C_drewN ?_ _) | (with_reducible refine Kd.C_drew ?_))); (case side4 => exact (Kd.R_reads' HO_845001.out).2.1); rintro e w170 ⟨rfl, hb⟩; have n0_ := Aside0.mk (Kd.R_below (zR HO_822001.out) hb); have n1_ := Aside0.mk (Kd.R_below (zR HO_823001.out) hb); have n2_ := Aside0.mk (Kd.R_below (zR HO_832001.out) hb); have n3_ := Aside0.mk (Kd.R_below (zR HO_833001.out) hb); have n4_ := Aside0.mk (Kd.V_below (zV HO_839001.out) hb); have n5_ := Aside0.mk (Kd.R_below (zR HO_845001.out) hb); have n6_ := Aside0.mk (Kd.V_below (zV HO_851001.out) hb); have n7_ := Aside0.mk (Kd.V_below (zV HO_857001.out) hb); have n8_ := Aside0.mk (blk_below (g := gb821) (o := .cells #[.bool t813, .slice Ao18 t814.length co18] 27 (0, 0)) (zk BK821.out) hb); have n9_ := Aside0.mk (blk_below (g := gb822) (o := .cells #[.bool t817, .slice Ao20 t818.length co20] 27 (0, 0)) (zk BK822.out) hb); have n10_ := Aside0.mk (blk_below (g := gb831) (o := .cells #[.bool t823, .slice Ao28 t824.length co28] 27 (0, 0)) (zk BK831.out) hb); have n11_ := Aside0.mk (blk_below (g := gb832) (o := .cells #[.bool t827, .slice Ao33 t828.length co33] 27 (0, 0)) (zk BK832.out) hb); have n12_ := Aside0.mk (blk_below (g := gb838) (o := .cells #[.bool t833, .slice Ao44 t834.length co44] 27 (0, 0)) (zk BK838.out) hb); have n13_ := Aside0.mk (blk_below (g := gb844) (o := .cells #[.bool t839, .slice Ao55 t840.length co55] 27 (0, 0)) (zk BK844.out) hb); have n14_ := Aside0.mk (blk_below (g := gb850) (o := .cells #[.bool t845, .slice Ao68 t846.length co68] 27 (0, 0)) (zk BK850.out) hb); have n15_ := Aside0.mk (blk_below (g := gb856) (o := .cells #[.bool t851, .slice Ao82 t852.length co82] 27 (0, 0)) (zk BK856.out) hb); have n16_ := Aside0.mk (below_step zb hb); clear HO_822001; clear HO_823001; clear HO_832001; clear HO_833001; clear HO_839001; clear HO_845001; clear HO_851001; clear HO_857001; clear BK821; clear BK822; clear BK831; clear BK832; clear BK838; clear BK844; clear BK850; clear BK856; clear HB; have HO_822001 := n0_; have HO_823001 := n1_; have HO_832001 := n2_; have HO_833001 := n3_; have HO_839001 := n4_; have HO_845001 := n5_; have HO_851001 := n6_; have HO_857001 := n7_; have BK821 := n8_; have BK822 := n9_; have BK831 := n10_; have BK832 := n11_; have BK838 := n12_; have BK844 := n13_; have BK850 := n14_; have BK856 := n15_; have HB := n16_; clear n0_ n1_ n2_ n3_ n4_ n5_ n6_ n7_ n8_ n9_ n10_ n11_ n12_ n13_ n14_ n15_ n16_; (try clear hb); (try clear hb2); (try clear hk); (try clear hi)))
                go_ret
                exact ⟨by first | rfl | (simp [errW_none, errW_some] <;> rfl) | (simp [*, errW_none, errW_some] <;> rfl), zb⟩
              · rw [if_neg c153] at H
                exact absurd H (by simp)
            · replace c152 := Bool.eq_false_iff.mpr c152
              subst c152
              have H1 : ((impl_BigMul.f kj11 t813 t814 t851 t852).bind fun bt859 => ((impl_BigAdd.f kj11 t833 t834 t845 t846).bind fun bt865 => (if (bt859.2.2 == bt865.2.2) = true then ((laws_jtBig.f kj11 bt859.1 bt859.2.1 bt865.1 bt865.2.1).bind fun t871 => (some t871)) else (none)))) = some r := by rw [if_neg (show ¬ (false = true) by decide)] at H; exact H
              clear H
              have H := H1
              clear H1
              replace H := Option.bind_eq_some_iff.mp H
              obtain ⟨⟨t859, t860, t863⟩, A1710, H⟩ := H
              replace H : ((impl_BigAdd.f kj11 t833 t834 t845 t846).bind fun bt865 => (if (t863 == bt865.2.2) = true then ((laws_jtBig.f kj11 t859 t860 bt865.1 bt865.2.1).bind fun t871 => (some t871)) else (none))) = some r := H
              have A171 := Aside0.mk A1710
              clear A1710
              replace H := Option.bind_eq_some_iff.mp H
              obtain ⟨⟨t865, t866, t869⟩, A1720, H⟩ := H
              replace H : (if (t863 == t869) = true then ((laws_jtBig.f kj11 t859 t860 t865 t866).bind fun t871 => (some t871)) else (none)) = some r := H
              have A172 := Aside0.mk A1720
              clear A1720
              by_cases c173 : (t863 == t869) = true
              · rw [if_pos c173] at H
                have c173b0 : (t863 == t869) = true := c173
                (try (have c173b1 : decide (t863 = t869) = true := by simpa using c173))
                (try (have c173b2 : (t863 == t869) = true := by simpa using c173))
                clear c173
                replace H := Option.bind_eq_some_iff.mp H
                obtain ⟨t871, A1740, H⟩ := H
                replace H : (some t871) = some r := H
                have A174 := Aside0.mk A1740
                clear A1740
                obtain rfl := Option.some.inj H
                have hnb175 := NB821_822.out
                have hnc175 := NB822_821.out
                have hnb176 := NB821_831.out
                have hnc176 := NB831_821.out
                have hnb177 := NB821_832.out
                have hnc177 := NB832_821.out
                have hnb178 := NB821_838.out
                have hnc178 := NB838_821.out
                have hnb179 := NB821_844.out
                have hnc179 := NB844_821.out
                have hnb180 := NB821_850.out
                have hnc180 := NB850_821.out
                have hnb181 := NB821_856.out
                have hnc181 := NB856_821.out
                have hcz182_0 : wc.cell? ⟨gb821, 0, none⟩ = some (.bool t813) := (blk_cell BK821.out 0).trans rfl
                have hcz182_1 : wc.cell? ⟨gb821, 1, none⟩ = some (.slice Ao18 t814.length co18) := (blk_cell BK821.out 1).trans rfl
                have hfz182_0 := blk_frozen BK821.out 0
                have hfz182_1 := blk_frozen BK821.out 1
                have hnb183 := NB856_822.out
                have hnc183 := NB822_856.out
                have hnb184 := NB856_831.out
                have hnc184 := NB831_856.out
                have hnb185 := NB856_832.out
                have hnc185 := NB832_856.out
                have hnb186 := NB856_838.out
                have hnc186 := NB838_856.out
                have hnb187 := NB856_844.out
                have hnc187 := NB844_856.out
                have hnb188 := NB856_850.out
                have hnc188 := NB850_856.out
                have hcz189_0 : wc.cell? ⟨gb856, 0, none⟩ = some (.bool t851) := (blk_cell BK856.out 0).trans rfl
                have hcz189_1 : wc.cell? ⟨gb856, 1, none⟩ = some (.slice Ao82 t852.length co82) := (blk_cell BK856.out 1).trans rfl
                have hfz189_0 := blk_frozen BK856.out 0
                have hfz189_1 := blk_frozen BK856.out 1
                go_wp2_with (first | ((with_reducible refine gate_callee (f := 33) rfl ?_); refine goesL_ (some 95) rfl rfl Try.func33 (by kernel_rfl) rfl #[.agg #[.bool t813, .slice Ao18 t814.length co18], .agg #[.bool t851, .slice Ao82 t852.length co82]] rfl za ?_; (with_reducible refine (impl_BigMul.calls kj11 t813 (fun k_ => some k_ = (.slice Ao18 t814.length co18 : Value).ownBlock) _ _ t814 t851 (fun k_ => (some k_ ≠ (.slice Ao18 t814.length co18 : Value).ownBlock ∧ (some k_ ≠ (.slice Ao33 t828.length co33 : Value).ownBlock ∧ (some k_ ≠ (.slice Ao55 t840.length co55 : Value).ownBlock ∧ (k_ ≠ gb821 ∧ (k_ ≠ gb822 ∧ (k_ ≠ gb831 ∧ (k_ ≠ gb832 ∧ (k_ ≠ gb838 ∧ (k_ ≠ gb844 ∧ (k_ ≠ gb850 ∧ k_ ≠ gb856))))))))))) _ _ t852 t859 t860 t863 _ ?side1 ?side2 A171.out).mono ?_); (case side1 => exact Kd.R_V (Kd.R_tight rfl (Kd.R_types (Kd.R_types (Kd.R_types (Kd.R_types (Kd.R_types (Kd.R_types (Kd.R_types (Kd.R_types (HO_822001.out) BK821.out (by decide)) BK822.out (by decide)) BK831.out (by decide)) BK832.out (by decide)) BK838.out (by decide)) BK844.out (by decide)) BK850.out (by decide)) BK856.out (by decide)))); (case side2 => exact HO_857001.out); rintro e w190 ⟨v861, rfl, ho0, hb⟩; refine ⟨_, rfl, ?_⟩; have n0_ := Aside0.mk (Kd.R_below (zR HO_822001.out) hb); have n1_ := Aside0.mk (Kd.R_below (zR HO_823001.out) hb); have n2_ := Aside0.mk (Kd.R_below (zR HO_832001.out) hb); have n3_ := Aside0.mk (Kd.R_below (zR HO_833001.out) hb); have n4_ := Aside0.mk (Kd.V_below (zV HO_839001.out) hb); have n5_ := Aside0.mk (Kd.R_below (zR HO_845001.out) hb); have n6_ := Aside0.mk (Kd.V_below (zV HO_851001.out) hb); have n7_ := Aside0.mk (Kd.V_below (zV HO_857001.out) hb); have n8_ := Aside0.mk (Kd.V_lower (Kd.V_mono (ok' := fun k_ => some k_ ≠ (.slice Ao33 t828.length co33 : Value).ownBlock ∧ some k_ ≠ (.slice Ao55 t840.length co55 : Value).ownBlock ∧ k_ ≠ gb821 ∧ k_ ≠ gb822 ∧ k_ ≠ gb831 ∧ k_ ≠ gb832 ∧ k_ ≠ gb838 ∧ k_ ≠ gb844 ∧ k_ ≠ gb850 ∧ k_ ≠ gb856) ho0 (fun k_ hk_ => ⟨Or.elim hk_ (fun hs_ => Or.elim hs_ (fun hs_ => ((Kd.R_types (Kd.R_types (Kd.R_types (Kd.R_types (Kd.R_types (Kd.R_types (Kd.R_types (Kd.R_types (HO_822001.out) BK821.out (by decide)) BK822.out (by decide)) BK831.out (by decide)) BK832.out (by decide)) BK838.out (by decide)) BK844.out (by decide)) BK850.out (by decide)) BK856.out (by decide)).1 k_ hs_.symm).1.1.1.1.1.1.1.1.2.2.1) (fun hs_ => hs_.2.1)) (fun hn_ => (Kd.fresh' (Kd.R_lt (zR HO_833001.out)) k_ hn_)), Or.elim hk_ (fun hs_ => Or.elim hs_ (fun hs_ => ((Kd.R_types (Kd.R_types (Kd.R_types (Kd.R_types (Kd.R_types (Kd.R_types (Kd.R_types (Kd.R_types (HO_822001.out) BK821.out (by decide)) BK822.out (by decide)) BK831.out (by decide)) BK832.out (by decide)) BK838.out (by decide)) BK844.out (by decide)) BK850.out (by decide)) BK856.out (by decide)).1 k_ hs_.symm).1.1.1.1.1.1.1.1.2.2.2) (fun hs_ => hs_.2.2.1)) (fun hn_ => (Kd.fresh' (Kd.R_lt (zR HO_845001.out)) k_ hn_)), Or.elim hk_ (fun hs_ => Or.elim hs_ (fun hs_ => ((Kd.R_types (Kd.R_types (Kd.R_types (Kd.R_types (Kd.R_types (Kd.R_types (Kd.R_types (Kd.R_types (HO_822001.out) BK821.out (by decide)) BK822.out (by decide)) BK831.out (by decide)) BK832.out (by decide)) BK838.out (by decide)) BK844.out (by decide)) BK850.out (by decide)) BK856.out (by decide)).1 k_ hs_.symm).1.1.1.1.1.1.1.2) (fun hs_ => hs_.2.2.2.1)) (fun hn_ => (Kd.freshB (g := gb821) (o := .cells #[.bool t813, .slice Ao18 t814.length co18] 27 (0, 0)) (zk BK821.out) k_ hn_)), Or.elim hk_ (fun hs_ => Or.elim hs_ (fun hs_ => ((Kd.R_types (Kd.R_types (Kd.R_types (Kd.R_types (Kd.R_types (Kd.R_types (Kd.R_types (Kd.R_types (HO_822001.out) BK821.out (by decide)) BK822.out (by decide)) BK831.out (by decide)) BK832.out (by decide)) BK838.out (by decide)) BK844.out (by decide)) BK850.out (by decide)) BK856.out (by decide)).1 k_ hs_.symm).1.1.1.1.1.1.2) (fun hs_ => hs_.2.2.2.2.1)) (fun hn_ => (Kd.freshB (g := gb822) (o := .cells #[.bool t817, .slice Ao20 t818.length co20] 27 (0, 0)) (zk BK822.out) k_ hn_)), Or.elim hk_ (fun hs_ => Or.elim hs_ (fun hs_ => ((Kd.R_types (Kd.R_types (Kd.R_types (Kd.R_types (Kd.R_types (Kd.R_types (Kd.R_types (Kd.R_types (HO_822001.out) BK821.out (by decide)) BK822.out (by decide)) BK831.out (by decide)) BK832.out (by decide)) BK838.out (by decide)) BK844.out (by decide)) BK850.out (by decide)) BK856.out (by decide)).1 k_ hs_.symm).1.1.1.1.1.2) (fun hs_ => hs_.2.2.2.2.2.1)) (fun hn_ => (Kd.freshB (g := gb831) (o := .cells #[.bool t823, .slice Ao28 t824.length co28] 27 (0, 0)) (zk BK831.out) k_ hn_)), Or.elim hk_ (fun hs_ => Or.elim hs_ (fun hs_ => ((Kd.R_types (Kd.R_types (Kd.R_types (Kd.R_types (Kd.R_types (Kd.R_types (Kd.R_types (Kd.R_types (HO_822001.out) BK821.out (by decide)) BK822.out (by decide)) BK831.out (by decide)) BK832.out (by decide)) BK838.out (by decide)) BK844.out (by decide)) BK850.out (by decide)) BK856.out (by decide)).1 k_ hs_.symm).1.1.1.1.2) (fun hs_ => hs_.2.2.2.2.2.2.1)) (fun hn_ => (Kd.freshB (g := gb832) (o := .cells #[.bool t827, .slice Ao33 t828.length co33] 27 (0, 0)) (zk BK832.out) k_ hn_)), Or.elim hk_ (fun hs_ => Or.elim hs_ (fun hs_ => ((Kd.R_types (Kd.R_types (Kd.R_types (Kd.R_types (Kd.R_types (Kd.R_types (Kd.R_types (Kd.R_types (HO_822001.out) BK821.out (by decide)) BK822.out (by decide)) BK831.out (by decide)) BK832.out (by decide)) BK838.out (by decide)) BK844.out (by decide)) BK850.out (by decide)) BK856.out (by decide)).1 k_ hs_.symm).1.1.1.2) (fun hs_ => hs_.2.2.2.2.2.2.2.1)) (fun hn_ => (Kd.freshB (g := gb838) (o := .cells #[.bool t833, .slice Ao44 t834.length co44] 27 (0, 0)) (zk BK838.out) k_ hn_)), Or.elim hk_ (fun hs_ => Or.elim hs_ (fun hs_ => ((Kd.R_types (Kd.R_types (Kd.R_types (Kd.R_types (Kd.R_types (Kd.R_types (Kd.R_types (Kd.R_types (HO_822001.out) BK821.out (by decide)) BK822.out (by decide)) BK831.out (by decide)) BK832.out (by decide)) BK838.out (by decide)) BK844.out (by decide)) BK850.out (by decide)) BK856.out (by decide)).1 k_ hs_.symm).1.1.2) (fun hs_ => hs_.2.2.2.2.2.2.2.2.1)) (fun hn_ => (Kd.freshB (g := gb844) (o := .cells #[.bool t839, .slice Ao55 t840.length co55] 27 (0, 0)) (zk BK844.out) k_ hn_)), Or.elim hk_ (fun hs_ => Or.elim hs_ (fun hs_ => ((Kd.R_types (Kd.R_types (Kd.R_types (Kd.R_types (Kd.R_types (Kd.R_types (Kd.R_types (Kd.R_types (HO_822001.out) BK821.out (by decide)) BK822.out (by decide)) BK831.out (by decide)) BK832.out (by decide)) BK838.out (by decide)) BK844.out (by decide)) BK850.out (by decide)) BK856.out (by decide)).1 k_ hs_.symm).1.2) (fun hs_ => hs_.2.2.2.2.2.2.2.2.2.1)) (fun hn_ => (Kd.freshB (g := gb850) (o := .cells #[.bool t845, .slice Ao68 t846.length co68] 27 (0, 0)) (zk BK850.out) k_ hn_)), Or.elim hk_ (fun hs_ => Or.elim hs_ (fun hs_ => ((Kd.R_types (Kd.R_types (Kd.R_types (Kd.R_types (Kd.R_types (Kd.R_types (Kd.R_types (Kd.R_types (HO_822001.out) BK821.out (by decide)) BK822.out (by decide)) BK831.out (by decide)) BK832.out (by decide)) BK838.out (by decide)) BK844.out (by decide)) BK850.out (by decide)) BK856.out (by decide)).1 k_ hs_.symm).2) (fun hs_ => hs_.2.2.2.2.2.2.2.2.2.2)) (fun hn_ => (Kd.freshB (g := gb856) (o := .cells #[.bool t851, .slice Ao82 t852.length co82] 27 (0, 0)) (zk BK856.out) k_ hn_))⟩)) (below_size zb)); have n9_ := Aside0.mk (blk_below (g := gb821) (o := .cells #[.bool t813, .slice Ao18 t814.length co18] 27 (0, 0)) (zk BK821.out) hb); have n10_ := Aside0.mk (blk_below (g := gb822) (o := .cells #[.bool t817, .slice Ao20 t818.length co20] 27 (0, 0)) (zk BK822.out) hb); have n11_ := Aside0.mk (blk_below (g := gb831) (o := .cells #[.bool t823, .slice Ao28 t824.length co28] 27 (0, 0)) (zk BK831.out) hb); have n12_ := Aside0.mk (blk_below (g := gb832) (o := .cells #[.bool t827, .slice Ao33 t828.length co33] 27 (0, 0)) (zk BK832.out) hb); have n13_ := Aside0.mk (blk_below (g := gb838) (o := .cells #[.bool t833, .slice Ao44 t834.length co44] 27 (0, 0)) (zk BK838.out) hb); have n14_ := Aside0.mk (blk_below (g := gb844) (o := .cells #[.bool t839, .slice Ao55 t840.length co55] 27 (0, 0)) (zk BK844.out) hb); have n15_ := Aside0.mk (blk_below (g := gb850) (o := .cells #[.bool t845, .slice Ao68 t846.length co68] 27 (0, 0)) (zk BK850.out) hb); have n16_ := Aside0.mk (blk_below (g := gb856) (o := .cells #[.bool t851, .slice Ao82 t852.length co82] 27 (0, 0)) (zk BK856.out) hb); have n17_ := Aside0.mk (below_step zb hb); clear HO_822001; clear HO_823001; clear HO_832001; clear HO_833001; clear HO_839001; clear HO_845001; clear HO_851001; clear HO_857001; clear BK821; clear BK822; clear BK831; clear BK832; clear BK838; clear BK844; clear BK850; clear BK856; clear HB; have HO_822001 := n0_; have HO_823001 := n1_; have HO_832001 := n2_; have HO_833001 := n3_; have HO_839001 := n4_; have HO_845001 := n5_; have HO_851001 := n6_; have HO_857001 := n7_; have HO862 := n8_; have BK821 := n9_; have BK822 := n10_; have BK831 := n11_; have BK832 := n12_; have BK838 := n13_; have BK844 := n14_; have BK850 := n15_; have BK856 := n16_; have HB := n17_; clear n0_ n1_ n2_ n3_ n4_ n5_ n6_ n7_ n8_ n9_ n10_ n11_ n12_ n13_ n14_ n15_ n16_ n17_; (try clear hb); (try clear hb2); (try clear hk); (try clear hi); (try clear ho0)) | ((with_reducible refine gate_dst (N := 17) rfl ?_); (try (refine gate_guard (by rfl) ?_; dsimp only)); refine box_event ?hg (N := 17) ?hd (cs := #[.bool false, .slice none 0 0]) (t := 27) ?hr ?_; (case hd => rfl); (case hg => rfl); (case hr => first | (go_simp; done) | (go_simp; rfl)); intro gb864 hg w191 hbox hb; have n0_ := Aside0.mk (Kd.R_below (zR HO_822001.out) hb); have n1_ := Aside0.mk (Kd.R_below (zR HO_823001.out) hb); have n2_ := Aside0.mk (Kd.R_below (zR HO_832001.out) hb); have n3_ := Aside0.mk (Kd.R_below (zR HO_833001.out) hb); have n4_ := Aside0.mk (Kd.V_below (Kd.V_elderB (zV HO_839001.out) gb864 (Nat.le_of_eq hg.symm)) hb); have n5_ := Aside0.mk (Kd.R_below (zR HO_845001.out) hb); have n6_ := Aside0.mk (Kd.V_below (Kd.V_elderB (zV HO_851001.out) gb864 (Nat.le_of_eq hg.symm)) hb); have n7_ := Aside0.mk (Kd.V_below (Kd.V_elderB (zV HO_857001.out) gb864 (Nat.le_of_eq hg.symm)) hb); have n8_ := Aside0.mk (Kd.V_below (Kd.V_elderB (zV HO862.out) gb864 (Nat.le_of_eq hg.symm)) hb); have n9_ := Aside0.mk (blk_below (g := gb821) (o := .cells #[.bool t813, .slice Ao18 t814.length co18] 27 (0, 0)) (zk BK821.out) hb); have n10_ := Aside0.mk (blk_below (g := gb822) (o := .cells #[.bool t817, .slice Ao20 t818.length co20] 27 (0, 0)) (zk BK822.out) hb); have n11_ := Aside0.mk (blk_below (g := gb831) (o := .cells #[.bool t823, .slice Ao28 t824.length co28] 27 (0, 0)) (zk BK831.out) hb); have n12_ := Aside0.mk (blk_below (g := gb832) (o := .cells #[.bool t827, .slice Ao33 t828.length co33] 27 (0, 0)) (zk BK832.out) hb); have n13_ := Aside0.mk (blk_below (g := gb838) (o := .cells #[.bool t833, .slice Ao44 t834.length co44] 27 (0, 0)) (zk BK838.out) hb); have n14_ := Aside0.mk (blk_below (g := gb844) (o := .cells #[.bool t839, .slice Ao55 t840.length co55] 27 (0, 0)) (zk BK844.out) hb); have n15_ := Aside0.mk (blk_below (g := gb850) (o := .cells #[.bool t845, .slice Ao68 t846.length co68] 27 (0, 0)) (zk BK850.out) hb); have n16_ := Aside0.mk (blk_below (g := gb856) (o := .cells #[.bool t851, .slice Ao82 t852.length co82] 27 (0, 0)) (zk BK856.out) hb); have n17_ := Aside0.mk (below_step zb hb); have n18_ := Aside0.mk (hbox); have n19_ := Aside0.mk ((by rw [hg]; exact (below_size zb) : w.heap.size ≤ gb864)); have n20_ := Aside0.mk ((by rw [hg]; exact (below_size zb) : w.heap.size ≤ gb864)); have n21_ := Aside0.mk ((by rw [hg]; exact Nat.ne_of_lt (blk_lt (g := gb821) (o := .cells #[.bool t813, .slice Ao18 t814.length co18] 27 (0, 0)) (zk BK821.out)) : gb821 ≠ gb864)); have n22_ := Aside0.mk ((by rw [hg]; exact Nat.ne_of_gt (blk_lt (g := gb821) (o := .cells #[.bool t813, .slice Ao18 t814.length co18] 27 (0, 0)) (zk BK821.out)) : gb864 ≠ gb821)); have n23_ := Aside0.mk ((by rw [hg]; exact Nat.ne_of_lt (blk_lt (g := gb822) (o := .cells #[.bool t817, .slice Ao20 t818.length co20] 27 (0, 0)) (zk BK822.out)) : gb822 ≠ gb864)); have n24_ := Aside0.mk ((by rw [hg]; exact Nat.ne_of_gt (blk_lt (g := gb822) (o := .cells #[.bool t817, .slice Ao20 t818.length co20] 27 (0, 0)) (zk BK822.out)) : gb864 ≠ gb822)); have n25_ := Aside0.mk ((by rw [hg]; exact Nat.ne_of_lt (blk_lt (g := gb831) (o := .cells #[.bool t823, .slice Ao28 t824.length co28] 27 (0, 0)) (zk BK831.out)) : gb831 ≠ gb864)); have n26_ := Aside0.mk ((by rw [hg]; exact Nat.ne_of_gt (blk_lt (g := gb831) (o := .cells #[.bool t823, .slice Ao28 t824.length co28] 27 (0, 0)) (zk BK831.out)) : gb864 ≠ gb831)); have n27_ := Aside0.mk ((by rw [hg]; exact Nat.ne_of_lt (blk_lt (g := gb832) (o := .cells #[.bool t827, .slice Ao33 t828.length co33] 27 (0, 0)) (zk BK832.out)) : gb832 ≠ gb864)); have n28_ := Aside0.mk ((by rw [hg]; exact Nat.ne_of_gt (blk_lt (g := gb832) (o := .cells #[.bool t827, .slice Ao33 t828.length co33] 27 (0, 0)) (zk BK832.out)) : gb864 ≠ gb832)); have n29_ := Aside0.mk ((by rw [hg]; exact Nat.ne_of_lt (blk_lt (g := gb838) (o := .cells #[.bool t833, .slice Ao44 t834.length co44] 27 (0, 0)) (zk BK838.out)) : gb838 ≠ gb864)); have n30_ := Aside0.mk ((by rw [hg]; exact Nat.ne_of_gt (blk_lt (g := gb838) (o := .cells #[.bool t833, .slice Ao44 t834.length co44] 27 (0, 0)) (zk BK838.out)) : gb864 ≠ gb838)); have n31_ := Aside0.mk ((by rw [hg]; exact Nat.ne_of_lt (blk_lt (g := gb844) (o := .cells #[.bool t839, .slice Ao55 t840.length co55] 27 (0, 0)) (zk BK844.out)) : gb844 ≠ gb864)); have n32_ := Aside0.mk ((by rw [hg]; exact Nat.ne_of_gt (blk_lt (g := gb844) (o := .cells #[.bool t839, .slice Ao55 t840.length co55] 27 (0, 0)) (zk BK844.out)) : gb864 ≠ gb844)); have n33_ := Aside0.mk ((by rw [hg]; exact Nat.ne_of_lt (blk_lt (g := gb850) (o := .cells #[.bool t845, .slice Ao68 t846.length co68] 27 (0, 0)) (zk BK850.out)) : gb850 ≠ gb864)); have n34_ := Aside0.mk ((by rw [hg]; exact Nat.ne_of_gt (blk_lt (g := gb850) (o := .cells #[.bool t845, .slice Ao68 t846.length co68] 27 (0, 0)) (zk BK850.out)) : gb864 ≠ gb850)); have n35_ := Aside0.mk ((by rw [hg]; exact Nat.ne_of_lt (blk_lt (g := gb856) (o := .cells #[.bool t851, .slice Ao82 t852.length co82] 27 (0, 0)) (zk BK856.out)) : gb856 ≠ gb864)); have n36_ := Aside0.mk ((by rw [hg]; exact Nat.ne_of_gt (blk_lt (g := gb856) (o := .cells #[.bool t851, .slice Ao82 t852.length co82] 27 (0, 0)) (zk BK856.out)) : gb864 ≠ gb856)); clear HO_822001; clear HO_823001; clear HO_832001; clear HO_833001; clear HO_839001; clear HO_845001; clear HO_851001; clear HO_857001; clear HO862; clear BK821; clear BK822; clear BK831; clear BK832; clear BK838; clear BK844; clear BK850; clear BK856; clear HB; have HO_822001 := n0_; have HO_823001 := n1_; have HO_832001 := n2_; have HO_833001 := n3_; have HO_839001 := n4_; have HO_845001 := n5_; have HO_851001 := n6_; have HO_857001 := n7_; have HO862 := n8_; have BK821 := n9_; have BK822 := n10_; have BK831 := n11_; have BK832 := n12_; have BK838 := n13_; have BK844 := n14_; have BK850 := n15_; have BK856 := n16_; have HB := n17_; have BK864 := n18_; have GW864 := n19_; have GE864 := n20_; have NB821_864 := n21_; have NB864_821 := n22_; have NB822_864 := n23_; have NB864_822 := n24_; have NB831_864 := n25_; have NB864_831 := n26_; have NB832_864 := n27_; have NB864_832 := n28_; have NB838_864 := n29_; have NB864_838 := n30_; have NB844_864 := n31_; have NB864_844 := n32_; have NB850_864 := n33_; have NB864_850 := n34_; have NB856_864 := n35_; have NB864_856 := n36_; clear n0_ n1_ n2_ n3_ n4_ n5_ n6_ n7_ n8_ n9_ n10_ n11_ n12_ n13_ n14_ n15_ n16_ n17_ n18_ n19_ n20_ n21_ n22_ n23_ n24_ n25_ n26_ n27_ n28_ n29_ n30_ n31_ n32_ n33_ n34_ n35_ n36_; clear hb hbox hg; have hnb192 := NB864_821.out; have hnc192 := NB821_864.out; have hnb193 := NB864_822.out; have hnc193 := NB822_864.out; have hnb194 := NB864_831.out; have hnc194 := NB831_864.out; have hnb195 := NB864_832.out; have hnc195 := NB832_864.out; have hnb196 := NB864_838.out; have hnc196 := NB838_864.out; have hnb197 := NB864_844.out; have hnc197 := NB844_864.out; have hnb198 := NB864_850.out; have hnc198 := NB850_864.out; have hnb199 := NB864_856.out; have hnc199 := NB856_864.out; have hcz200_0 : w191.cell? ⟨gb864, 0, none⟩ = some (.bool false) := (blk_cell BK864.out 0).trans rfl; have hcz200_1 : w191.cell? ⟨gb864, 1, none⟩ = some (.slice none 0 0) := (blk_cell BK864.out 1).trans rfl; have hfz200_0 := blk_frozen BK864.out 0; have hfz200_1 := blk_frozen BK864.out 1; obtain ⟨Ao201, co201, eo201⟩ := Kd.V_slice HO862.out; subst eo201) | ((with_reducible refine gate_store (t := 27) (p := 17) rfl ?_); refine store_event (t := 27) (p := 17) (v := ?vo_w202) (w1 := ((w191.setCell ⟨gb864, 0, none⟩ (.bool t859)).setCell ⟨gb864, 1, none⟩ (.slice Ao201 t860.length co201))) ?hg ?ho ?hn ?hr ?_; (case ho => rfl); (case hg => rfl); (case hn => rfl); (case hr => first | (go_simp; done) | (go_simp; rfl)); intro w202 hw; have n0_ : Aside0 (Kd.R (Kd.int .i64) 3 w202 w.heap.size (fun k_ => some k_ ≠ (.slice Ao20 t818.length co20 : Value).ownBlock ∧ some k_ ≠ (.slice Ao28 t824.length co28 : Value).ownBlock ∧ some k_ ≠ (.slice Ao33 t828.length co33 : Value).ownBlock ∧ some k_ ≠ (.slice Ao55 t840.length co55 : Value).ownBlock) (.slice Ao18 t814.length co18) t814) := ⟨(by rw [hw]; exact (by (with_reducible repeat (first | apply Kd.R_alloc | apply Kd.R_drewN | apply Kd.R_drew)); exact Kd.R_mono (Kd.R_far (p := ⟨gb864, 1, none⟩) (Kd.R_far (p := ⟨gb864, 0, none⟩) (Kd.R_types HO_822001.out BK864.out (by decide)) (fun _ hk => hk.2) (.bool t859)) (fun _ hk => hk.2) (.slice Ao201 t860.length co201)) (fun _ hk => ⟨hk.1.1, ⟨hk.1.2.1, ⟨hk.1.2.2.1, hk.1.2.2.2⟩⟩⟩)))⟩; have n1_ : Aside0 (Kd.R (Kd.int .i64) 3 w202 w.heap.size (fun k_ => some k_ ≠ (.slice Ao18 t814.length co18 : Value).ownBlock ∧ some k_ ≠ (.slice Ao28 t824.length co28 : Value).ownBlock ∧ some k_ ≠ (.slice Ao33 t828.length co33 : Value).ownBlock ∧ some k_ ≠ (.slice Ao55 t840.length co55 : Value).ownBlock) (.slice Ao20 t818.length co20) t818) := ⟨(by rw [hw]; exact (by (with_reducible repeat (first | apply Kd.R_alloc | apply Kd.R_drewN | apply Kd.R_drew)); exact Kd.R_mono (Kd.R_far (p := ⟨gb864, 1, none⟩) (Kd.R_far (p := ⟨gb864, 0, none⟩) (Kd.R_types HO_823001.out BK864.out (by decide)) (fun _ hk => hk.2) (.bool t859)) (fun _ hk => hk.2) (.slice Ao201 t860.length co201)) (fun _ hk => ⟨hk.1.1, ⟨hk.1.2.1, ⟨hk.1.2.2.1, hk.1.2.2.2⟩⟩⟩)))⟩; have n2_ : Aside0 (Kd.R (Kd.int .i64) 3 w202 w.heap.size (fun k_ => some k_ ≠ (.slice Ao18 t814.length co18 : Value).ownBlock ∧ some k_ ≠ (.slice Ao20 t818.length co20 : Value).ownBlock ∧ some k_ ≠ (.slice Ao33 t828.length co33 : Value).ownBlock ∧ some k_ ≠ (.slice Ao55 t840.length co55 : Value).ownBlock) (.slice Ao28 t824.length co28) t824) := ⟨(by rw [hw]; exact (by (with_reducible repeat (first | apply Kd.R_alloc | apply Kd.R_drewN | apply Kd.R_drew)); exact Kd.R_mono (Kd.R_far (p := ⟨gb864, 1, none⟩) (Kd.R_far (p := ⟨gb864, 0, none⟩) (Kd.R_types HO_832001.out BK864.out (by decide)) (fun _ hk => hk.2) (.bool t859)) (fun _ hk => hk.2) (.slice Ao201 t860.length co201)) (fun _ hk => ⟨hk.1.1, ⟨hk.1.2.1, ⟨hk.1.2.2.1, hk.1.2.2.2⟩⟩⟩)))⟩; have n3_ : Aside0 (Kd.R (Kd.int .i64) 3 w202 w.heap.size (fun k_ => some k_ ≠ (.slice Ao18 t814.length co18 : Value).ownBlock ∧ some k_ ≠ (.slice Ao20 t818.length co20 : Value).ownBlock ∧ some k_ ≠ (.slice Ao28 t824.length co28 : Value).ownBlock ∧ some k_ ≠ (.slice Ao55 t840.length co55 : Value).ownBlock) (.slice Ao33 t828.length co33) t828) := ⟨(by rw [hw]; exact (by (with_reducible repeat (first | apply Kd.R_alloc | apply Kd.R_drewN | apply Kd.R_drew)); exact Kd.R_mono (Kd.R_far (p := ⟨gb864, 1, none⟩) (Kd.R_far (p := ⟨gb864, 0, none⟩) (Kd.R_types HO_833001.out BK864.out (by decide)) (fun _ hk => hk.2) (.bool t859)) (fun _ hk => hk.2) (.slice Ao201 t860.length co201)) (fun _ hk => ⟨hk.1.1, ⟨hk.1.2.1, ⟨hk.1.2.2.1, hk.1.2.2.2⟩⟩⟩)))⟩; have n4_ : Aside0 (Kd.V (Kd.int .i64) 3 w202 w.heap.size (fun k_ => some k_ ≠ (.slice Ao28 t824.length co28 : Value).ownBlock ∧ some k_ ≠ (.slice Ao33 t828.length co33 : Value).ownBlock ∧ some k_ ≠ (.slice Ao55 t840.length co55 : Value).ownBlock ∧ k_ ≠ gb821 ∧ k_ ≠ gb822 ∧ k_ ≠ gb831 ∧ k_ ≠ gb832 ∧ k_ ≠ gb838 ∧ k_ ≠ gb844 ∧ k_ ≠ gb850 ∧ k_ ≠ gb856 ∧ k_ ≠ gb864) (.slice Ao44 t834.length co44) t834) := ⟨(by rw [hw]; exact (by (with_reducible repeat (first | apply Kd.V_alloc | apply Kd.V_drewN | apply Kd.V_drew)); exact Kd.V_mono (Kd.V_far (p := ⟨gb864, 1, none⟩) (Kd.V_far (p := ⟨gb864, 0, none⟩) (Kd.V_mono HO_839001.out (fun k_ hk => (⟨hk, hk.2⟩ : _ ∧ k_ ≠ gb864))) (fun _ hk => hk.2) (.bool t859)) (fun _ hk => hk.2) (.slice Ao201 t860.length co201)) (fun _ hk => ⟨hk.1.1.1, ⟨hk.1.1.2.1, ⟨hk.1.1.2.2.1, ⟨hk.1.1.2.2.2.1, ⟨hk.1.1.2.2.2.2.1, ⟨hk.1.1.2.2.2.2.2.1, ⟨hk.1.1.2.2.2.2.2.2.1, ⟨hk.1.1.2.2.2.2.2.2.2.1, ⟨hk.1.1.2.2.2.2.2.2.2.2.1, ⟨hk.1.1.2.2.2.2.2.2.2.2.2.1, ⟨hk.1.1.2.2.2.2.2.2.2.2.2.2, hk.1.2⟩⟩⟩⟩⟩⟩⟩⟩⟩⟩⟩)))⟩; have n5_ : Aside0 (Kd.R (Kd.int .i64) 3 w202 w.heap.size (fun k_ => some k_ ≠ (.slice Ao18 t814.length co18 : Value).ownBlock ∧ some k_ ≠ (.slice Ao20 t818.length co20 : Value).ownBlock ∧ some k_ ≠ (.slice Ao28 t824.length co28 : Value).ownBlock ∧ some k_ ≠ (.slice Ao33 t828.length co33 : Value).ownBlock) (.slice Ao55 t840.length co55) t840) := ⟨(by rw [hw]; exact (by (with_reducible repeat (first | apply Kd.R_alloc | apply Kd.R_drewN | apply Kd.R_drew)); exact Kd.R_mono (Kd.R_far (p := ⟨gb864, 1, none⟩) (Kd.R_far (p := ⟨gb864, 0, none⟩) (Kd.R_types HO_845001.out BK864.out (by decide)) (fun _ hk => hk.2) (.bool t859)) (fun _ hk => hk.2) (.slice Ao201 t860.length co201)) (fun _ hk => ⟨hk.1.1, ⟨hk.1.2.1, ⟨hk.1.2.2.1, hk.1.2.2.2⟩⟩⟩)))⟩; have n6_ : Aside0 (Kd.V (Kd.int .i64) 3 w202 w.heap.size (fun k_ => some k_ ≠ (.slice Ao20 t818.length co20 : Value).ownBlock ∧ some k_ ≠ (.slice Ao33 t828.length co33 : Value).ownBlock ∧ some k_ ≠ (.slice Ao55 t840.length co55 : Value).ownBlock ∧ k_ ≠ gb821 ∧ k_ ≠ gb822 ∧ k_ ≠ gb831 ∧ k_ ≠ gb832 ∧ k_ ≠ gb838 ∧ k_ ≠ gb844 ∧ k_ ≠ gb850 ∧ k_ ≠ gb856 ∧ k_ ≠ gb864) (.slice Ao68 t846.length co68) t846) := ⟨(by rw [hw]; exact (by (with_reducible repeat (first | apply Kd.V_alloc | apply Kd.V_drewN | apply Kd.V_drew)); exact Kd.V_mono (Kd.V_far (p := ⟨gb864, 1, none⟩) (Kd.V_far (p := ⟨gb864, 0, none⟩) (Kd.V_mono HO_851001.out (fun k_ hk => (⟨hk, hk.2⟩ : _ ∧ k_ ≠ gb864))) (fun _ hk => hk.2) (.bool t859)) (fun _ hk => hk.2) (.slice Ao201 t860.length co201)) (fun _ hk => ⟨hk.1.1.1, ⟨hk.1.1.2.1, ⟨hk.1.1.2.2.1, ⟨hk.1.1.2.2.2.1, ⟨hk.1.1.2.2.2.2.1, ⟨hk.1.1.2.2.2.2.2.1, ⟨hk.1.1.2.2.2.2.2.2.1, ⟨hk.1.1.2.2.2.2.2.2.2.1, ⟨hk.1.1.2.2.2.2.2.2.2.2.1, ⟨hk.1.1.2.2.2.2.2.2.2.2.2.1, ⟨hk.1.1.2.2.2.2.2.2.2.2.2.2, hk.1.2⟩⟩⟩⟩⟩⟩⟩⟩⟩⟩⟩)))⟩; have n7_ : Aside0 (Kd.V (Kd.int .i64) 3 w202 w.heap.size (fun k_ => some k_ ≠ (.slice Ao18 t814.length co18 : Value).ownBlock ∧ some k_ ≠ (.slice Ao33 t828.length co33 : Value).ownBlock ∧ some k_ ≠ (.slice Ao55 t840.length co55 : Value).ownBlock ∧ k_ ≠ gb821 ∧ k_ ≠ gb822 ∧ k_ ≠ gb831 ∧ k_ ≠ gb832 ∧ k_ ≠ gb838 ∧ k_ ≠ gb844 ∧ k_ ≠ gb850 ∧ k_ ≠ gb856 ∧ k_ ≠ gb864) (.slice Ao82 t852.length co82) t852) := ⟨(by rw [hw]; exact (by (with_reducible repeat (first | apply Kd.V_alloc | apply Kd.V_drewN | apply Kd.V_drew)); exact Kd.V_mono (Kd.V_far (p := ⟨gb864, 1, none⟩) (Kd.V_far (p := ⟨gb864, 0, none⟩) (Kd.V_mono HO_857001.out (fun k_ hk => (⟨hk, hk.2⟩ : _ ∧ k_ ≠ gb864))) (fun _ hk => hk.2) (.bool t859)) (fun _ hk => hk.2) (.slice Ao201 t860.length co201)) (fun _ hk => ⟨hk.1.1.1, ⟨hk.1.1.2.1, ⟨hk.1.1.2.2.1, ⟨hk.1.1.2.2.2.1, ⟨hk.1.1.2.2.2.2.1, ⟨hk.1.1.2.2.2.2.2.1, ⟨hk.1.1.2.2.2.2.2.2.1, ⟨hk.1.1.2.2.2.2.2.2.2.1, ⟨hk.1.1.2.2.2.2.2.2.2.2.1, ⟨hk.1.1.2.2.2.2.2.2.2.2.2.1, ⟨hk.1.1.2.2.2.2.2.2.2.2.2.2, hk.1.2⟩⟩⟩⟩⟩⟩⟩⟩⟩⟩⟩)))⟩; have n8_ : Aside0 (Kd.V (Kd.int .i64) 3 w202 w.heap.size (fun k_ => some k_ ≠ (.slice Ao33 t828.length co33 : Value).ownBlock ∧ some k_ ≠ (.slice Ao55 t840.length co55 : Value).ownBlock ∧ k_ ≠ gb821 ∧ k_ ≠ gb822 ∧ k_ ≠ gb831 ∧ k_ ≠ gb832 ∧ k_ ≠ gb838 ∧ k_ ≠ gb844 ∧ k_ ≠ gb850 ∧ k_ ≠ gb856 ∧ k_ ≠ gb864) (.slice Ao201 t860.length co201) t860) := ⟨(by rw [hw]; exact (by (with_reducible repeat (first | apply Kd.V_alloc | apply Kd.V_drewN | apply Kd.V_drew)); exact Kd.V_mono (Kd.V_far (p := ⟨gb864, 1, none⟩) (Kd.V_far (p := ⟨gb864, 0, none⟩) (Kd.V_mono HO862.out (fun k_ hk => (⟨hk, hk.2⟩ : _ ∧ k_ ≠ gb864))) (fun _ hk => hk.2) (.bool t859)) (fun _ hk => hk.2) (.slice Ao201 t860.length co201)) (fun _ hk => ⟨hk.1.1.1, ⟨hk.1.1.2.1, ⟨hk.1.1.2.2.1, ⟨hk.1.1.2.2.2.1, ⟨hk.1.1.2.2.2.2.1, ⟨hk.1.1.2.2.2.2.2.1, ⟨hk.1.1.2.2.2.2.2.2.1, ⟨hk.1.1.2.2.2.2.2.2.2.1, ⟨hk.1.1.2.2.2.2.2.2.2.2.1, ⟨hk.1.1.2.2.2.2.2.2.2.2.2, hk.1.2⟩⟩⟩⟩⟩⟩⟩⟩⟩⟩)))⟩; have n9_ : Aside0 (w202.heap[gb821]? = some (.cells #[.bool t813, .slice Ao18 t814.length co18] 27 (0, 0))) := ⟨(by rw [hw]; exact (zk BK821.out))⟩; have n10_ : Aside0 (w202.heap[gb822]? = some (.cells #[.bool t817, .slice Ao20 t818.length co20] 27 (0, 0))) := ⟨(by rw [hw]; exact (zk BK822.out))⟩; have n11_ : Aside0 (w202.heap[gb831]? = some (.cells #[.bool t823, .slice Ao28 t824.length co28] 27 (0, 0))) := ⟨(by rw [hw]; exact (zk BK831.out))⟩; have n12_ : Aside0 (w202.heap[gb832]? = some (.cells #[.bool t827, .slice Ao33 t828.length co33] 27 (0, 0))) := ⟨(by rw [hw]; exact (zk BK832.out))⟩; have n13_ : Aside0 (w202.heap[gb838]? = some (.cells #[.bool t833, .slice Ao44 t834.length co44] 27 (0, 0))) := ⟨(by rw [hw]; exact (zk BK838.out))⟩; have n14_ : Aside0 (w202.heap[gb844]? = some (.cells #[.bool t839, .slice Ao55 t840.length co55] 27 (0, 0))) := ⟨(by rw [hw]; exact (zk BK844.out))⟩; have n15_ : Aside0 (w202.heap[gb850]? = some (.cells #[.bool t845, .slice Ao68 t846.length co68] 27 (0, 0))) := ⟨(by rw [hw]; exact (zk BK850.out))⟩; have n16_ : Aside0 (w202.heap[gb856]? = some (.cells #[.bool t851, .slice Ao82 t852.length co82] 27 (0, 0))) := ⟨(by rw [hw]; exact (zk BK856.out))⟩; have n17_ : Aside0 (w202.heap[gb864]? = some (.cells #[.bool t859, .slice Ao201 t860.length co201] 27 (0, 0))) := ⟨(by rw [hw]; exact (by (with_reducible repeat (first | refine blk_drewN ?_ _ | refine blk_drew ?_ | refine blk_alloc ?_ _)); refine blk_put (cs := #[.bool t859, .slice none 0 0]) ?_ 1 _ rfl; (with_reducible repeat (first | refine blk_drewN ?_ _ | refine blk_drew ?_ | refine blk_alloc ?_ _)); refine blk_put (cs := #[.bool false, .slice none 0 0]) ?_ 0 _ rfl; (with_reducible repeat (first | refine blk_drewN ?_ _ | refine blk_drew ?_ | refine blk_alloc ?_ _)); exact BK864.out))⟩; have n18_ : Aside0 (Below w.heap.size w w202) := ⟨(by rw [hw]; exact zb)⟩; clear hw; clear HO_822001; clear HO_823001; clear HO_832001; clear HO_833001; clear HO_839001; clear HO_845001; clear HO_851001; clear HO_857001; clear HO862; clear BK821; clear BK822; clear BK831; clear BK832; clear BK838; clear BK844; clear BK850; clear BK856; clear BK864; clear HB; have HO_822001 := n0_; have HO_823001 := n1_; have HO_832001 := n2_; have HO_833001 := n3_; have HO_839001 := n4_; have HO_845001 := n5_; have HO_851001 := n6_; have HO_857001 := n7_; have HO862 := n8_; have BK821 := n9_; have BK822 := n10_; have BK831 := n11_; have BK832 := n12_; have BK838 := n13_; have BK844 := n14_; have BK850 := n15_; have BK856 := n16_; have BK864 := n17_; have HB := n18_; clear n0_ n1_ n2_ n3_ n4_ n5_ n6_ n7_ n8_ n9_ n10_ n11_ n12_ n13_ n14_ n15_ n16_ n17_ n18_; have hnb203 := NB838_822.out; have hnc203 := NB822_838.out; have hnb204 := NB838_831.out; have hnc204 := NB831_838.out; have hnb205 := NB838_832.out; have hnc205 := NB832_838.out; have hnb206 := NB838_844.out; have hnc206 := NB844_838.out; have hnb207 := NB838_850.out; have hnc207 := NB850_838.out; have hcz208_0 : w202.cell? ⟨gb838, 0, none⟩ = some (.bool t833) := (blk_cell BK838.out 0).trans rfl; have hcz208_1 : w202.cell? ⟨gb838, 1, none⟩ = some (.slice Ao44 t834.length co44) := (blk_cell BK838.out 1).trans rfl; have hfz208_0 := blk_frozen BK838.out 0; have hfz208_1 := blk_frozen BK838.out 1; have hnb209 := NB850_822.out; have hnc209 := NB822_850.out; have hnb210 := NB850_831.out; have hnc210 := NB831_850.out; have hnb211 := NB850_832.out; have hnc211 := NB832_850.out; have hnb212 := NB850_844.out; have hnc212 := NB844_850.out; have hcz213_0 : w202.cell? ⟨gb850, 0, none⟩ = some (.bool t845) := (blk_cell BK850.out 0).trans rfl; have hcz213_1 : w202.cell? ⟨gb850, 1, none⟩ = some (.slice Ao68 t846.length co68) := (blk_cell BK850.out 1).trans rfl; have hfz213_0 := blk_frozen BK850.out 0; have hfz213_1 := blk_frozen BK850.out 1) | ((with_reducible refine gate_callee (f := 32) rfl ?_); refine goesL_ (some 101) rfl rfl Try.func32 (by kernel_rfl) rfl #[.agg #[.bool t833, .slice Ao44 t834.length co44], .agg #[.bool t845, .slice Ao68 t846.length co68]] rfl za ?_; (with_reducible refine (impl_BigAdd.calls kj11 t833 (fun k_ => (some k_ ≠ (.slice Ao28 t824.length co28 : Value).ownBlock ∧ (some k_ ≠ (.slice Ao33 t828.length co33 : Value).ownBlock ∧ (some k_ ≠ (.slice Ao55 t840.length co55 : Value).ownBlock ∧ (k_ ≠ gb821 ∧ (k_ ≠ gb822 ∧ (k_ ≠ gb831 ∧ (k_ ≠ gb832 ∧ (k_ ≠ gb838 ∧ (k_ ≠ gb844 ∧ (k_ ≠ gb850 ∧ (k_ ≠ gb856 ∧ k_ ≠ gb864)))))))))))) _ _ t834 t845 (fun k_ => (some k_ ≠ (.slice Ao20 t818.length co20 : Value).ownBlock ∧ (some k_ ≠ (.slice Ao33 t828.length co33 : Value).ownBlock ∧ (some k_ ≠ (.slice Ao55 t840.length co55 : Value).ownBlock ∧ (k_ ≠ gb821 ∧ (k_ ≠ gb822 ∧ (k_ ≠ gb831 ∧ (k_ ≠ gb832 ∧ (k_ ≠ gb838 ∧ (k_ ≠ gb844 ∧ (k_ ≠ gb850 ∧ (k_ ≠ gb856 ∧ k_ ≠ gb864)))))))))))) _ _ t846 t865 t866 t869 _ ?side1 ?side2 A172.out).mono ?_); (case side1 => exact HO_839001.out); (case side2 => exact HO_851001.out); rintro e w214 ⟨v867, rfl, ho0, hb⟩; refine ⟨_, rfl, ?_⟩; have n0_ := Aside0.mk (Kd.R_below (zR HO_822001.out) hb); have n1_ := Aside0.mk (Kd.R_below (zR HO_823001.out) hb); have n2_ := Aside0.mk (Kd.R_below (zR HO_832001.out) hb); have n3_ := Aside0.mk (Kd.R_below (zR HO_833001.out) hb); have n4_ := Aside0.mk (Kd.V_below (zV HO_839001.out) hb); have n5_ := Aside0.mk (Kd.R_below (zR HO_845001.out) hb); have n6_ := Aside0.mk (Kd.V_below (zV HO_851001.out) hb); have n7_ := Aside0.mk (Kd.V_below (zV HO_857001.out) hb); have n8_ := Aside0.mk (Kd.V_below (zV HO862.out) hb); have n9_ := Aside0.mk (Kd.V_lower (Kd.V_mono (ok' := fun k_ => some k_ ≠ (.slice Ao33 t828.length co33 : Value).ownBlock ∧ some k_ ≠ (.slice Ao55 t840.length co55 : Value).ownBlock ∧ k_ ≠ gb821 ∧ k_ ≠ gb822 ∧ k_ ≠ gb831 ∧ k_ ≠ gb832 ∧ k_ ≠ gb838 ∧ k_ ≠ gb844 ∧ k_ ≠ gb850 ∧ k_ ≠ gb856 ∧ k_ ≠ gb864) ho0 (fun k_ hk_ => ⟨Or.elim hk_ (fun hs_ => Or.elim hs_ (fun hs_ => hs_.2.1) (fun hs_ => hs_.2.1)) (fun hn_ => (Kd.fresh' (Kd.R_lt (zR HO_833001.out)) k_ hn_)), Or.elim hk_ (fun hs_ => Or.elim hs_ (fun hs_ => hs_.2.2.1) (fun hs_ => hs_.2.2.1)) (fun hn_ => (Kd.fresh' (Kd.R_lt (zR HO_845001.out)) k_ hn_)), Or.elim hk_ (fun hs_ => Or.elim hs_ (fun hs_ => hs_.2.2.2.1) (fun hs_ => hs_.2.2.2.1)) (fun hn_ => (Kd.freshB (g := gb821) (o := .cells #[.bool t813, .slice Ao18 t814.length co18] 27 (0, 0)) (zk BK821.out) k_ hn_)), Or.elim hk_ (fun hs_ => Or.elim hs_ (fun hs_ => hs_.2.2.2.2.1) (fun hs_ => hs_.2.2.2.2.1)) (fun hn_ => (Kd.freshB (g := gb822) (o := .cells #[.bool t817, .slice Ao20 t818.length co20] 27 (0, 0)) (zk BK822.out) k_ hn_)), Or.elim hk_ (fun hs_ => Or.elim hs_ (fun hs_ => hs_.2.2.2.2.2.1) (fun hs_ => hs_.2.2.2.2.2.1)) (fun hn_ => (Kd.freshB (g := gb831) (o := .cells #[.bool t823, .slice Ao28 t824.length co28] 27 (0, 0)) (zk BK831.out) k_ hn_)), Or.elim hk_ (fun hs_ => Or.elim hs_ (fun hs_ => hs_.2.2.2.2.2.2.1) (fun hs_ => hs_.2.2.2.2.2.2.1)) (fun hn_ => (Kd.freshB (g := gb832) (o := .cells #[.bool t827, .slice Ao33 t828.length co33] 27 (0, 0)) (zk BK832.out) k_ hn_)), Or.elim hk_ (fun hs_ => Or.elim hs_ (fun hs_ => hs_.2.2.2.2.2.2.2.1) (fun hs_ => hs_.2.2.2.2.2.2.2.1)) (fun hn_ => (Kd.freshB (g := gb838) (o := .cells #[.bool t833, .slice Ao44 t834.length co44] 27 (0, 0)) (zk BK838.out) k_ hn_)), Or.elim hk_ (fun hs_ => Or.elim hs_ (fun hs_ => hs_.2.2.2.2.2.2.2.2.1) (fun hs_ => hs_.2.2.2.2.2.2.2.2.1)) (fun hn_ => (Kd.freshB (g := gb844) (o := .cells #[.bool t839, .slice Ao55 t840.length co55] 27 (0, 0)) (zk BK844.out) k_ hn_)), Or.elim hk_ (fun hs_ => Or.elim hs_ (fun hs_ => hs_.2.2.2.2.2.2.2.2.2.1) (fun hs_ => hs_.2.2.2.2.2.2.2.2.2.1)) (fun hn_ => (Kd.freshB (g := gb850) (o := .cells #[.bool t845, .slice Ao68 t846.length co68] 27 (0, 0)) (zk BK850.out) k_ hn_)), Or.elim hk_ (fun hs_ => Or.elim hs_ (fun hs_ => hs_.2.2.2.2.2.2.2.2.2.2.1) (fun hs_ => hs_.2.2.2.2.2.2.2.2.2.2.1)) (fun hn_ => (Kd.freshB (g := gb856) (o := .cells #[.bool t851, .slice Ao82 t852.length co82] 27 (0, 0)) (zk BK856.out) k_ hn_)), Or.elim hk_ (fun hs_ => Or.elim hs_ (fun hs_ => hs_.2.2.2.2.2.2.2.2.2.2.2) (fun hs_ => hs_.2.2.2.2.2.2.2.2.2.2.2)) (fun hn_ => (Kd.freshB (g := gb864) (o := .cells #[.bool t859, .slice Ao201 t860.length co201] 27 (0, 0)) (zk BK864.out) k_ hn_))⟩)) (below_size zb)); have n10_ := Aside0.mk (blk_below (g := gb821) (o := .cells #[.bool t813, .slice Ao18 t814.length co18] 27 (0, 0)) (zk BK821.out) hb); have n11_ := Aside0.mk (blk_below (g := gb822) (o := .cells #[.bool t817, .slice Ao20 t818.length co20] 27 (0, 0)) (zk BK822.out) hb); have n12_ := Aside0.mk (blk_below (g := gb831) (o := .cells #[.bool t823, .slice Ao28 t824.length co28] 27 (0, 0)) (zk BK831.out) hb); have n13_ := Aside0.mk (blk_below (g := gb832) (o := .cells #[.bool t827, .slice Ao33 t828.length co33] 27 (0, 0)) (zk BK832.out) hb); have n14_ := Aside0.mk (blk_below (g := gb838) (o := .cells #[.bool t833, .slice Ao44 t834.length co44] 27 (0, 0)) (zk BK838.out) hb); have n15_ := Aside0.mk (blk_below (g := gb844) (o := .cells #[.bool t839, .slice Ao55 t840.length co55] 27 (0, 0)) (zk BK844.out) hb); have n16_ := Aside0.mk (blk_below (g := gb850) (o := .cells #[.bool t845, .slice Ao68 t846.length co68] 27 (0, 0)) (zk BK850.out) hb); have n17_ := Aside0.mk (blk_below (g := gb856) (o := .cells #[.bool t851, .slice Ao82 t852.length co82] 27 (0, 0)) (zk BK856.out) hb); have n18_ := Aside0.mk (blk_below (g := gb864) (o := .cells #[.bool t859, .slice Ao201 t860.length co201] 27 (0, 0)) (zk BK864.out) hb); have n19_ := Aside0.mk (below_step zb hb); clear HO_822001; clear HO_823001; clear HO_832001; clear HO_833001; clear HO_839001; clear HO_845001; clear HO_851001; clear HO_857001; clear HO862; clear BK821; clear BK822; clear BK831; clear BK832; clear BK838; clear BK844; clear BK850; clear BK856; clear BK864; clear HB; have HO_822001 := n0_; have HO_823001 := n1_; have HO_832001 := n2_; have HO_833001 := n3_; have HO_839001 := n4_; have HO_845001 := n5_; have HO_851001 := n6_; have HO_857001 := n7_; have HO862 := n8_; have HO868 := n9_; have BK821 := n10_; have BK822 := n11_; have BK831 := n12_; have BK832 := n13_; have BK838 := n14_; have BK844 := n15_; have BK850 := n16_; have BK856 := n17_; have BK864 := n18_; have HB := n19_; clear n0_ n1_ n2_ n3_ n4_ n5_ n6_ n7_ n8_ n9_ n10_ n11_ n12_ n13_ n14_ n15_ n16_ n17_ n18_ n19_; (try clear hb); (try clear hb2); (try clear hk); (try clear hi); (try clear ho0)) | ((with_reducible refine gate_dst (N := 19) rfl ?_); (try (refine gate_guard (by rfl) ?_; dsimp only)); refine box_event ?hg (N := 19) ?hd (cs := #[.bool false, .slice none 0 0]) (t := 27) ?hr ?_; (case hd => rfl); (case hg => rfl); (case hr => first | (go_simp; done) | (go_simp; rfl)); intro gb870 hg w215 hbox hb; have n0_ := Aside0.mk (Kd.R_below (zR HO_822001.out) hb); have n1_ := Aside0.mk (Kd.R_below (zR HO_823001.out) hb); have n2_ := Aside0.mk (Kd.R_below (zR HO_832001.out) hb); have n3_ := Aside0.mk (Kd.R_below (zR HO_833001.out) hb); have n4_ := Aside0.mk (Kd.V_below (Kd.V_elderB (zV HO_839001.out) gb870 (Nat.le_of_eq hg.symm)) hb); have n5_ := Aside0.mk (Kd.R_below (zR HO_845001.out) hb); have n6_ := Aside0.mk (Kd.V_below (Kd.V_elderB (zV HO_851001.out) gb870 (Nat.le_of_eq hg.symm)) hb); have n7_ := Aside0.mk (Kd.V_below (Kd.V_elderB (zV HO_857001.out) gb870 (Nat.le_of_eq hg.symm)) hb); have n8_ := Aside0.mk (Kd.V_below (Kd.V_elderB (zV HO862.out) gb870 (Nat.le_of_eq hg.symm)) hb); have n9_ := Aside0.mk (Kd.V_below (Kd.V_elderB (zV HO868.out) gb870 (Nat.le_of_eq hg.symm)) hb); have n10_ := Aside0.mk (blk_below (g := gb821) (o := .cells #[.bool t813, .slice Ao18 t814.length co18] 27 (0, 0)) (zk BK821.out) hb); have n11_ := Aside0.mk (blk_below (g := gb822) (o := .cells #[.bool t817, .slice Ao20 t818.length co20] 27 (0, 0)) (zk BK822.out) hb); have n12_ := Aside0.mk (blk_below (g := gb831) (o := .cells #[.bool t823, .slice Ao28 t824.length co28] 27 (0, 0)) (zk BK831.out) hb); have n13_ := Aside0.mk (blk_below (g := gb832) (o := .cells #[.bool t827, .slice Ao33 t828.length co33] 27 (0, 0)) (zk BK832.out) hb); have n14_ := Aside0.mk (blk_below (g := gb838) (o := .cells #[.bool t833, .slice Ao44 t834.length co44] 27 (0, 0)) (zk BK838.out) hb); have n15_ := Aside0.mk (blk_below (g := gb844) (o := .cells #[.bool t839, .slice Ao55 t840.length co55] 27 (0, 0)) (zk BK844.out) hb); have n16_ := Aside0.mk (blk_below (g := gb850) (o := .cells #[.bool t845, .slice Ao68 t846.length co68] 27 (0, 0)) (zk BK850.out) hb); have n17_ := Aside0.mk (blk_below (g := gb856) (o := .cells #[.bool t851, .slice Ao82 t852.length co82] 27 (0, 0)) (zk BK856.out) hb); have n18_ := Aside0.mk (blk_below (g := gb864) (o := .cells #[.bool t859, .slice Ao201 t860.length co201] 27 (0, 0)) (zk BK864.out) hb); have n19_ := Aside0.mk (below_step zb hb); have n20_ := Aside0.mk (hbox); have n21_ := Aside0.mk ((by rw [hg]; exact (below_size zb) : w.heap.size ≤ gb870)); have n22_ := Aside0.mk ((by rw [hg]; exact (below_size zb) : w.heap.size ≤ gb870)); have n23_ := Aside0.mk ((by rw [hg]; exact Nat.ne_of_lt (blk_lt (g := gb821) (o := .cells #[.bool t813, .slice Ao18 t814.length co18] 27 (0, 0)) (zk BK821.out)) : gb821 ≠ gb870)); have n24_ := Aside0.mk ((by rw [hg]; exact Nat.ne_of_gt (blk_lt (g := gb821) (o := .cells #[.bool t813, .slice Ao18 t814.length co18] 27 (0, 0)) (zk BK821.out)) : gb870 ≠ gb821)); have n25_ := Aside0.mk ((by rw [hg]; exact Nat.ne_of_lt (blk_lt (g := gb822) (o := .cells #[.bool t817, .slice Ao20 t818.length co20] 27 (0, 0)) (zk BK822.out)) : gb822 ≠ gb870)); have n26_ := Aside0.mk ((by rw [hg]; exact Nat.ne_of_gt (blk_lt (g := gb822) (o := .cells #[.bool t817, .slice Ao20 t818.length co20] 27 (0, 0)) (zk BK822.out)) : gb870 ≠ gb822)); have n27_ := Aside0.mk ((by rw [hg]; exact Nat.ne_of_lt (blk_lt (g := gb831) (o := .cells #[.bool t823, .slice Ao28 t824.length co28] 27 (0, 0)) (zk BK831.out)) : gb831 ≠ gb870)); have n28_ := Aside0.mk ((by rw [hg]; exact Nat.ne_of_gt (blk_lt (g := gb831) (o := .cells #[.bool t823, .slice Ao28 t824.length co28] 27 (0, 0)) (zk BK831.out)) : gb870 ≠ gb831)); have n29_ := Aside0.mk ((by rw [hg]; exact Nat.ne_of_lt (blk_lt (g := gb832) (o := .cells #[.bool t827, .slice Ao33 t828.length co33] 27 (0, 0)) (zk BK832.out)) : gb832 ≠ gb870)); have n30_ := Aside0.mk ((by rw [hg]; exact Nat.ne_of_gt (blk_lt (g := gb832) (o := .cells #[.bool t827, .slice Ao33 t828.length co33] 27 (0, 0)) (zk BK832.out)) : gb870 ≠ gb832)); have n31_ := Aside0.mk ((by rw [hg]; exact Nat.ne_of_lt (blk_lt (g := gb838) (o := .cells #[.bool t833, .slice Ao44 t834.length co44] 27 (0, 0)) (zk BK838.out)) : gb838 ≠ gb870)); have n32_ := Aside0.mk ((by rw [hg]; exact Nat.ne_of_gt (blk_lt (g := gb838) (o := .cells #[.bool t833, .slice Ao44 t834.length co44] 27 (0, 0)) (zk BK838.out)) : gb870 ≠ gb838)); have n33_ := Aside0.mk ((by rw [hg]; exact Nat.ne_of_lt (blk_lt (g := gb844) (o := .cells #[.bool t839, .slice Ao55 t840.length co55] 27 (0, 0)) (zk BK844.out)) : gb844 ≠ gb870)); have n34_ := Aside0.mk ((by rw [hg]; exact Nat.ne_of_gt (blk_lt (g := gb844) (o := .cells #[.bool t839, .slice Ao55 t840.length co55] 27 (0, 0)) (zk BK844.out)) : gb870 ≠ gb844)); have n35_ := Aside0.mk ((by rw [hg]; exact Nat.ne_of_lt (blk_lt (g := gb850) (o := .cells #[.bool t845, .slice Ao68 t846.length co68] 27 (0, 0)) (zk BK850.out)) : gb850 ≠ gb870)); have n36_ := Aside0.mk ((by rw [hg]; exact Nat.ne_of_gt (blk_lt (g := gb850) (o := .cells #[.bool t845, .slice Ao68 t846.length co68] 27 (0, 0)) (zk BK850.out)) : gb870 ≠ gb850)); have n37_ := Aside0.mk ((by rw [hg]; exact Nat.ne_of_lt (blk_lt (g := gb856) (o := .cells #[.bool t851, .slice Ao82 t852.length co82] 27 (0, 0)) (zk BK856.out)) : gb856 ≠ gb870)); have n38_ := Aside0.mk ((by rw [hg]; exact Nat.ne_of_gt (blk_lt (g := gb856) (o := .cells #[.bool t851, .slice Ao82 t852.length co82] 27 (0, 0)) (zk BK856.out)) : gb870 ≠ gb856)); have n39_ := Aside0.mk ((by rw [hg]; exact Nat.ne_of_lt (blk_lt (g := gb864) (o := .cells #[.bool t859, .slice Ao201 t860.length co201] 27 (0, 0)) (zk BK864.out)) : gb864 ≠ gb870)); have n40_ := Aside0.mk ((by rw [hg]; exact Nat.ne_of_gt (blk_lt (g := gb864) (o := .cells #[.bool t859, .slice Ao201 t860.length co201] 27 (0, 0)) (zk BK864.out)) : gb870 ≠ gb864)); clear HO_822001; clear HO_823001; clear HO_832001; clear HO_833001; clear HO_839001; clear HO_845001; clear HO_851001; clear HO_857001; clear HO862; clear HO868; clear BK821; clear BK822; clear BK831; clear BK832; clear BK838; clear BK844; clear BK850; clear BK856; clear BK864; clear HB; have HO_822001 := n0_; have HO_823001 := n1_; have HO_832001 := n2_; have HO_833001 := n3_; have HO_839001 := n4_; have HO_845001 := n5_; have HO_851001 := n6_; have HO_857001 := n7_; have HO862 := n8_; have HO868 := n9_; have BK821 := n10_; have BK822 := n11_; have BK831 := n12_; have BK832 := n13_; have BK838 := n14_; have BK844 := n15_; have BK850 := n16_; have BK856 := n17_; have BK864 := n18_; have HB := n19_; have BK870 := n20_; have GW870 := n21_; have GE870 := n22_; have NB821_870 := n23_; have NB870_821 := n24_; have NB822_870 := n25_; have NB870_822 := n26_; have NB831_870 := n27_; have NB870_831 := n28_; have NB832_870 := n29_; have NB870_832 := n30_; have NB838_870 := n31_; have NB870_838 := n32_; have NB844_870 := n33_; have NB870_844 := n34_; have NB850_870 := n35_; have NB870_850 := n36_; have NB856_870 := n37_; have NB870_856 := n38_; have NB864_870 := n39_; have NB870_864 := n40_; clear n0_ n1_ n2_ n3_ n4_ n5_ n6_ n7_ n8_ n9_ n10_ n11_ n12_ n13_ n14_ n15_ n16_ n17_ n18_ n19_ n20_ n21_ n22_ n23_ n24_ n25_ n26_ n27_ n28_ n29_ n30_ n31_ n32_ n33_ n34_ n35_ n36_ n37_ n38_ n39_ n40_; clear hb hbox hg; have hnb216 := NB870_821.out; have hnc216 := NB821_870.out; have hnb217 := NB870_822.out; have hnc217 := NB822_870.out; have hnb218 := NB870_831.out; have hnc218 := NB831_870.out; have hnb219 := NB870_832.out; have hnc219 := NB832_870.out; have hnb220 := NB870_838.out; have hnc220 := NB838_870.out; have hnb221 := NB870_844.out; have hnc221 := NB844_870.out; have hnb222 := NB870_850.out; have hnc222 := NB850_870.out; have hnb223 := NB870_856.out; have hnc223 := NB856_870.out; have hnb224 := NB870_864.out; have hnc224 := NB864_870.out; have hcz225_0 : w215.cell? ⟨gb870, 0, none⟩ = some (.bool false) := (blk_cell BK870.out 0).trans rfl; have hcz225_1 : w215.cell? ⟨gb870, 1, none⟩ = some (.slice none 0 0) := (blk_cell BK870.out 1).trans rfl; have hfz225_0 := blk_frozen BK870.out 0; have hfz225_1 := blk_frozen BK870.out 1; obtain ⟨Ao226, co226, eo226⟩ := Kd.V_slice HO868.out; subst eo226; have hcz227_0 : w215.cell? ⟨gb864, 0, none⟩ = some (.bool t859) := (blk_cell BK864.out 0).trans rfl; have hcz227_1 : w215.cell? ⟨gb864, 1, none⟩ = some (.slice Ao201 t860.length co201) := (blk_cell BK864.out 1).trans rfl; have hfz227_0 := blk_frozen BK864.out 0; have hfz227_1 := blk_frozen BK864.out 1) | (go_at_call 31; (with_reducible refine (laws_jtBig.calls kj11 t859 _ _ t860 t865 _ _ t866 t871 _ ?side1 ?side2 ?side3 ?side4 A174.out).mono ?_); (case side1 => refine (Kd.V_reads' (e := 3) (base := w.heap.size) (ok := fun k_ => ((some k_ ≠ (.slice Ao33 t828.length co33 : Value).ownBlock ∧ (some k_ ≠ (.slice Ao55 t840.length co55 : Value).ownBlock ∧ (k_ ≠ gb821 ∧ (k_ ≠ gb822 ∧ (k_ ≠ gb831 ∧ (k_ ≠ gb832 ∧ (k_ ≠ gb838 ∧ (k_ ≠ gb844 ∧ (k_ ≠ gb850 ∧ (k_ ≠ gb856 ∧ k_ ≠ gb864)))))))))) ∧ k_ ≠ gb870)) (n := t860.length) (c := co201) ?_).2.2; exact (by (with_reducible repeat (first | apply Kd.V_alloc | apply Kd.V_drewN | apply Kd.V_drew)); exact (Kd.V_mono (Kd.V_far (p := ⟨gb870, 1, none⟩) (Kd.V_far (p := ⟨gb870, 0, none⟩) (Kd.V_mono HO862.out (fun k_ hk => (⟨hk, hk.2⟩ : _ ∧ k_ ≠ gb870))) (fun _ hk => hk.2) (.bool t865)) (fun _ hk => hk.2) (.slice Ao226 t866.length co226)) (fun _ h_ => h_.1)))); (case side2 => exact (Kd.V_reads' HO862.out).2.1); (case side3 => refine (Kd.V_reads' (e := 3) (base := w.heap.size) (ok := fun k_ => ((some k_ ≠ (.slice Ao33 t828.length co33 : Value).ownBlock ∧ (some k_ ≠ (.slice Ao55 t840.length co55 : Value).ownBlock ∧ (k_ ≠ gb821 ∧ (k_ ≠ gb822 ∧ (k_ ≠ gb831 ∧ (k_ ≠ gb832 ∧ (k_ ≠ gb838 ∧ (k_ ≠ gb844 ∧ (k_ ≠ gb850 ∧ (k_ ≠ gb856 ∧ k_ ≠ gb864)))))))))) ∧ k_ ≠ gb870)) (n := t866.length) (c := co226) ?_).2.2; exact (by (with_reducible repeat (first | apply Kd.V_alloc | apply Kd.V_drewN | apply Kd.V_drew)); exact (Kd.V_mono (Kd.V_far (p := ⟨gb870, 1, none⟩) (Kd.V_far (p := ⟨gb870, 0, none⟩) (Kd.V_mono HO868.out (fun k_ hk => (⟨hk, hk.2⟩ : _ ∧ k_ ≠ gb870))) (fun _ hk => hk.2) (.bool t865)) (fun _ hk => hk.2) (.slice Ao226 t866.length co226)) (fun _ h_ => h_.1)))); (case side4 => exact (Kd.V_reads' HO868.out).2.1); rintro e w228 ⟨rfl, hb⟩; have n0_ := Aside0.mk (Kd.R_below (by (with_reducible repeat (first | apply Kd.R_alloc | apply Kd.R_drewN | apply Kd.R_drew)); exact (Kd.R_mono (Kd.R_far (p := ⟨gb870, 1, none⟩) (Kd.R_far (p := ⟨gb870, 0, none⟩) (Kd.R_types HO_822001.out BK870.out (by decide)) (fun _ hk => hk.2) (.bool t865)) (fun _ hk => hk.2) (.slice Ao226 t866.length co226)) (fun _ h_ => h_.1))) hb); have n1_ := Aside0.mk (Kd.R_below (by (with_reducible repeat (first | apply Kd.R_alloc | apply Kd.R_drewN | apply Kd.R_drew)); exact (Kd.R_mono (Kd.R_far (p := ⟨gb870, 1, none⟩) (Kd.R_far (p := ⟨gb870, 0, none⟩) (Kd.R_types HO_823001.out BK870.out (by decide)) (fun _ hk => hk.2) (.bool t865)) (fun _ hk => hk.2) (.slice Ao226 t866.length co226)) (fun _ h_ => h_.1))) hb); have n2_ := Aside0.mk (Kd.R_below (by (with_reducible repeat (first | apply Kd.R_alloc | apply Kd.R_drewN | apply Kd.R_drew)); exact (Kd.R_mono (Kd.R_far (p := ⟨gb870, 1, none⟩) (Kd.R_far (p := ⟨gb870, 0, none⟩) (Kd.R_types HO_832001.out BK870.out (by decide)) (fun _ hk => hk.2) (.bool t865)) (fun _ hk => hk.2) (.slice Ao226 t866.length co226)) (fun _ h_ => h_.1))) hb); have n3_ := Aside0.mk (Kd.R_below (by (with_reducible repeat (first | apply Kd.R_alloc | apply Kd.R_drewN | apply Kd.R_drew)); exact (Kd.R_mono (Kd.R_far (p := ⟨gb870, 1, none⟩) (Kd.R_far (p := ⟨gb870, 0, none⟩) (Kd.R_types HO_833001.out BK870.out (by decide)) (fun _ hk => hk.2) (.bool t865)) (fun _ hk => hk.2) (.slice Ao226 t866.length co226)) (fun _ h_ => h_.1))) hb); have n4_ := Aside0.mk (Kd.V_below (by (with_reducible repeat (first | apply Kd.V_alloc | apply Kd.V_drewN | apply Kd.V_drew)); exact (Kd.V_mono (Kd.V_far (p := ⟨gb870, 1, none⟩) (Kd.V_far (p := ⟨gb870, 0, none⟩) (Kd.V_mono HO_839001.out (fun k_ hk => (⟨hk, hk.2⟩ : _ ∧ k_ ≠ gb870))) (fun _ hk => hk.2) (.bool t865)) (fun _ hk => hk.2) (.slice Ao226 t866.length co226)) (fun _ h_ => h_.1))) hb); have n5_ := Aside0.mk (Kd.R_below (by (with_reducible repeat (first | apply Kd.R_alloc | apply Kd.R_drewN | apply Kd.R_drew)); exact (Kd.R_mono (Kd.R_far (p := ⟨gb870, 1, none⟩) (Kd.R_far (p := ⟨gb870, 0, none⟩) (Kd.R_types HO_845001.out BK870.out (by decide)) (fun _ hk => hk.2) (.bool t865)) (fun _ hk => hk.2) (.slice Ao226 t866.length co226)) (fun _ h_ => h_.1))) hb); have n6_ := Aside0.mk (Kd.V_below (by (with_reducible repeat (first | apply Kd.V_alloc | apply Kd.V_drewN | apply Kd.V_drew)); exact (Kd.V_mono (Kd.V_far (p := ⟨gb870, 1, none⟩) (Kd.V_far (p := ⟨gb870, 0, none⟩) (Kd.V_mono HO_851001.out (fun k_ hk => (⟨hk, hk.2⟩ : _ ∧ k_ ≠ gb870))) (fun _ hk => hk.2) (.bool t865)) (fun _ hk => hk.2) (.slice Ao226 t866.length co226)) (fun _ h_ => h_.1))) hb); have n7_ := Aside0.mk (Kd.V_below (by (with_reducible repeat (first | apply Kd.V_alloc | apply Kd.V_drewN | apply Kd.V_drew)); exact (Kd.V_mono (Kd.V_far (p := ⟨gb870, 1, none⟩) (Kd.V_far (p := ⟨gb870, 0, none⟩) (Kd.V_mono HO_857001.out (fun k_ hk => (⟨hk, hk.2⟩ : _ ∧ k_ ≠ gb870))) (fun _ hk => hk.2) (.bool t865)) (fun _ hk => hk.2) (.slice Ao226 t866.length co226)) (fun _ h_ => h_.1))) hb); have n8_ := Aside0.mk (Kd.V_below (by (with_reducible repeat (first | apply Kd.V_alloc | apply Kd.V_drewN | apply Kd.V_drew)); exact (Kd.V_mono (Kd.V_far (p := ⟨gb870, 1, none⟩) (Kd.V_far (p := ⟨gb870, 0, none⟩) (Kd.V_mono HO862.out (fun k_ hk => (⟨hk, hk.2⟩ : _ ∧ k_ ≠ gb870))) (fun _ hk => hk.2) (.bool t865)) (fun _ hk => hk.2) (.slice Ao226 t866.length co226)) (fun _ h_ => h_.1))) hb); have n9_ := Aside0.mk (Kd.V_below (by (with_reducible repeat (first | apply Kd.V_alloc | apply Kd.V_drewN | apply Kd.V_drew)); exact (Kd.V_mono (Kd.V_far (p := ⟨gb870, 1, none⟩) (Kd.V_far (p := ⟨gb870, 0, none⟩) (Kd.V_mono HO868.out (fun k_ hk => (⟨hk, hk.2⟩ : _ ∧ k_ ≠ gb870))) (fun _ hk => hk.2) (.bool t865)) (fun _ hk => hk.2) (.slice Ao226 t866.length co226)) (fun _ h_ => h_.1))) hb); have n10_ := Aside0.mk (blk_below (g := gb821) (o := .cells #[.bool t813, .slice Ao18 t814.length co18] 27 (0, 0)) (zk BK821.out) hb); have n11_ := Aside0.mk (blk_below (g := gb822) (o := .cells #[.bool t817, .slice Ao20 t818.length co20] 27 (0, 0)) (zk BK822.out) hb); have n12_ := Aside0.mk (blk_below (g := gb831) (o := .cells #[.bool t823, .slice Ao28 t824.length co28] 27 (0, 0)) (zk BK831.out) hb); have n13_ := Aside0.mk (blk_below (g := gb832) (o := .cells #[.bool t827, .slice Ao33 t828.length co33] 27 (0, 0)) (zk BK832.out) hb); have n14_ := Aside0.mk (blk_below (g := gb838) (o := .cells #[.bool t833, .slice Ao44 t834.length co44] 27 (0, 0)) (zk BK838.out) hb); have n15_ := Aside0.mk (blk_below (g := gb844) (o := .cells #[.bool t839, .slice Ao55 t840.length co55] 27 (0, 0)) (zk BK844.out) hb); have n16_ := Aside0.mk (blk_below (g := gb850) (o := .cells #[.bool t845, .slice Ao68 t846.length co68] 27 (0, 0)) (zk BK850.out) hb); have n17_ := Aside0.mk (blk_below (g := gb856) (o := .cells #[.bool t851, .slice Ao82 t852.length co82] 27 (0, 0)) (zk BK856.out) hb); have n18_ := Aside0.mk (blk_below (g := gb864) (o := .cells #[.bool t859, .slice Ao201 t860.length co201] 27 (0, 0)) (zk BK864.out) hb); have n19_ := Aside0.mk (blk_below (g := gb870) (o := .cells #[.bool t865, .slice Ao226 t866.length co226] 27 (0, 0)) (by (with_reducible repeat (first | refine blk_drewN ?_ _ | refine blk_drew ?_ | refine blk_alloc ?_ _)); refine blk_put (cs := #[.bool t865, .slice none 0 0]) ?_ 1 _ rfl; (with_reducible repeat (first | refine blk_drewN ?_ _ | refine blk_drew ?_ | refine blk_alloc ?_ _)); refine blk_put (cs := #[.bool false, .slice none 0 0]) ?_ 0 _ rfl; (with_reducible repeat (first | refine blk_drewN ?_ _ | refine blk_drew ?_ | refine blk_alloc ?_ _)); exact BK870.out) hb); have n20_ := Aside0.mk (below_step zb hb); clear HO_822001; clear HO_823001; clear HO_832001; clear HO_833001; clear HO_839001; clear HO_845001; clear HO_851001; clear HO_857001; clear HO862; clear HO868; clear BK821; clear BK822; clear BK831; clear BK832; clear BK838; clear BK844; clear BK850; clear BK856; clear BK864; clear BK870; clear HB; have HO_822001 := n0_; have HO_823001 := n1_; have HO_832001 := n2_; have HO_833001 := n3_; have HO_839001 := n4_; have HO_845001 := n5_; have HO_851001 := n6_; have HO_857001 := n7_; have HO862 := n8_; have HO868 := n9_; have BK821 := n10_; have BK822 := n11_; have BK831 := n12_; have BK832 := n13_; have BK838 := n14_; have BK844 := n15_; have BK850 := n16_; have BK856 := n17_; have BK864 := n18_; have BK870 := n19_; have HB := n20_; clear n0_ n1_ n2_ n3_ n4_ n5_ n6_ n7_ n8_ n9_ n10_ n11_ n12_ n13_ n14_ n15_ n16_ n17_ n18_ n19_ n20_; (try clear hb); (try clear hb2); (try clear hk); (try clear hi)))
                go_ret
                exact ⟨by first | rfl | (simp [errW_none, errW_some] <;> rfl) | (simp [*, errW_none, errW_some] <;> rfl), zb⟩
              · rw [if_neg c173] at H
                exact absurd H (by simp)
def laws_FnBigParts.Pure : Prop := ∀ (l0 : List Int) (l1 : List Int), l0.length ≤ maxLen → l0.length * 1 ≤ 140737488351232 → (∀ x ∈ l0, (Lit.int .u8 x).wf = true) → l1.length ≤ maxLen → l1.length * 1 ≤ 140737488351232 → (∀ x ∈ l1, (Lit.int .u8 x).wf = true) → ∃ k, laws_FnBigParts.f k l0 l1 = some true
theorem laws_FnBigParts.walk (P : laws_FnBigParts.Pure) (a0 : Option Addr) (len0 cap0 : Nat) (z0 : List Int) (a1 : Option Addr) (len1 cap1 : Nat) (z1 : List Int) (w : World) (w0 : (a0 = none ∧ len0 = 0 ∧ cap0 = 0 ∧ z0 = []) ∨ ∃ x, a0 = some x ∧ len0 ≤ cap0 ∧ cap0 ≤ maxLen ∧ z0.length = cap0 ∧ (∀ i, i < z0.length → w.cell? (x.add i) = some (.int .u8 (z0.getD i 0))) ∧ ∀ n ∈ z0, (Lit.int .u8 n).wf = true) (y0 : len0 * 1 ≤ 140737488351232) (w1 : (a1 = none ∧ len1 = 0 ∧ cap1 = 0 ∧ z1 = []) ∨ ∃ x, a1 = some x ∧ len1 ≤ cap1 ∧ cap1 ≤ maxLen ∧ z1.length = cap1 ∧ (∀ i, i < z1.length → w.cell? (x.add i) = some (.int .u8 (z1.getD i 0))) ∧ ∀ n ∈ z1, (Lit.int .u8 n).wf = true) (y1 : len1 * 1 ≤ 140737488351232) :
    Calls Try.prog 10 #[.slice a0 len0 cap0, .slice a1 len1 cap1] w fun e w' => e = .returned (.bool true) ∧ Below w.heap.size w w' := by
  obtain ⟨l0, rfl, hr0, hm0, hw0, hc0⟩ := ReadsInt.ofRowC w0
  obtain ⟨l1, rfl, hr1, hm1, hw1, hc1⟩ := ReadsInt.ofRowC w1
  obtain ⟨k, h⟩ := P l0 l1 hm0 y0 hw0 hm1 y1 hw1
  refine (laws_FnBigParts.calls k _ _ l0 _ _ l1 true w (Kd.C_of_reads (d := (0 : Int)) (h1 := fun _ => rfl) hr0) hc0 (Kd.C_of_reads (d := (0 : Int)) (h1 := fun _ => rfl) hr1) hc1 h).mono ?_
  rintro e w' ⟨rfl, hd⟩
  exact ⟨rfl, hd⟩
end Go.Proofs.Ytdemeoncjcbojaa.Pr
end
section
namespace Go.Proofs.Ytdemeoncjcbojaa.Jt
def pw (n : Nat) : Int := 10000 ^ n
theorem pw_zero : pw 0 = 1 := rfl
theorem pw_succ (n : Nat) : pw (n + 1) = 10000 * pw n := by unfold pw; rw [Int.pow_succ]; omega
theorem pw_pos (n : Nat) : 1 ≤ pw n := by
  induction n with
  | zero => decide
  | succ n ih => rw [pw_succ]; omega
theorem pw_add (m n : Nat) : pw (m + n) = pw m * pw n := by unfold pw; rw [Int.pow_add]
theorem pw_mono {m n : Nat} (h : m ≤ n) : pw m ≤ pw n := by
  obtain ⟨d, rfl⟩ := Nat.exists_eq_add_of_le h
  induction d with
  | zero => exact Int.le_refl _
  | succ d ih =>
    have h1 := ih (by omega)
    have h2 := pw_pos (m + d)
    rw [show m + (d + 1) = (m + d) + 1 from rfl, pw_succ]
    omega
def val : List Int → Int
  | [] => 0
  | x :: xs => x + 10000 * val xs
def Dig (l : List Int) : Prop := ∀ x ∈ l, 0 ≤ x ∧ x ≤ 9999
def Nz (l : List Int) : Prop := l.length = 0 ∨ l.getD (l.length - 1) 0 ≠ 0
theorem getD_lt {l : List Int} {i : Nat} (h : i < l.length) : l.getD i 0 = l[i] := by rw [List.getD_eq_getElem?_getD, List.getElem?_eq_getElem h]; rfl
theorem getD_ge {l : List Int} {i : Nat} (h : l.length ≤ i) : l.getD i 0 = 0 := by rw [List.getD_eq_getElem?_getD, List.getElem?_eq_none h]; rfl
theorem val_nil : val [] = 0 := rfl
theorem val_append (a b : List Int) : val (a ++ b) = val a + pw a.length * val b := by
  induction a with
  | nil => simp [val, pw_zero]
  | cons x xs ih => simp only [List.cons_append, val, ih, List.length_cons, pw_succ]; rw [Int.mul_add, Int.mul_assoc]; omega
theorem Dig.nil : Dig [] := fun x h => by cases h
theorem Dig.cons {x : Int} {xs : List Int} (h0 : 0 ≤ x) (h1 : x ≤ 9999) (h : Dig xs) : Dig (x :: xs) := by
  intro y hy
  rcases List.mem_cons.1 hy with rfl | hy
  · exact ⟨h0, h1⟩
  · exact h y hy
theorem Dig.head {x : Int} {xs : List Int} (h : Dig (x :: xs)) : 0 ≤ x ∧ x ≤ 9999 := h x (by simp)
theorem Dig.tail {x : Int} {xs : List Int} (h : Dig (x :: xs)) : Dig xs := fun y hy => h y (by simp [hy])
theorem Dig.take {l : List Int} (h : Dig l) (n : Nat) : Dig (l.take n) := fun x hx => h x (List.mem_of_mem_take hx)
theorem Dig.getD {l : List Int} (h : Dig l) (i : Nat) : 0 ≤ l.getD i 0 ∧ l.getD i 0 ≤ 9999 := by
  by_cases hi : i < l.length
  · rw [getD_lt hi]; exact h _ (List.getElem_mem hi)
  · rw [getD_ge (by omega)]; omega
theorem dig_of_getD {l : List Int} (h : ∀ i, i < l.length → 0 ≤ l.getD i 0 ∧ l.getD i 0 ≤ 9999) : Dig l := by
  intro x hx
  obtain ⟨i, hi, rfl⟩ := List.getElem_of_mem hx
  have := h i hi
  rwa [getD_lt hi] at this
theorem val_nonneg {l : List Int} (h : Dig l) : 0 ≤ val l := by
  induction l with
  | nil => exact Int.le_refl _
  | cons x xs ih =>
    have h1 := ih h.tail
    have h2 := h.head
    simp only [val]; omega
theorem val_lt {l : List Int} (h : Dig l) : val l < pw l.length := by
  induction l with
  | nil => decide
  | cons x xs ih =>
    have h1 := ih h.tail
    have h2 := h.head
    simp only [val, List.length_cons, pw_succ]; omega
theorem val_set (l : List Int) : ∀ (i : Nat) (v : Int), i < l.length → val (l.set i v) = val l + pw i * (v - l.getD i 0) := by
  induction l with
  | nil => intro i v h; simp at h
  | cons x xs ih =>
    intro i v h
    cases i with
    | zero => simp only [List.set_cons_zero, val, List.getD_cons_zero, pw_zero]; omega
    | succ i =>
      simp only [List.set_cons_succ, val, List.getD_cons_succ, pw_succ]
      rw [ih i v (by simpa using h), Int.mul_add, Int.mul_assoc]
      omega
theorem getD_set (l : List Int) (i j : Nat) (v : Int) (h : i < l.length) : (l.set i v).getD j 0 = if j = i then v else l.getD j 0 := by
  by_cases hj : j = i
  · subst hj
    rw [if_pos rfl, List.getD_eq_getElem?_getD, List.getElem?_set_self h]; rfl
  · rw [if_neg hj, List.getD_eq_getElem?_getD, List.getElem?_set_ne (Ne.symm hj), List.getD_eq_getElem?_getD]
theorem val_split (l : List Int) {n : Nat} (h : n ≤ l.length) : val l = val (l.take n) + pw n * val (l.drop n) := by
  have := val_append (l.take n) (l.drop n)
  rw [List.take_append_drop, List.length_take, Nat.min_eq_left h] at this
  exact this
theorem drop_cons {l : List Int} {n : Nat} (h : n < l.length) : l.drop n = l.getD n 0 :: l.drop (n + 1) := by
  rw [List.drop_eq_getElem_cons h, getD_lt h]
theorem val_zeros {l : List Int} (h : ∀ i, i < l.length → l.getD i 0 = 0) : val l = 0 := by
  induction l with
  | nil => rfl
  | cons x xs ih =>
    have h0 := h 0 (by simp)
    have h1 := ih (fun i hi => by have := h (i + 1) (by simpa using hi); simpa using this)
    simp at h0
    simp only [val, h0, h1]; decide
theorem val_replicate (n : Nat) : val (List.replicate n 0) = 0 := val_zeros fun i hi => by
  rw [List.length_replicate] at hi
  rw [getD_lt (by simpa using hi), List.getElem_replicate]
theorem val_ge {l : List Int} (h : Dig l) (hz : Nz l) (hne : 0 < l.length) : pw (l.length - 1) ≤ val l := by
  have hs := val_split l (n := l.length - 1) (by omega)
  rw [drop_cons (by omega), show l.length - 1 + 1 = l.length from by omega, List.drop_length] at hs
  have h1 := val_nonneg (h.take (l.length - 1))
  have h2 := h.getD (l.length - 1)
  have h3 : l.getD (l.length - 1) 0 ≠ 0 := hz.resolve_left (by omega)
  have hp := pw_pos (l.length - 1)
  simp only [val] at hs
  have h4 : pw (l.length - 1) * 1 ≤ pw (l.length - 1) * (l.getD (l.length - 1) 0 + 10000 * 0) := Int.mul_le_mul_of_nonneg_left (by omega) (by omega)
  omega
theorem uniq {a : List Int} : ∀ {b : List Int}, Dig a → Dig b → Nz a → Nz b → val a = val b → a = b := by
  induction a with
  | nil =>
    intro b _ hb _ zb e
    cases b with
    | nil => rfl
    | cons y ys =>
      have := val_ge hb zb (by simp)
      have := pw_pos ((y :: ys).length - 1)
      rw [val_nil] at e
      omega
  | cons x xs ih =>
    intro b ha hb za zb e
    cases b with
    | nil =>
      have := val_ge ha za (by simp)
      have := pw_pos ((x :: xs).length - 1)
      rw [val_nil] at e
      omega
    | cons y ys =>
      have hx := ha.head
      have hy := hb.head
      simp only [val] at e
      have e1 : x = y := by omega
      have e2 : val xs = val ys := by omega
      have zt : ∀ {z : Int} {zs : List Int}, Nz (z :: zs) → Nz zs := by
        intro z zs h
        cases zs with
        | nil => left; rfl
        | cons u us =>
          right
          have h' := h.resolve_left (by simp)
          simpa using h'
      rw [e1, ih ha.tail hb.tail (zt za) (zt zb) e2]
def repN (n : Nat) : List Int := if h : n = 0 then [] else ((n % 10000 : Nat) : Int) :: repN (n / 10000)
termination_by n
decreasing_by omega
def rep (v : Int) : List Int := repN v.toNat
theorem repN_zero : repN 0 = [] := by rw [repN]; simp
theorem repN_pos {n : Nat} (h : n ≠ 0) : repN n = ((n % 10000 : Nat) : Int) :: repN (n / 10000) := by rw [repN]; simp [h]
theorem repN_ok (n : Nat) : Dig (repN n) ∧ val (repN n) = n ∧ Nz (repN n) := by
  induction n using Nat.strongRecOn with
  | ind n ih =>
    by_cases h : n = 0
    · subst h; rw [repN_zero]; exact ⟨Dig.nil, rfl, .inl rfl⟩
    · obtain ⟨h1, h2, h3⟩ := ih (n / 10000) (by omega)
      rw [repN_pos h]
      refine ⟨Dig.cons (by omega) (by omega) h1, by simp only [val, h2]; omega, .inr ?_⟩
      by_cases hq : n / 10000 = 0
      · rw [hq, repN_zero]; simp; omega
      · have hne : (repN (n / 10000)).length ≠ 0 := by rw [repN_pos hq]; simp
        have := h3.resolve_left hne
        rw [List.length_cons, show (repN (n / 10000)).length + 1 - 1 = ((repN (n / 10000)).length - 1) + 1 from by omega, List.getD_cons_succ]
        exact this
theorem rep_dig (v : Int) : Dig (rep v) := (repN_ok _).1
theorem rep_nz (v : Int) : Nz (rep v) := (repN_ok _).2.2
theorem rep_val {v : Int} (h : 0 ≤ v) : val (rep v) = v := by unfold rep; rw [(repN_ok _).2.1]; omega
theorem rep_of {l : List Int} (hd : Dig l) (hz : Nz l) : rep (val l) = l := uniq (rep_dig _) hd (rep_nz _) hz (rep_val (val_nonneg hd))
theorem is_rep {l : List Int} {v : Int} (hd : Dig l) (hz : Nz l) (hv : val l = v) : l = rep v := by rw [← hv, rep_of hd hz]
theorem rep_zero : rep 0 = [] := repN_zero
theorem rep_nil {v : Int} (h : 0 ≤ v) : rep v = [] ↔ v = 0 := by
  constructor
  · intro e
    have := rep_val h
    rw [e] at this
    exact this.symm
  · rintro rfl; exact rep_zero
theorem rep_len {v : Int} (h : 0 ≤ v) (n : Nat) : (rep v).length ≤ n ↔ v < pw n := by
  have hv := rep_val h
  have hl := val_lt (rep_dig v)
  constructor
  · intro hle
    have := pw_mono hle
    omega
  · intro hlt
    apply Nat.le_of_not_lt
    intro hgt
    have hg := val_ge (rep_dig v) (rep_nz v) (by omega)
    have := pw_mono (show n ≤ (rep v).length - 1 by omega)
    omega
def TrimOf (l r : List Int) : Prop := ∃ n, n ≤ l.length ∧ r = l.take n ∧ (∀ j, n ≤ j → j < l.length → l.getD j 0 = 0) ∧ (0 < n → l.getD (n - 1) 0 ≠ 0)
theorem TrimOf.dig {l r : List Int} (h : TrimOf l r) (hd : Dig l) : Dig r := by obtain ⟨n, _, rfl, _, _⟩ := h; exact hd.take n
theorem TrimOf.val {l r : List Int} (h : TrimOf l r) : Jt.val r = Jt.val l := by
  obtain ⟨n, hn, rfl, hz, _⟩ := h
  have hs := val_split l hn
  have : Jt.val (l.drop n) = 0 := val_zeros fun i hi => by
    rw [List.length_drop] at hi
    have := hz (n + i) (by omega) (by omega)
    rw [List.getD_eq_getElem?_getD] at this ⊢
    rw [List.getElem?_drop]; exact this
  rw [this] at hs
  omega
theorem getD_take (l : List Int) {i n : Nat} (h : i < n) : (l.take n).getD i 0 = l.getD i 0 := by
  rw [List.getD_eq_getElem?_getD, List.getD_eq_getElem?_getD, List.getElem?_take_of_lt h]
theorem TrimOf.nz {l r : List Int} (h : TrimOf l r) : Nz r := by
  obtain ⟨n, hn, rfl, _, hlast⟩ := h
  by_cases h0 : n = 0
  · left; simp [h0]
  · right
    rw [List.length_take, Nat.min_eq_left hn, getD_take l (by omega)]
    exact hlast (by omega)
theorem TrimOf.rep {l r : List Int} (h : TrimOf l r) (hd : Dig l) {v : Int} (hv : Jt.val l = v) : r = Jt.rep v := is_rep (h.dig hd) h.nz (h.val.trans hv)
theorem TrimOf.len {l r : List Int} (h : TrimOf l r) : r.length ≤ l.length := by obtain ⟨n, hn, rfl, _, _⟩ := h; rw [List.length_take]; omega
theorem val_lt_of_len {a b : List Int} (ha : Dig a) (hb : Dig b) (zb : Nz b) (h : a.length < b.length) : val a < val b := by
  have h1 := val_lt ha
  have h2 := val_ge hb zb (by omega)
  have := pw_mono (show a.length ≤ b.length - 1 by omega)
  omega
theorem val_lt_at {a b : List Int} (ha : Dig a) (hb : Dig b) {i : Nat} (h1 : i < a.length) (h2 : i < b.length) (hd : a.drop (i + 1) = b.drop (i + 1)) (hlt : a.getD i 0 < b.getD i 0) : val a < val b := by
  have ea := val_split a (n := i) (by omega)
  have eb := val_split b (n := i) (by omega)
  rw [drop_cons h1] at ea
  rw [drop_cons h2, ← hd] at eb
  simp only [val] at ea eb
  have la := val_lt (ha.take i)
  have nb := val_nonneg (hb.take i)
  rw [List.length_take, Nat.min_eq_left (by omega)] at la
  have hp := pw_pos i
  have hm : pw i * (a.getD i 0 + 1) ≤ pw i * b.getD i 0 := Int.mul_le_mul_of_nonneg_left (by omega) (by omega)
  rw [Int.mul_add] at ea eb hm
  omega
def bigv (neg : Bool) (l : List Int) : Int := if neg = true then -val l else val l
def BOk (neg : Bool) (l : List Int) : Prop := l.length ≤ 16 ∧ Dig l ∧ Nz l ∧ (neg = true → l.length ≠ 0)
def mkN (x : Int) : Bool := decide (x < 0)
def mkL (x : Int) : List Int := rep (if x < 0 then -x else x)
theorem mk_ok {x : Int} (h1 : -pw 16 < x) (h2 : x < pw 16) : BOk (mkN x) (mkL x) := by
  have h0 : 0 ≤ (if x < 0 then -x else x) := by split <;> omega
  refine ⟨(rep_len h0 16).2 (by split <;> omega), rep_dig _, rep_nz _, ?_⟩
  intro hn hl
  have := of_decide_eq_true hn
  have e := rep_val h0
  unfold mkL at hl
  rw [List.length_eq_zero_iff.1 hl, val_nil] at e
  split at e <;> omega
theorem mk_v (x : Int) : bigv (mkN x) (mkL x) = x := by
  have h0 : 0 ≤ (if x < 0 then -x else x) := by split <;> omega
  have e := rep_val h0
  unfold bigv mkN mkL
  rw [e]
  by_cases h : x < 0
  · rw [if_pos h, decide_eq_true h]; simp
  · rw [if_neg h, decide_eq_false h]; simp
end Go.Proofs.Ytdemeoncjcbojaa.Jt
end
section
namespace Go.Proofs.Ytdemeoncjcbojaa.Val
open Go.RowKit Go.Proofs.Ytdemeoncjcbojaa.Pr Go.Proofs.Ytdemeoncjcbojaa.Ext Go.Proofs.Ytdemeoncjcbojaa.Jt Go.Proofs.YtdemeoncjcbojaaW.PrintWords Go.Proofs.YtdemeoncjcbojaaW.PrintLast Go.Proofs.YtdemeoncjcbojaaW.PrintMore
set_option linter.unusedVariables false
set_option linter.unusedSimpArgs false
theorem w64 {x : Int} (h : -9223372036854775808 ≤ x) (h' : x ≤ 9223372036854775807) : wrap64 x = x := by unfold wrap64; omega
theorem rdn (l : List Int) (i : Int) : rd l i = l.getD i.toNat 0 := rfl
def okD (x : Int) : Bool := decide (0 ≤ x) && decide (x ≤ 9999)
def okB (neg : Bool) (l : List Int) : Bool := decide (l.length ≤ 16) && l.all okD && (decide (l.length = 0) || decide (l.getD (l.length - 1) 0 ≠ 0)) && (!neg || decide (l.length ≠ 0))
theorem okB_iff (neg : Bool) (l : List Int) : okB neg l = true ↔ BOk neg l := by
  unfold okB BOk Dig Nz
  simp only [Bool.and_eq_true, decide_eq_true_eq, List.all_eq_true, okD, Bool.or_eq_true, Bool.not_eq_true']
  constructor
  · rintro ⟨⟨⟨a, b⟩, c⟩, d⟩
    exact ⟨a, b, c, fun h => d.resolve_left (by simp [h])⟩
  · rintro ⟨a, b, c, d⟩
    refine ⟨⟨⟨a, b⟩, c⟩, ?_⟩
    cases neg
    · exact .inl rfl
    · exact .inr (d rfl)
theorem in_ge (x : Int) : spec_l1In.f x 0 9999 = some (okD x) := by
  unfold spec_l1In.f okD
  by_cases h : x ≥ 0
  · rw [if_pos h, decide_eq_true h, Bool.true_and]
  · rw [if_neg h, decide_eq_false h, Bool.false_and]
theorem bne_d (x : Int) : (x != 0) = decide (x ≠ 0) := by by_cases h : x = 0 <;> simp [h]
theorem l1Ok_l0 (neg : Bool) (l : List Int) (hl : l.length ≤ 16) : ∀ (m k i : Nat), i + m = l.length → m + 1 ≤ k →
    spec_l1Ok.l0 k (i : Int) neg l = some ((l.drop i).all okD && (decide (l.length = 0) || decide (l.getD (l.length - 1) 0 ≠ 0))) := by
  intro m
  induction m with
  | zero =>
    intro k i hi hk
    obtain ⟨k, rfl⟩ : ∃ j, k = j + 1 := ⟨k - 1, by omega⟩
    rw [spec_l1Ok.l0, if_neg (by omega), List.drop_eq_nil_of_le (by omega)]
    by_cases h0 : l.length = 0
    · rw [if_pos (by omega)]; simp [h0]
    · rw [if_neg (by omega), w64 (by omega) (by omega), if_pos (by omega), if_pos (by omega), rdn, show ((l.length : Int) - 1).toNat = l.length - 1 from by omega, bne_d, decide_eq_false h0]
      rfl
  | succ m ih =>
    intro k i hi hk
    obtain ⟨k, rfl⟩ : ∃ j, k = j + 1 := ⟨k - 1, by omega⟩
    have hlt : i < l.length := by omega
    rw [spec_l1Ok.l0, if_pos (by omega), if_pos (by omega), in_ge]
    simp only [Option.bind_some]
    rw [rdn, Int.toNat_natCast, drop_cons hlt, List.all_cons]
    by_cases hb : okD (l.getD i 0) = true
    · rw [if_pos hb, w64 (by omega) (by omega), show ((i : Int) + 1) = ((i + 1 : Nat) : Int) from by omega, ih k (i + 1) (by omega) (by omega), hb, Bool.true_and]
    · rw [if_neg hb, Bool.eq_false_iff.mpr hb]; simp
theorem l1Ok_ge (neg : Bool) (l : List Int) (k : Nat) (hk : 30 ≤ k) : spec_l1Ok.f k neg l = some (okB neg l) := by
  obtain ⟨k, rfl⟩ : ∃ j, k = j + 1 := ⟨k - 1, by omega⟩
  unfold spec_l1Ok.f okB
  by_cases h16 : (l.length : Int) > 16
  · rw [if_pos h16, spec_l1Ok.j0, if_pos rfl, decide_eq_false (show ¬ l.length ≤ 16 by omega)]; simp
  · have e := l1Ok_l0 neg l (by omega) l.length k 0 (by omega) (by omega)
    rw [List.drop_zero] at e
    rw [if_neg h16, decide_eq_true (show l.length ≤ 16 by omega), Bool.true_and]
    cases neg
    · rw [if_neg (by decide), spec_l1Ok.j0, if_neg (by decide)]
      refine e.trans ?_
      simp
    · rw [if_pos rfl, spec_l1Ok.j0]
      by_cases h0 : l.length = 0
      · rw [if_pos (by simp [h0])]; simp [h0]
      · rw [if_neg (by simp; intro hn; simp [hn] at h0)]
        refine e.trans ?_
        rw [decide_eq_true (show l.length ≠ 0 from h0)]
        simp
theorem any_bad (l : List Int) : l.any bad = !(l.all okD) := by
  induction l with
  | nil => rfl
  | cons x xs ih => rw [List.any_cons, List.all_cons, ih, Bool.not_and]; rfl
theorem bigOk_f (neg : Bool) (l : List Int) : impl_BigOk.f neg l = some (okB neg l) := by
  unfold impl_BigOk.f okB containsBad.f
  simp only [any_bad, Option.bind_some, Bool.not_not]
  by_cases h16 : (l.length : Int) ≤ 16
  · rw [if_pos h16, decide_eq_true (show l.length ≤ 16 by omega), Bool.true_and]
    by_cases h0 : (l.length : Int) = 0
    · rw [if_pos h0]
      have h0' : l.length = 0 := by omega
      cases neg
      · rw [if_neg (by decide)]; simp [h0']
      · rw [if_pos rfl, if_neg (by omega)]; simp [h0']
    · have h0' : l.length ≠ 0 := by omega
      rw [if_neg h0, if_pos (by omega), w64 (by omega) (by omega), if_pos (by omega), if_pos (by omega), rdn, show ((l.length : Int) - 1).toNat = l.length - 1 from by omega, decide_eq_false h0', decide_eq_true (show l.length ≠ 0 from h0'), Bool.false_or, Bool.or_true, Bool.and_true]
      by_cases hz : l.getD (l.length - 1) 0 = 0
      · rw [if_pos hz, decide_eq_false (by simpa using hz)]; simp
      · rw [if_neg hz, decide_eq_true hz]; simp
  · rw [if_neg h16, decide_eq_false (show ¬ l.length ≤ 16 by omega)]; simp
def trimN (l : List Int) : Nat → Nat
  | 0 => 0
  | n + 1 => if l.getD n 0 = 0 then trimN l n else n + 1
def trimL (l : List Int) : List Int := l.take (trimN l l.length)
theorem trimN_le (l : List Int) (n : Nat) : trimN l n ≤ n := by
  induction n with
  | zero => exact Nat.le_refl _
  | succ n ih => unfold trimN; split <;> omega
theorem trimN_hi (l : List Int) (n : Nat) : ∀ j, trimN l n ≤ j → j < n → l.getD j 0 = 0 := by
  induction n with
  | zero => intro j _ h; omega
  | succ n ih =>
    intro j h1 h2
    unfold trimN at h1
    split at h1
    · rename_i h
      by_cases hj : j = n
      · rw [hj]; exact h
      · exact ih j h1 (by omega)
    · omega
theorem trimN_nz (l : List Int) (n : Nat) : 0 < trimN l n → l.getD (trimN l n - 1) 0 ≠ 0 := by
  induction n with
  | zero => intro h; simp [trimN] at h
  | succ n ih =>
    unfold trimN
    split
    · exact ih
    · rename_i h; intro _; rw [Nat.add_sub_cancel]; exact h
theorem trimL_of (l : List Int) : TrimOf l (trimL l) := ⟨trimN l l.length, trimN_le _ _, rfl, trimN_hi _ _, trimN_nz _ _⟩
theorem trimL_len (l : List Int) : (trimL l).length ≤ l.length := (trimL_of l).len
theorem trimL_rep {l : List Int} (hd : Dig l) : trimL l = rep (val l) := (trimL_of l).rep hd rfl
theorem sTrim_l0 (l : List Int) (hl : l.length < 1000000) : ∀ (n k : Nat), n ≤ l.length → n + 1 ≤ k → spec_l1Trim.l0 k l (n : Int) = some (l.take (trimN l n)) := by
  intro n
  induction n with
  | zero =>
    intro k hn hk
    obtain ⟨k, rfl⟩ : ∃ j, k = j + 1 := ⟨k - 1, by omega⟩
    rw [spec_l1Trim.l0, if_neg (by omega)]
    simp only [Option.bind_some]
    rw [if_pos (by omega), if_pos (by omega), if_pos (by simp)]
    simp [trimN]
  | succ n ih =>
    intro k hn hk
    obtain ⟨k, rfl⟩ : ∃ j, k = j + 1 := ⟨k - 1, by omega⟩
    rw [spec_l1Trim.l0, if_pos (by omega), w64 (by omega) (by omega), show (((n + 1 : Nat) : Int) - 1) = (n : Int) from by omega, if_pos (by omega), if_pos (by omega), rdn, Int.toNat_natCast]
    unfold trimN
    by_cases h : l.getD n 0 = 0
    · rw [if_pos h, if_pos h]; exact ih k (by omega) (by omega)
    · rw [if_neg h, if_neg h]
      simp only [Option.bind_some]
      rw [if_pos (by omega), if_pos (by omega), Int.toNat_natCast, if_pos (by rw [List.length_take]; simp; omega)]
      simp
theorem sTrim_ge (l : List Int) (hl : l.length < 1000000) (k : Nat) (hk : l.length + 1 ≤ k) : spec_l1Trim.f k l = some (trimL l) := sTrim_l0 l hl l.length k (Nat.le_refl _) hk
theorem iTrim_l0 (l : List Int) (hl : l.length < 1000000) : ∀ (n k : Nat), n ≤ l.length → n + 1 ≤ k → impl_limbs_trim.l0 k (l.take n) = some (l.take (trimN l n)) := by
  intro n
  induction n with
  | zero =>
    intro k hn hk
    obtain ⟨k, rfl⟩ : ∃ j, k = j + 1 := ⟨k - 1, by omega⟩
    rw [impl_limbs_trim.l0, if_neg (by simp)]
    rfl
  | succ n ih =>
    intro k hn hk
    obtain ⟨k, rfl⟩ : ∃ j, k = j + 1 := ⟨k - 1, by omega⟩
    have hlen : (l.take (n + 1)).length = n + 1 := by rw [List.length_take]; omega
    rw [impl_limbs_trim.l0, hlen, if_pos (by omega), w64 (by omega) (by omega), show (((n + 1 : Nat) : Int) - 1) = (n : Int) from by omega, if_pos (by omega), if_pos (by omega), rdn, Int.toNat_natCast, getD_take l (by omega)]
    unfold trimN
    by_cases h : l.getD n 0 = 0
    · rw [if_pos h, if_pos h, if_pos (by omega), List.take_take, Nat.min_eq_left (by omega)]; exact ih k (by omega) (by omega)
    · rw [if_neg h, if_neg h]
theorem iTrim_ge (l : List Int) (hl : l.length < 1000000) (k : Nat) (hk : l.length + 1 ≤ k) : impl_limbs_trim.f k l = some (trimL l) := by
  have e := iTrim_l0 l hl l.length k (Nat.le_refl _) hk
  rw [List.take_length] at e
  exact e
def bigR (x : Int) : Bool × List Int × Bool := if -pw 16 < x ∧ x < pw 16 then (mkN x, mkL x, true) else (false, [], false)
theorem bigR_of {neg : Bool} {l : List Int} (hd : Dig l) :
    (if ((rep (val l)).length : Int) > 16 then (false, ([] : List Int), false) else if neg = true then (decide (0 < (rep (val l)).length), rep (val l), true) else (false, rep (val l), true)) = bigR (bigv neg l) := by
  have h0 := val_nonneg hd
  have hr := rep_len h0 16
  have hp := pw_pos 16
  unfold bigR
  by_cases h : ((rep (val l)).length : Int) > 16
  · have hv : ¬ val l < pw 16 := fun hc => by have := hr.2 hc; omega
    rw [if_pos h, if_neg]
    unfold bigv
    split <;> omega
  · have hv : val l < pw 16 := hr.1 (by omega)
    have hin : -pw 16 < bigv neg l ∧ bigv neg l < pw 16 := by unfold bigv; split <;> omega
    rw [if_neg h, if_pos hin]
    cases neg
    · rw [if_neg (by decide)]
      unfold bigv mkN mkL
      rw [if_neg (by decide), if_neg (by omega), decide_eq_false (by omega)]
    · rw [if_pos rfl]
      unfold bigv mkN mkL
      rw [if_pos rfl]
      have hz := rep_nil h0
      by_cases hv0 : val l = 0
      · rw [hv0, rep_zero]; simp [rep_zero]
      · rw [if_pos (by omega), Int.neg_neg, decide_eq_true (show -val l < 0 by omega)]
        have : 0 < (rep (val l)).length := by
          apply Nat.pos_of_ne_zero
          intro hc
          exact hv0 (hz.1 (List.length_eq_zero_iff.1 hc))
        rw [decide_eq_true this]
theorem l1Big_ge {l : List Int} (hd : Dig l) (hl : l.length ≤ 1000) (neg : Bool) (k : Nat) (hk : 1010 ≤ k) : spec_l1Big.f k neg l = some (bigR (bigv neg l)) := by
  unfold spec_l1Big.f
  rw [sTrim_ge l (by omega) k (by omega), ← bigR_of hd, trimL_rep hd]
  simp only [Option.bind_some]
  (repeat' split) <;> simp_all
theorem big_ge {l : List Int} (hd : Dig l) (hl : l.length ≤ 1000) (neg : Bool) (k : Nat) (hk : 1010 ≤ k) : impl_big.f k neg l = some (bigR (bigv neg l)) := by
  unfold impl_big.f impl_clone_int.f clone99.f
  rw [iTrim_ge l (by omega) k (by omega), ← bigR_of hd]
  have := trimL_len l
  simp only [Option.bind_some]
  rw [if_pos (show (trimL l).length < 17592186044416 by omega), trimL_rep hd]
  simp only [Option.bind_some]
  (repeat' split) <;> simp_all
def sgn (x : Int) : Int := if x < 0 then -1 else if x = 0 then 0 else 1
theorem sgn_neg {x : Int} (h : x < 0) : sgn x = -1 := if_pos h
theorem sgn_zero : sgn 0 = 0 := rfl
theorem sgn_pos {x : Int} (h : 0 < x) : sgn x = 1 := by unfold sgn; rw [if_neg (by omega), if_neg (by omega)]
theorem drop_eq_of {a b : List Int} {i : Nat} (ha : i < a.length) (hb : i < b.length) (hd : a.drop (i + 1) = b.drop (i + 1)) (he : a.getD i 0 = b.getD i 0) : a.drop i = b.drop i := by
  rw [drop_cons ha, drop_cons hb, hd, he]
theorem iCmp_l0 {a b : List Int} (ha : Dig a) (hb : Dig b) (hl : a.length = b.length) (hb' : a.length < 1000000) : ∀ (i k : Nat), i ≤ a.length → a.drop i = b.drop i → i + 1 ≤ k →
    impl_limbs_cmp.l0 k a b ((i : Int) - 1) = some (sgn (val a - val b)) := by
  intro i
  induction i with
  | zero =>
    intro k hi hd hk
    obtain ⟨k, rfl⟩ : ∃ j, k = j + 1 := ⟨k - 1, by omega⟩
    rw [List.drop_zero, List.drop_zero] at hd
    rw [impl_limbs_cmp.l0, if_neg (by omega), hd, Int.sub_self, sgn_zero]
  | succ i ih =>
    intro k hi hd hk
    obtain ⟨k, rfl⟩ : ∃ j, k = j + 1 := ⟨k - 1, by omega⟩
    rw [impl_limbs_cmp.l0, show (((i + 1 : Nat) : Int) - 1) = (i : Int) from by omega, if_pos (by omega), if_pos (by omega), if_pos (by omega), if_pos (by omega), rdn, rdn, Int.toNat_natCast]
    have b1 := ha.getD i
    have b2 := hb.getD i
    by_cases h1 : a.getD i 0 = b.getD i 0
    · rw [if_pos h1, w64 (by omega) (by omega)]
      exact ih k (by omega) (drop_eq_of (by omega) (by omega) hd h1) (by omega)
    · rw [if_neg h1, w64 (by omega) (by omega)]
      unfold mx mn
      by_cases h2 : a.getD i 0 < b.getD i 0
      · have := val_lt_at ha hb (by omega) (by omega) hd h2
        rw [sgn_neg (by omega), if_pos (show a.getD i 0 - b.getD i 0 < 1 by omega), if_neg (by omega)]
      · have := val_lt_at hb ha (by omega) (by omega) hd.symm (show b.getD i 0 < a.getD i 0 by omega)
        rw [sgn_pos (by omega), if_neg (show ¬ a.getD i 0 - b.getD i 0 < 1 by omega), if_pos (by omega)]
theorem iCmp_ge {a b : List Int} (ha : Dig a) (hb : Dig b) (za : Nz a) (zb : Nz b) (la : a.length ≤ 1000) (lb : b.length ≤ 1000) (k : Nat) (hk : 1010 ≤ k) : impl_limbs_cmp.f k a b = some (sgn (val a - val b)) := by
  unfold impl_limbs_cmp.f
  by_cases h : (a.length : Int) = (b.length : Int)
  · rw [if_pos h, w64 (by omega) (by omega)]
    exact iCmp_l0 ha hb (by omega) (by omega) a.length k (Nat.le_refl _) (by rw [List.drop_length, List.drop_eq_nil_of_le (by omega)]) (by omega)
  · rw [if_neg h, w64 (by omega) (by omega)]
    unfold mx mn
    by_cases h2 : (a.length : Int) < (b.length : Int)
    · have := val_lt_of_len ha hb zb (by omega)
      rw [sgn_neg (by omega), if_pos (show (a.length : Int) - (b.length : Int) < 1 by omega), if_neg (by omega)]
    · have := val_lt_of_len hb ha za (by omega)
      rw [sgn_pos (by omega), if_neg (show ¬ (a.length : Int) - (b.length : Int) < 1 by omega), if_pos (by omega)]
end Go.Proofs.Ytdemeoncjcbojaa.Val
end
section
namespace Go.Proofs.Ytdemeoncjcbojaa.Val
open Go.RowKit Go.Proofs.Ytdemeoncjcbojaa.Pr Go.Proofs.Ytdemeoncjcbojaa.Ext Go.Proofs.Ytdemeoncjcbojaa.Jt Go.Proofs.YtdemeoncjcbojaaW.PrintWords Go.Proofs.YtdemeoncjcbojaaW.PrintLast Go.Proofs.YtdemeoncjcbojaaW.PrintMore
set_option linter.unusedVariables false
set_option linter.unusedSimpArgs false
theorem rdN (l : List Int) (i : Nat) : rd l (i : Int) = l.getD i 0 := by unfold rd; rw [Int.toNat_natCast]
theorem getD_set_ne {l : List Int} {i j : Nat} (v : Int) (h : i < l.length) (hne : j ≠ i) : (l.set i v).getD j 0 = l.getD j 0 := by rw [getD_set l i j v h, if_neg hne]
theorem getD_set_eq {l : List Int} {i : Nat} (v : Int) (h : i < l.length) : (l.set i v).getD i 0 = v := by rw [getD_set l i i v h, if_pos rfl]
theorem val_drop (l : List Int) (i : Nat) : val (l.drop i) = l.getD i 0 + 10000 * val (l.drop (i + 1)) := by
  by_cases h : i < l.length
  · rw [drop_cons h]; rfl
  · rw [List.drop_eq_nil_of_le (by omega), List.drop_eq_nil_of_le (by omega), getD_ge (by omega)]; rfl
theorem iAdd_l1 {x : List Int} : ∀ (m k i : Nat) (x : List Int), i + m + 1 = x.length → x.length ≤ 1000 → m + 1100 ≤ k →
    (∀ j, j < i → 0 ≤ x.getD j 0 ∧ x.getD j 0 ≤ 9999) → (∀ j, i < j → 0 ≤ x.getD j 0 ∧ x.getD j 0 ≤ 19998) → (0 ≤ x.getD i 0 ∧ x.getD i 0 ≤ 19999) →
    (x.getD (x.length - 1) 0 ≤ if i = x.length - 1 then 1 else 0) →
    impl_limbs_add.l1 k x ((x.length : Int) - 1) (i : Int) = some (rep (val x)) := by
  intro m
  induction m with
  | zero =>
    intro k i x hi hl hk h1 h2 h3 h4
    obtain ⟨k, rfl⟩ : ∃ j, k = j + 1 := ⟨k - 1, by omega⟩
    have hd : Dig x := dig_of_getD fun j hj => by
      by_cases hji : j < i
      · exact h1 j hji
      · have : j = x.length - 1 := by omega
        have e : i = x.length - 1 := by omega
        rw [if_pos e] at h4
        rw [e] at h3
        subst this
        omega
    rw [impl_limbs_add.l1, if_neg (by omega), iTrim_ge x (by omega) k (by omega), trimL_rep hd]
    rfl
  | succ m ih =>
    intro k i x hi hl hk h1 h2 h3 h4
    obtain ⟨k, rfl⟩ : ∃ j, k = j + 1 := ⟨k - 1, by omega⟩
    have hlt : i < x.length := by omega
    have hlt1 : i + 1 < x.length := by omega
    have n1 := h2 (i + 1) (by omega)
    rw [if_neg (by omega)] at h4
    rw [impl_limbs_add.l1, if_pos (by omega), w64 (x := (i : Int) + 1) (by omega) (by omega), if_pos (by omega), if_pos (by omega), if_pos (by omega), if_pos (by omega)]
    simp only [Option.bind_some]
    simp only [rdn]
    rw [show ((i : Int) + 1).toNat = i + 1 from by omega, Int.toNat_natCast, Int.tdiv_eq_ediv_of_nonneg h3.1, w64 (x := x.getD i 0 / 10000) (by omega) (by omega), w64 (by omega) (by omega),
      getD_set_ne _ hlt1 (by omega), Int.tmod_eq_emod_of_nonneg h3.1]
    have hlen : ((x.set (i + 1) (x.getD (i + 1) 0 + x.getD i 0 / 10000)).set i (x.getD i 0 % 10000)).length = x.length := by simp
    have hv : val ((x.set (i + 1) (x.getD (i + 1) 0 + x.getD i 0 / 10000)).set i (x.getD i 0 % 10000)) = val x := by
      rw [val_set _ _ _ (by rw [List.length_set]; omega), val_set _ _ _ hlt1, getD_set_ne _ hlt1 (by omega), pw_succ]
      have e : x.getD i 0 = 10000 * (x.getD i 0 / 10000) + x.getD i 0 % 10000 := by omega
      generalize x.getD i 0 / 10000 = q at e
      generalize x.getD i 0 % 10000 = r at e
      rw [e]
      grind
    have e := ih k (i + 1) ((x.set (i + 1) (x.getD (i + 1) 0 + x.getD i 0 / 10000)).set i (x.getD i 0 % 10000)) (by rw [hlen]; omega) (by rw [hlen]; omega) (by omega) ?_ ?_ ?_ ?_
    · rw [hlen, hv] at e
      rw [show ((i : Int) + 1) = ((i + 1 : Nat) : Int) from by omega]
      exact e
    · intro j hj
      by_cases hji : j = i
      · rw [hji, getD_set_eq _ (by rw [List.length_set]; omega)]; omega
      · rw [getD_set_ne _ (by rw [List.length_set]; omega) hji, getD_set_ne _ hlt1 (by omega)]; exact h1 j (by omega)
    · intro j hj
      rw [getD_set_ne _ (by rw [List.length_set]; omega) (by omega), getD_set_ne _ hlt1 (by omega)]; exact h2 j (by omega)
    · rw [getD_set_ne _ (by rw [List.length_set]; omega) (by omega), getD_set_eq _ hlt1]; omega
    · rw [hlen]
      rw [getD_set_ne _ (by rw [List.length_set]; omega) (by omega)]
      by_cases he : i + 1 = x.length - 1
      · rw [if_pos he, ← he, getD_set_eq _ hlt1]
        rw [← he] at h4
        omega
      · rw [if_neg he, getD_set_ne _ hlt1 (by omega)]; exact h4
theorem iAdd_l0 {b : List Int} (hb : Dig b) : ∀ (m k i : Nat) (x : List Int), i + m = b.length → b.length + 1 ≤ x.length → x.length ≤ 1000 → m + 2200 ≤ k →
    (∀ j, j < i → 0 ≤ x.getD j 0 ∧ x.getD j 0 ≤ 19998) → (∀ j, i ≤ j → 0 ≤ x.getD j 0 ∧ x.getD j 0 ≤ 9999) → x.getD (x.length - 1) 0 = 0 →
    impl_limbs_add.l0 k x b (b.length : Int) (i : Int) = some (rep (val x + pw i * val (b.drop i))) := by
  intro m
  induction m with
  | zero =>
    intro k i x hi hx hl hk h1 h2 h3
    obtain ⟨k, rfl⟩ : ∃ j, k = j + 1 := ⟨k - 1, by omega⟩
    rw [impl_limbs_add.l0, if_neg (by omega), w64 (by omega) (by omega), List.drop_eq_nil_of_le (by omega), val_nil, Int.mul_zero, Int.add_zero]
    have hall : ∀ j, 0 ≤ x.getD j 0 ∧ x.getD j 0 ≤ 19998 := fun j => by
      by_cases hj : j < i
      · exact h1 j hj
      · have := h2 j (by omega); omega
    have e := iAdd_l1 (x := x) (x.length - 1) k 0 x (by omega) hl (by omega) (fun j hj => by omega) (fun j _ => hall j) (by have := hall 0; omega) (by rw [h3]; split <;> omega)
    exact e
  | succ m ih =>
    intro k i x hi hx hl hk h1 h2 h3
    obtain ⟨k, rfl⟩ : ∃ j, k = j + 1 := ⟨k - 1, by omega⟩
    have hlt : i < b.length := by omega
    have hltx : i < x.length := by omega
    have b1 := hb.getD i
    have b2 := h2 i (by omega)
    rw [impl_limbs_add.l0, if_pos (by omega), if_pos (by omega), if_pos (by omega), if_pos (by omega), w64 (x := (i : Int) + 1) (by omega) (by omega)]
    simp only [rdn]
    rw [Int.toNat_natCast, w64 (by omega) (by omega), show ((i : Int) + 1) = ((i + 1 : Nat) : Int) from by omega]
    have e := ih k (i + 1) (x.set i (x.getD i 0 + b.getD i 0)) (by omega) (by simp; omega) (by simp; omega) (by omega) ?_ ?_ ?_
    · rw [e, val_set _ _ _ hltx, val_drop b i, pw_succ]
      congr 2
      grind
    · intro j hj
      by_cases hji : j = i
      · rw [hji, getD_set_eq _ hltx]; omega
      · rw [getD_set_ne _ hltx hji]; exact h1 j (by omega)
    · intro j hj
      rw [getD_set_ne _ hltx (by omega)]; exact h2 j (by omega)
    · rw [List.length_set, getD_set_ne _ hltx (by omega)]; exact h3
theorem iAdd_ge {a b : List Int} (ha : Dig a) (hb : Dig b) (la : a.length ≤ 500) (lb : b.length ≤ 500) (k : Nat) (hk : 3000 ≤ k) : impl_limbs_add.f k a b = some (rep (val a + val b)) := by
  unfold impl_limbs_add.f
  have hm : mx (a.length : Int) (b.length : Int) = ((max a.length b.length : Nat) : Int) := by unfold mx; split <;> omega
  rw [hm, w64 (by omega) (by omega), if_pos (by omega), show (((max a.length b.length : Nat) : Int) + 1).toNat = max a.length b.length + 1 from by omega, if_pos (by omega)]
  have hc : cpy a (List.replicate (max a.length b.length + 1) 0) = a ++ List.replicate (max a.length b.length + 1 - a.length) 0 := by
    unfold cpy
    rw [List.length_replicate, Nat.min_eq_left (by omega), List.take_length, List.drop_replicate]
  rw [hc]
  have hr : ∀ j, (List.replicate (max a.length b.length + 1 - a.length) (0 : Int)).getD j 0 = 0 := fun j => by
    rw [List.getD_eq_getElem?_getD, List.getElem?_replicate]; split <;> rfl
  have hg : ∀ j, (a ++ List.replicate (max a.length b.length + 1 - a.length) 0).getD j 0 = a.getD j 0 := fun j => by
    by_cases hj : j < a.length
    · rw [List.getD_eq_getElem?_getD, List.getElem?_append_left hj, ← List.getD_eq_getElem?_getD]
    · rw [List.getD_eq_getElem?_getD, List.getElem?_append_right (by omega), ← List.getD_eq_getElem?_getD, hr, getD_ge (by omega)]
  have e := iAdd_l0 hb b.length k 0 (a ++ List.replicate (max a.length b.length + 1 - a.length) 0) (by omega) (by simp; omega) (by simp; omega) (by omega) (fun j hj => by omega) (fun j _ => by rw [hg]; exact ha.getD j)
    (by rw [hg]; apply getD_ge; simp; omega)
  rw [val_append, val_replicate, List.drop_zero, pw_zero] at e
  refine e.trans ?_
  congr 2
  omega
theorem limb_ge (l : List Int) (i : Nat) : spec_l1Limb.f l (i : Int) = some (l.getD i 0) := by
  unfold spec_l1Limb.f
  by_cases h : (i : Int) < (l.length : Int)
  · rw [if_pos h, if_pos (by omega), rdn, Int.toNat_natCast]
  · rw [if_neg h, getD_ge (by omega)]
theorem iSub_l1 (v : Int) (hv : 0 ≤ v) : ∀ (m k i : Nat) (x : List Int), i + m = x.length → x.length ≤ 1000 → m + 1100 ≤ k → val x = v →
    (∀ j, j < i → 0 ≤ x.getD j 0 ∧ x.getD j 0 ≤ 9999) → (∀ j, i < j → -9999 ≤ x.getD j 0 ∧ x.getD j 0 ≤ 9999) → (-10000 ≤ x.getD i 0 ∧ x.getD i 0 ≤ 9999) →
    impl_limbs_sub.l1 k x (x.length : Int) (i : Int) = some (rep v) := by
  intro m
  induction m with
  | zero =>
    intro k i x hi hl hk hx h1 h2 h3
    obtain ⟨k, rfl⟩ : ∃ j, k = j + 1 := ⟨k - 1, by omega⟩
    have hd : Dig x := dig_of_getD fun j hj => h1 j (by omega)
    rw [impl_limbs_sub.l1, if_neg (by omega), iTrim_ge x (by omega) k (by omega), trimL_rep hd, hx]
    rfl
  | succ m ih =>
    intro k i x hi hl hk hx h1 h2 h3
    obtain ⟨k, rfl⟩ : ∃ j, k = j + 1 := ⟨k - 1, by omega⟩
    have hlt : i < x.length := by omega
    have hdt : Dig (x.take i) := dig_of_getD fun j hj => by
      rw [List.length_take] at hj
      rw [getD_take x (by omega)]; exact h1 j (by omega)
    rw [impl_limbs_sub.l1, if_pos (by omega), if_pos (by omega), if_pos (by omega)]
    simp only [rdN]
    rw [Int.toNat_natCast, w64 (x := (i : Int) + 1) (by omega) (by omega)]
    by_cases hneg : x.getD i 0 < 0
    · have hlt1 : i + 1 < x.length := by
        apply Nat.lt_of_not_le
        intro hc
        have es := val_split x (n := i) (by omega)
        rw [val_drop x i, List.drop_eq_nil_of_le (show x.length ≤ i + 1 by omega), val_nil] at es
        have hlt2 := val_lt hdt
        rw [List.length_take, Nat.min_eq_left (by omega)] at hlt2
        have hp := pw_pos i
        have : pw i * (x.getD i 0 + 10000 * 0) ≤ pw i * (-1) := Int.mul_le_mul_of_nonneg_left (by omega) (by omega)
        omega
      have n1 := h2 (i + 1) (by omega)
      rw [if_pos hneg]
      simp only [Option.bind_some]
      rw [if_pos (by omega), if_pos (by omega), rdn, show ((i : Int) + 1).toNat = i + 1 from by omega, w64 (x := x.getD i 0 + 10000) (by omega) (by omega), getD_set_ne _ hlt (by omega), w64 (by omega) (by omega), show ((i : Int) + 1) = ((i + 1 : Nat) : Int) from by omega]
      have hlen : ((x.set i (x.getD i 0 + 10000)).set (i + 1) (x.getD (i + 1) 0 - 1)).length = x.length := by simp
      have e := ih k (i + 1) ((x.set i (x.getD i 0 + 10000)).set (i + 1) (x.getD (i + 1) 0 - 1)) (by rw [hlen]; omega) (by rw [hlen]; omega) (by omega) ?_ ?_ ?_ ?_
      · rw [hlen] at e; exact e
      · rw [val_set _ _ _ (by rw [List.length_set]; omega), val_set _ _ _ hlt, getD_set_ne _ hlt (by omega), pw_succ, hx]
        grind
      · intro j hj
        rw [getD_set_ne _ (by rw [List.length_set]; omega) (by omega)]
        by_cases hji : j = i
        · rw [hji, getD_set_eq _ hlt]; omega
        · rw [getD_set_ne _ hlt hji]; exact h1 j (by omega)
      · intro j hj
        rw [getD_set_ne _ (by rw [List.length_set]; omega) (by omega), getD_set_ne _ hlt (by omega)]; exact h2 j (by omega)
      · rw [getD_set_eq _ (by rw [List.length_set]; omega)]; omega
    · rw [if_neg hneg, show ((i : Int) + 1) = ((i + 1 : Nat) : Int) from by omega]
      exact ih k (i + 1) x (by omega) hl (by omega) hx (fun j hj => by
        by_cases hji : j = i
        · rw [hji]; omega
        · exact h1 j (by omega)) (fun j hj => h2 j (by omega)) (by have := h2 (i + 1) (by omega); omega)
theorem iSub_l0 {b : List Int} (hb : Dig b) : ∀ (m k i : Nat) (x : List Int), i + m = b.length → b.length ≤ x.length → x.length ≤ 1000 → m + 2200 ≤ k → 0 ≤ val x - pw i * val (b.drop i) →
    (∀ j, j < i → -9999 ≤ x.getD j 0 ∧ x.getD j 0 ≤ 9999) → (∀ j, i ≤ j → 0 ≤ x.getD j 0 ∧ x.getD j 0 ≤ 9999) →
    impl_limbs_sub.l0 k x b (b.length : Int) (i : Int) = some (rep (val x - pw i * val (b.drop i))) := by
  intro m
  induction m with
  | zero =>
    intro k i x hi hx hl hk hv h1 h2
    obtain ⟨k, rfl⟩ : ∃ j, k = j + 1 := ⟨k - 1, by omega⟩
    rw [List.drop_eq_nil_of_le (by omega), val_nil, Int.mul_zero, Int.sub_zero] at hv
    rw [impl_limbs_sub.l0, if_neg (by omega), List.drop_eq_nil_of_le (by omega), val_nil, Int.mul_zero, Int.sub_zero]
    have hall : ∀ j, -9999 ≤ x.getD j 0 ∧ x.getD j 0 ≤ 9999 := fun j => by
      by_cases hj : j < i
      · exact h1 j hj
      · have := h2 j (by omega); omega
    exact iSub_l1 (val x) hv x.length k 0 x (by omega) hl (by omega) rfl (fun j hj => by omega) (fun j _ => hall j) (by have := hall 0; omega)
  | succ m ih =>
    intro k i x hi hx hl hk hv h1 h2
    obtain ⟨k, rfl⟩ : ∃ j, k = j + 1 := ⟨k - 1, by omega⟩
    have hlt : i < b.length := by omega
    have hltx : i < x.length := by omega
    have b1 := hb.getD i
    have b2 := h2 i (by omega)
    rw [impl_limbs_sub.l0, if_pos (by omega), if_pos (by omega), if_pos (by omega), if_pos (by omega), w64 (x := (i : Int) + 1) (by omega) (by omega)]
    simp only [rdn]
    rw [Int.toNat_natCast, w64 (by omega) (by omega), show ((i : Int) + 1) = ((i + 1 : Nat) : Int) from by omega]
    have hval : val (x.set i (x.getD i 0 - b.getD i 0)) - pw (i + 1) * val (b.drop (i + 1)) = val x - pw i * val (b.drop i) := by
      rw [val_set _ _ _ hltx, val_drop b i, pw_succ]
      grind
    have e := ih k (i + 1) (x.set i (x.getD i 0 - b.getD i 0)) (by omega) (by simp; omega) (by simp; omega) (by omega) (by rw [hval]; exact hv) ?_ ?_
    · rw [e, hval]
    · intro j hj
      by_cases hji : j = i
      · rw [hji, getD_set_eq _ hltx]; omega
      · rw [getD_set_ne _ hltx hji]; exact h1 j (by omega)
    · intro j hj
      rw [getD_set_ne _ hltx (by omega)]; exact h2 j (by omega)
theorem len_le_of_val {a b : List Int} (ha : Dig a) (hb : Dig b) (zb : Nz b) (h : val b ≤ val a) : b.length ≤ a.length := by
  apply Nat.le_of_not_lt
  intro hc
  have := val_lt_of_len ha hb zb hc
  omega
theorem iSub_ge {a b : List Int} (ha : Dig a) (hb : Dig b) (zb : Nz b) (la : a.length ≤ 1000) (h : val b ≤ val a) (k : Nat) (hk : 4000 ≤ k) : impl_limbs_sub.f k a b = some (rep (val a - val b)) := by
  unfold impl_limbs_sub.f clone100.f
  have hlen := len_le_of_val ha hb zb h
  rw [if_pos (by omega)]
  simp only [Option.bind_some]
  have e := iSub_l0 hb b.length k 0 a (by omega) hlen la (by omega) (by rw [List.drop_zero, pw_zero]; omega) (fun j hj => by omega) (fun j _ => ha.getD j)
  rw [List.drop_zero, pw_zero, Int.one_mul] at e
  exact e
end Go.Proofs.Ytdemeoncjcbojaa.Val
end
section
namespace Go.Proofs.Ytdemeoncjcbojaa.Val
open Go.RowKit Go.Proofs.Ytdemeoncjcbojaa.Pr Go.Proofs.Ytdemeoncjcbojaa.Ext Go.Proofs.Ytdemeoncjcbojaa.Jt Go.Proofs.YtdemeoncjcbojaaW.PrintWords Go.Proofs.YtdemeoncjcbojaaW.PrintLast Go.Proofs.YtdemeoncjcbojaaW.PrintMore
set_option linter.unusedVariables false
set_option linter.unusedSimpArgs false
def sv (q : Bool) (v : Int) : Int := if q = true then -v else v
theorem sv_rep {q : Bool} {v : Int} (h : 0 ≤ v) : bigv q (rep v) = sv q v := by unfold bigv sv; rw [rep_val h]
theorem bigv_sv (q : Bool) (l : List Int) : bigv q l = sv q (val l) := rfl
theorem rep_len_le {v : Int} (h0 : 0 ≤ v) {n : Nat} (h : v < pw n) : (rep v).length ≤ n := (rep_len h0 n).2 h
theorem sgn_ge (x : Int) : sgn x ≥ 0 ↔ 0 ≤ x := by unfold sgn; split <;> (try split) <;> omega
theorem two_pw {n : Nat} {x y : Int} (hx : x < pw n) (hy : y < pw n) : x + y < pw (n + 1) := by rw [pw_succ]; have := pw_pos n; omega
theorem signed_add_ge {s s' : Bool} {a b : List Int} (ha : Dig a) (hb : Dig b) (za : Nz a) (zb : Nz b) (la : a.length ≤ 100) (lb : b.length ≤ 100) :
    ∃ q v, (∀ k, 5000 ≤ k → impl_signed_add.f k s a s' b = some (q, rep v)) ∧ 0 ≤ v ∧ (rep v).length ≤ 101 ∧ sv q v = bigv s a + bigv s' b := by
  have na := val_nonneg ha
  have nb := val_nonneg hb
  have ha2 := Int.lt_of_lt_of_le (val_lt ha) (pw_mono la)
  have hb2 := Int.lt_of_lt_of_le (val_lt hb) (pw_mono lb)
  have h2 : val a + val b < pw 101 := two_pw ha2 hb2
  rw [bigv_sv, bigv_sv]
  by_cases hs : s = s'
  · subst hs
    refine ⟨s, val a + val b, fun k hk => ?_, by omega, rep_len_le (by omega) h2, by cases s <;> simp [sv] <;> omega⟩
    unfold impl_signed_add.f
    rw [if_pos (by simp), iAdd_ge ha hb (by omega) (by omega) k (by omega)]; rfl
  · have hs' : (s == s') = false := by simp [hs]
    by_cases hc : val b ≤ val a
    · refine ⟨s, val a - val b, fun k hk => ?_, by omega, rep_len_le (by omega) (by omega), by cases s <;> cases s' <;> simp_all [sv] <;> omega⟩
      unfold impl_signed_add.f
      rw [if_neg (by rw [hs']; decide), iCmp_ge ha hb za zb (by omega) (by omega) k (by omega)]
      simp only [Option.bind_some]
      rw [if_pos ((sgn_ge _).2 (by omega)), iSub_ge ha hb zb (by omega) hc k (by omega)]; rfl
    · refine ⟨s', val b - val a, fun k hk => ?_, by omega, rep_len_le (by omega) (by omega), by cases s <;> cases s' <;> simp_all [sv] <;> omega⟩
      unfold impl_signed_add.f
      rw [if_neg (by rw [hs']; decide), iCmp_ge ha hb za zb (by omega) (by omega) k (by omega)]
      simp only [Option.bind_some]
      rw [if_neg (fun h => by have := (sgn_ge _).1 h; omega), iSub_ge hb ha za (by omega) (by omega) k (by omega)]; rfl
abbrev No : Bool × List Int × Bool := (false, [], false)
def addR (n : Bool) (l : List Int) (n' : Bool) (l' : List Int) : Bool × List Int × Bool := if okB n l = true ∧ okB n' l' = true then bigR (bigv n l + bigv n' l') else No
theorem bigs_f (n : Bool) (l : List Int) (n' : Bool) (l' : List Int) : impl_bigs.f n l n' l' = some (okB n l && okB n' l') := by
  unfold impl_bigs.f
  rw [bigOk_f, bigOk_f]
  simp only [Option.bind_some]
  cases okB n l <;> simp
theorem iBigAdd_ge (n : Bool) (l : List Int) (n' : Bool) (l' : List Int) (k : Nat) (hk : 6000 ≤ k) : impl_BigAdd.f k n l n' l' = some (addR n l n' l') := by
  unfold impl_BigAdd.f addR
  rw [bigs_f]
  simp only [Option.bind_some]
  by_cases h : okB n l = true ∧ okB n' l' = true
  · rw [if_pos h, if_pos (by rw [h.1, h.2]; rfl)]
    obtain ⟨l1, d1, z1, _⟩ := (okB_iff n l).1 h.1
    obtain ⟨l2, d2, z2, _⟩ := (okB_iff n' l').1 h.2
    obtain ⟨q, v, hq, hv, hl, he⟩ := signed_add_ge (s := n) (s' := n') d1 d2 z1 z2 (by omega) (by omega)
    simp only [impl_Big_signed.f, Option.bind_some]
    rw [hq k (by omega)]
    simp only [Option.bind_some]
    rw [big_ge (rep_dig v) (by omega) q k (by omega), sv_rep hv, he]
    rfl
  · rw [if_neg h, if_neg (by simpa using h)]
theorem jtInts_l0 {a b : List Int} (hl : a.length = b.length) (hL : a.length < 1000000) : ∀ (m k i : Nat), i + m = a.length → m + 1 ≤ k → laws_jtInts.l0 k a b (i : Int) = some (decide (a.drop i = b.drop i)) := by
  intro m
  induction m with
  | zero =>
    intro k i hi hk
    obtain ⟨k, rfl⟩ : ∃ j, k = j + 1 := ⟨k - 1, by omega⟩
    rw [laws_jtInts.l0, if_neg (by omega), List.drop_eq_nil_of_le (by omega), List.drop_eq_nil_of_le (by omega)]
    simp
  | succ m ih =>
    intro k i hi hk
    obtain ⟨k, rfl⟩ : ∃ j, k = j + 1 := ⟨k - 1, by omega⟩
    rw [laws_jtInts.l0, if_pos (by omega), if_pos (by omega), if_pos (by omega), rdN, rdN, drop_cons (l := a) (by omega), drop_cons (l := b) (by omega)]
    by_cases h : a.getD i 0 = b.getD i 0
    · rw [if_pos h, w64 (by omega) (by omega), show ((i : Int) + 1) = ((i + 1 : Nat) : Int) from by omega, ih k (i + 1) (by omega) (by omega), h]
      simp
    · rw [if_neg h]
      simp only [List.cons.injEq, h, false_and, decide_false]
theorem jtBig_ge (n : Bool) (l : List Int) (n' : Bool) (l' : List Int) (hl : l.length ≤ 1000) (k : Nat) (hk : 1010 ≤ k) : laws_jtBig.f k n l n' l' = some (decide (n = n' ∧ l = l')) := by
  unfold laws_jtBig.f laws_jtInts.f
  by_cases hn : n = n'
  · rw [if_pos (by simp [hn])]
    by_cases h : (l.length : Int) = (l'.length : Int)
    · have e := jtInts_l0 (a := l) (b := l') (by omega) (by omega) l.length k 0 (by omega) (by omega)
      rw [List.drop_zero, List.drop_zero] at e
      rw [if_pos h]
      simp only [hn, true_and]
      rw [show (0 : Int) = ((0 : Nat) : Int) from rfl, e]
      rfl
    · rw [if_neg h]
      have : l ≠ l' := fun hc => h (by rw [hc])
      simp [this]
  · rw [if_neg (by simp [hn])]
    simp [hn]
theorem bigR_len (x : Int) : (bigR x).2.1.length ≤ 16 := by
  unfold bigR
  split
  · rename_i h
    exact (mk_ok h.1 h.2).1
  · simp
theorem bigR_yes {x : Int} (h : (bigR x).2.2 = true) : -pw 16 < x ∧ x < pw 16 := by
  unfold bigR at h
  split at h
  · assumption
  · cases h
theorem okB_mk {x : Int} (h : -pw 16 < x ∧ x < pw 16) : okB (mkN x) (mkL x) = true := (okB_iff _ _).2 (mk_ok h.1 h.2)
end Go.Proofs.Ytdemeoncjcbojaa.Val
end
