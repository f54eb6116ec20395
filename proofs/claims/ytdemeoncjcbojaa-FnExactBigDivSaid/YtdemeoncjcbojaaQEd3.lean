/- What the claim's row needs of the contracts and words below it, and no more. -/
import Derived.Test.YtdemeoncjcbojaaQEd2
import Derived.OpenShut
import Derived.ShutString
import Derived.WalkKit
section
namespace Go.Proofs.Ytdemeoncjcbojaa.Pr
open Go.RowKit Go.Proofs.YtdemeoncjcbojaaW.PrintWords Go.Proofs.YtdemeoncjcbojaaW.PrintLast Go.Proofs.Ytdemeoncjcbojaa.Ext Go.Proofs.YtdemeoncjcbojaaW.PrintMore
attribute [local go_sem] max2_int min2_int max_two min_two max_three min_three max_four min_four
set_option linter.unusedVariables false
set_option linter.unusedSimpArgs false
def spec_l1Fits.l0 : Nat → List Int → List Int → Int → Int → Option (Int)
  | 0, _, _, _, _ => none
  | k + 1, x0, x1, x5, x6 => if (wrap64 (x6 - x5)) > 1 then ((spec_l1MulAbs.f k x1 (([wrap64 (Int.tdiv (wrap64 (x5 + x6)) 2)] : List Int))).bind fun t508 => ((spec_l1CmpAbs.f k t508 x0).bind fun t511 => (if t511 ≤ 0 then (spec_l1Fits.l0 k x0 x1 (wrap64 (Int.tdiv (wrap64 (x5 + x6)) 2)) x6) else (spec_l1Fits.l0 k x0 x1 x5 (wrap64 (Int.tdiv (wrap64 (x5 + x6)) 2)))))) else (some x5)
def spec_l1Fits.f (k : Nat) (l0 : List Int) (l1 : List Int) : Option (Int) := spec_l1Fits.l0 k l0 l1 0 10000
set_option maxHeartbeats 8000000 in
set_option maxRecDepth 100000 in
theorem spec_l1Fits.calls (k : Nat) (A0 : Option Addr) (c0 : Nat) (l0 : List Int) (A1 : Option Addr) (c1 : Nat) (l1 : List Int) (r : Int) (w : World) (hr0 : Kd.C (Kd.int .i64) w A0 l0.length l0) (hc0 : l0.length ≤ c0) (hr1 : Kd.C (Kd.int .i64) w A1 l1.length l1) (hc1 : l1.length ≤ c1) (h : spec_l1Fits.f k l0 l1 = some r) :
    Calls Try.prog 97 #[.slice A0 l0.length c0, .slice A1 l1.length c1] w fun e w' => e = .returned (.int .i64 r) ∧ Below w.heap.size w w' := by
  have HR0 := Aside0.mk hr0
  have HC0 := Aside0.mk hc0
  clear hr0 hc0
  have HR1 := Aside0.mk hr1
  have HC1 := Aside0.mk hc1
  clear hr1 hc1
  have HB := Aside0.mk (Below.refl w.heap.size w)
  have H : (spec_l1Fits.l0 k l0 l1 0 10000) = some r := h
  clear h
  have H' := Aside0.mk H
  clear H
  go_enter Try.func97, Try.ntmps97
  go_wp2
  go_loopg [5, 6] k (fun kq v5 v6 w' => ∃ (x5_1 : Int) (x6_1 : Int), v5 = .int .i64 x5_1 ∧ v6 = .int .i64 x6_1 ∧ Aside0 (spec_l1Fits.l0 kq l0 l1 x5_1 x6_1 = some r) ∧ Aside0 (kq ≤ k) ∧ Aside0 (Below w.heap.size w w'))
  case atStart => exact ⟨(0), (10000), (by first | rfl | (simp; done) | (simp [*]; done)), (by first | rfl | (simp; done) | (simp [*]; done)), H', ⟨Nat.le_refl _⟩, ⟨zb⟩⟩
  case round =>
    clear H'
    try clear c1
    try clear p2
    obtain ⟨x5_1, x6_1, rfl, rfl, HA, HK1, HB⟩ := hrel
    cases gk with
    | zero => exact absurd HA.out (by simp [spec_l1Fits.l0])
    | succ k1 =>
      have H := HA.out
      clear HA
      simp only [spec_l1Fits.l0] at H
      by_cases c3 : (wrap64 (x6_1 - x5_1)) > 1
      · rw [if_pos c3] at H
        have c3b0 : decide (1 < (wrap64 (x6_1 - x5_1))) = true := decide_eq_true c3
        clear c3
        obtain ⟨y505, hy505⟩ : ∃ y_ : List Int, y_ = (([wrap64 (Int.tdiv (wrap64 (x5_1 + x6_1)) 2)] : List Int)) := ⟨_, rfl⟩
        replace H : ((spec_l1MulAbs.f k1 l1 y505).bind fun t508 => ((spec_l1CmpAbs.f k1 t508 l0).bind fun t511 => (if t511 ≤ 0 then (spec_l1Fits.l0 k1 l0 l1 (wrap64 (Int.tdiv (wrap64 (x5_1 + x6_1)) 2)) x6_1) else (spec_l1Fits.l0 k1 l0 l1 x5_1 (wrap64 (Int.tdiv (wrap64 (x5_1 + x6_1)) 2)))))) = some r := by first | (rw [hy505]; with_reducible exact H) | (have H2_ := (Option.bind_some _ _).symm.trans H; rw [hy505]; with_reducible exact H2_) | (have H2_ := (Option.bind_some _ _).symm.trans H; with_reducible exact H2_) | with_reducible exact H | (rw [hy505]; exact H) | exact H
        have Ny505 := Aside0.mk hy505
        clear hy505
        replace H := Option.bind_eq_some_iff.mp H
        obtain ⟨t508, A40, H⟩ := H
        replace H : ((spec_l1CmpAbs.f k1 t508 l0).bind fun t511 => (if t511 ≤ 0 then (spec_l1Fits.l0 k1 l0 l1 (wrap64 (Int.tdiv (wrap64 (x5_1 + x6_1)) 2)) x6_1) else (spec_l1Fits.l0 k1 l0 l1 x5_1 (wrap64 (Int.tdiv (wrap64 (x5_1 + x6_1)) 2))))) = some r := H
        have A4 := Aside0.mk A40
        clear A40
        replace H := Option.bind_eq_some_iff.mp H
        obtain ⟨t511, A50, H⟩ := H
        replace H : (if t511 ≤ 0 then (spec_l1Fits.l0 k1 l0 l1 (wrap64 (Int.tdiv (wrap64 (x5_1 + x6_1)) 2)) x6_1) else (spec_l1Fits.l0 k1 l0 l1 x5_1 (wrap64 (Int.tdiv (wrap64 (x5_1 + x6_1)) 2)))) = some r := H
        have A5 := Aside0.mk A50
        clear A50
        by_cases c6 : t511 ≤ 0
        · rw [if_pos c6] at H
          have c6b0 : decide (t511 ≤ 0) = true := decide_eq_true c6
          clear c6
          have H' := Aside0.mk H
          clear H
          go_wp2_with (first | ((with_reducible refine gate_dst (N := 18) rfl ?_); refine Kd.R_lit (Kd.int .i64) _ 3 ?hg (N := 18) ?hd (xs := ([wrap64 (Int.tdiv (wrap64 (x5_1 + x6_1)) 2)] : List Int)) (inner := [.int .i64 (wrap64 (Int.tdiv (wrap64 (x5_1 + x6_1)) 2))]) (ok := fun _ => True) (okp := fun _ => True) ?hr ?hp (fun _ hk => hk) trivial (Below.refl _ _) (Nat.le_refl _) (by simp) ?_; (case hd => rfl); (case hg => rfl); (case hr => first | (go_simp; done) | (go_simp; rfl)); (case hp => exact (Reps.one (show Kd.M (Kd.int .i64) _ _ _ (wrap64 (Int.tdiv (wrap64 (x5_1 + x6_1)) 2)) [.int .i64 (wrap64 (Int.tdiv (wrap64 (x5_1 + x6_1)) 2))] from rfl) (Reps.none _ _))); intro v506 w7 ho8 hb hg_ hnew_; clear hg_ hnew_; (first | rw [← Ny505.out] at ho8 | (simp only [Int.reduceToNat] at ho8; rw [← Ny505.out] at ho8)); have n0_ := Aside0.mk (Kd.R_lower ho8 (below_size zb)); have n1_ := Aside0.mk (below_step zb hb); clear HB; have HO507 := n0_; have HB := n1_; clear n0_ n1_; clear hb ho8; obtain ⟨Ao9, co9, eo9⟩ := Kd.R_slice HO507.out; subst eo9) | ((with_reducible refine gate_callee (f := 74) rfl ?_); refine goesL_ (some 19) rfl rfl Try.func74 (by kernel_rfl) rfl #[.slice A1 l1.length c1, .slice Ao9 y505.length co9] rfl za ?_; (with_reducible refine (spec_l1MulAbs.calls k1 _ _ l1 _ _ y505 t508 _ ?side1 ?side2 ?side3 ?side4 A4.out).mono ?_); (case side1 => repeat (first | exact (Kd.C_below HR1.out HB.out) | (with_reducible refine Kd.C_alloc ?_ _) | (with_reducible refine Kd.C_drewN ?_ _) | (with_reducible refine Kd.C_drew ?_))); (case side2 => exact HC1.out); (case side3 => repeat (first | exact (Kd.R_reads' HO507.out).2.2 | (with_reducible refine Kd.C_alloc ?_ _) | (with_reducible refine Kd.C_drewN ?_ _) | (with_reducible refine Kd.C_drew ?_))); (case side4 => exact (Kd.R_reads' HO507.out).2.1); rintro e w10 ⟨v509, rfl, ho0, hb⟩; refine ⟨_, rfl, ?_⟩; have n0_ := Aside0.mk (Kd.R_elder' (zR HO507.out) (Kd.R_base ho0) hb); have n1_ := Aside0.mk (Kd.R_lower (Kd.R_new' ho0 (Kd.R_lt (zR HO507.out))) (below_size zb)); have n2_ := Aside0.mk (below_step zb hb); clear HO507; clear HB; have HO507 := n0_; have HO510 := n1_; have HB := n2_; clear n0_ n1_ n2_; (try clear hb); (try clear hb2); (try clear hk); (try clear hi); (try clear ho0); obtain ⟨Ao11, co11, eo11⟩ := Kd.R_slice HO510.out; subst eo11) | ((with_reducible refine gate_callee (f := 89) rfl ?_); refine goesL_ (some 21) rfl rfl Try.func89 (by kernel_rfl) rfl #[.slice Ao11 t508.length co11, .slice A0 l0.length c0] rfl za ?_; (with_reducible refine (spec_l1CmpAbs.calls k1 _ _ t508 _ _ l0 t511 _ ?side1 ?side2 ?side3 ?side4 A5.out).mono ?_); (case side1 => repeat (first | exact (Kd.R_reads' HO510.out).2.2 | (with_reducible refine Kd.C_alloc ?_ _) | (with_reducible refine Kd.C_drewN ?_ _) | (with_reducible refine Kd.C_drew ?_))); (case side2 => exact (Kd.R_reads' HO510.out).2.1); (case side3 => repeat (first | exact (Kd.C_below HR0.out HB.out) | (with_reducible refine Kd.C_alloc ?_ _) | (with_reducible refine Kd.C_drewN ?_ _) | (with_reducible refine Kd.C_drew ?_))); (case side4 => exact HC0.out); rintro e w' ⟨rfl, ⟨nd, rfl⟩⟩; refine ⟨_, rfl, ?_⟩))
          go_roundg k1
          case measure => have := HK1.out; omega
          case rel => exact ⟨(wrap64 (Int.tdiv (wrap64 (x5_1 + x6_1)) 2)), (x6_1), (by first | rfl | (simp; done) | (simp [*]; done)), (by first | rfl | (simp; done) | (simp [*]; done)), H', ⟨by have := HK1.out; omega⟩, ⟨zb⟩⟩
        · rw [if_neg c6] at H
          have c6b0 : decide (t511 ≤ 0) = false := decide_eq_false c6
          clear c6
          have H' := Aside0.mk H
          clear H
          go_wp2_with (first | ((with_reducible refine gate_dst (N := 18) rfl ?_); refine Kd.R_lit (Kd.int .i64) _ 3 ?hg (N := 18) ?hd (xs := ([wrap64 (Int.tdiv (wrap64 (x5_1 + x6_1)) 2)] : List Int)) (inner := [.int .i64 (wrap64 (Int.tdiv (wrap64 (x5_1 + x6_1)) 2))]) (ok := fun _ => True) (okp := fun _ => True) ?hr ?hp (fun _ hk => hk) trivial (Below.refl _ _) (Nat.le_refl _) (by simp) ?_; (case hd => rfl); (case hg => rfl); (case hr => first | (go_simp; done) | (go_simp; rfl)); (case hp => exact (Reps.one (show Kd.M (Kd.int .i64) _ _ _ (wrap64 (Int.tdiv (wrap64 (x5_1 + x6_1)) 2)) [.int .i64 (wrap64 (Int.tdiv (wrap64 (x5_1 + x6_1)) 2))] from rfl) (Reps.none _ _))); intro v506 w12 ho13 hb hg_ hnew_; clear hg_ hnew_; (first | rw [← Ny505.out] at ho13 | (simp only [Int.reduceToNat] at ho13; rw [← Ny505.out] at ho13)); have n0_ := Aside0.mk (Kd.R_lower ho13 (below_size zb)); have n1_ := Aside0.mk (below_step zb hb); clear HB; have HO507 := n0_; have HB := n1_; clear n0_ n1_; clear hb ho13; obtain ⟨Ao14, co14, eo14⟩ := Kd.R_slice HO507.out; subst eo14) | ((with_reducible refine gate_callee (f := 74) rfl ?_); refine goesL_ (some 19) rfl rfl Try.func74 (by kernel_rfl) rfl #[.slice A1 l1.length c1, .slice Ao14 y505.length co14] rfl za ?_; (with_reducible refine (spec_l1MulAbs.calls k1 _ _ l1 _ _ y505 t508 _ ?side1 ?side2 ?side3 ?side4 A4.out).mono ?_); (case side1 => repeat (first | exact (Kd.C_below HR1.out HB.out) | (with_reducible refine Kd.C_alloc ?_ _) | (with_reducible refine Kd.C_drewN ?_ _) | (with_reducible refine Kd.C_drew ?_))); (case side2 => exact HC1.out); (case side3 => repeat (first | exact (Kd.R_reads' HO507.out).2.2 | (with_reducible refine Kd.C_alloc ?_ _) | (with_reducible refine Kd.C_drewN ?_ _) | (with_reducible refine Kd.C_drew ?_))); (case side4 => exact (Kd.R_reads' HO507.out).2.1); rintro e w15 ⟨v509, rfl, ho0, hb⟩; refine ⟨_, rfl, ?_⟩; have n0_ := Aside0.mk (Kd.R_elder' (zR HO507.out) (Kd.R_base ho0) hb); have n1_ := Aside0.mk (Kd.R_lower (Kd.R_new' ho0 (Kd.R_lt (zR HO507.out))) (below_size zb)); have n2_ := Aside0.mk (below_step zb hb); clear HO507; clear HB; have HO507 := n0_; have HO510 := n1_; have HB := n2_; clear n0_ n1_ n2_; (try clear hb); (try clear hb2); (try clear hk); (try clear hi); (try clear ho0); obtain ⟨Ao16, co16, eo16⟩ := Kd.R_slice HO510.out; subst eo16) | ((with_reducible refine gate_callee (f := 89) rfl ?_); refine goesL_ (some 21) rfl rfl Try.func89 (by kernel_rfl) rfl #[.slice Ao16 t508.length co16, .slice A0 l0.length c0] rfl za ?_; (with_reducible refine (spec_l1CmpAbs.calls k1 _ _ t508 _ _ l0 t511 _ ?side1 ?side2 ?side3 ?side4 A5.out).mono ?_); (case side1 => repeat (first | exact (Kd.R_reads' HO510.out).2.2 | (with_reducible refine Kd.C_alloc ?_ _) | (with_reducible refine Kd.C_drewN ?_ _) | (with_reducible refine Kd.C_drew ?_))); (case side2 => exact (Kd.R_reads' HO510.out).2.1); (case side3 => repeat (first | exact (Kd.C_below HR0.out HB.out) | (with_reducible refine Kd.C_alloc ?_ _) | (with_reducible refine Kd.C_drewN ?_ _) | (with_reducible refine Kd.C_drew ?_))); (case side4 => exact HC0.out); rintro e w' ⟨rfl, ⟨nd, rfl⟩⟩; refine ⟨_, rfl, ?_⟩))
          go_roundg k1
          case measure => have := HK1.out; omega
          case rel => exact ⟨(x5_1), (wrap64 (Int.tdiv (wrap64 (x5_1 + x6_1)) 2)), (by first | rfl | (simp; done) | (simp [*]; done)), (by first | rfl | (simp; done) | (simp [*]; done)), H', ⟨by have := HK1.out; omega⟩, ⟨zb⟩⟩
      · rw [if_neg c3] at H
        have c3b0 : decide (1 < (wrap64 (x6_1 - x5_1))) = false := decide_eq_false c3
        clear c3
        obtain rfl := Option.some.inj H
        go_wp2
        go_ret
        exact ⟨by first | rfl | (simp [errW_none, errW_some] <;> rfl) | (simp [*, errW_none, errW_some] <;> rfl), zb⟩
def spec_l1DivAbs.l0 : Nat → List Int → List Int → List Int → List Int → Int → Option (List Int × List Int)
  | 0, _, _, _, _, _ => none
  | k + 1, x0, x1, x6, x7, x8 => if x8 ≥ 0 then (if 0 ≤ x8 then (if x8 < (x0.length : Int) then ((some (([rd x0 x8] : List Int) : List Int)).bind fun y522 => (if y522.length + x7.length < 17592186044416 then ((spec_l1Trim.f k (y522 ++ x7)).bind fun t528 => ((spec_l1Fits.f k t528 x1).bind fun t531 => (if x8 < (x6.length : Int) then ((spec_l1Trim.f k (([t531] : List Int))).bind fun t536 => ((spec_l1MulAbs.f k x1 t536).bind fun t539 => ((spec_l1SubAbs.f k t528 t539).bind fun t542 => (spec_l1DivAbs.l0 k x0 x1 (x6.set (x8 : Int).toNat t531) t542 (wrap64 (x8 - 1)))))) else (none)))) else (none))) else (none)) else (none)) else ((spec_l1Trim.f k x6).bind fun t518 => (some (t518, x7)))
def spec_l1DivAbs.f (k : Nat) (l0 : List Int) (l1 : List Int) : Option (List Int × List Int) := if 0 ≤ (l0.length : Int) then (if ((l0.length : Int) : Int).toNat ≤ 35184372088832 then (spec_l1DivAbs.l0 k l0 l1 (List.replicate ((l0.length : Int) : Int).toNat 0) (([] : List Int)) (wrap64 ((l0.length : Int) - 1))) else (none)) else (none)
set_option maxHeartbeats 8000000 in
set_option maxRecDepth 100000 in
theorem spec_l1DivAbs.calls (k : Nat) (A0 : Option Addr) (c0 : Nat) (l0 : List Int) (A1 : Option Addr) (c1 : Nat) (l1 : List Int) (r1 : List Int) (r2 : List Int) (w : World) (hr0 : Kd.C (Kd.int .i64) w A0 l0.length l0) (hc0 : l0.length ≤ c0) (hr1 : Kd.C (Kd.int .i64) w A1 l1.length l1) (hc1 : l1.length ≤ c1) (h : spec_l1DivAbs.f k l0 l1 = some (r1, r2)) :
    Calls Try.prog 79 #[.slice A0 l0.length c0, .slice A1 l1.length c1] w fun e w' => ∃ v0_ v1_ : Value, e = .returned (.tuple #[v0_, v1_]) ∧ Kd.R (Kd.int .i64) 3 w' w.heap.size (fun k_ => some k_ ≠ (v1_ : Value).ownBlock) v0_ r1 ∧ Kd.R (Kd.int .i64) 3 w' w.heap.size (fun k_ => some k_ ≠ (v0_ : Value).ownBlock) v1_ r2 ∧ Below w.heap.size w w' := by
  have HR0 := Aside0.mk hr0
  have HC0 := Aside0.mk hc0
  clear hr0 hc0
  have HR1 := Aside0.mk hr1
  have HC1 := Aside0.mk hc1
  clear hr1 hc1
  have HB := Aside0.mk (Below.refl w.heap.size w)
  have H : (if 0 ≤ (l0.length : Int) then (if ((l0.length : Int) : Int).toNat ≤ 35184372088832 then (spec_l1DivAbs.l0 k l0 l1 (List.replicate ((l0.length : Int) : Int).toNat 0) (([] : List Int)) (wrap64 ((l0.length : Int) - 1))) else (none)) else (none)) = some (r1, r2) := h
  clear h
  by_cases c3 : 0 ≤ (l0.length : Int)
  · rw [if_pos c3] at H
    have c3b0 := eq_true c3
    have c3b1 : decide (0 ≤ (l0.length : Int)) = true := decide_eq_true c3
    clear c3
    by_cases c4 : ((l0.length : Int) : Int).toNat ≤ 35184372088832
    · rw [if_pos c4] at H
      have c4b0 := eq_true c4
      have c4b1 : decide (((l0.length : Int) : Int).toNat ≤ 35184372088832) = true := decide_eq_true c4
      clear c4
      obtain ⟨y512, hy512⟩ : ∃ y_ : List Int, y_ = (List.replicate ((l0.length : Int) : Int).toNat 0) := ⟨_, rfl⟩
      replace H : (spec_l1DivAbs.l0 k l0 l1 y512 (([] : List Int)) (wrap64 ((l0.length : Int) - 1))) = some (r1, r2) := by first | (rw [hy512]; with_reducible exact H) | (have H2_ := (Option.bind_some _ _).symm.trans H; rw [hy512]; with_reducible exact H2_) | (have H2_ := (Option.bind_some _ _).symm.trans H; with_reducible exact H2_) | with_reducible exact H | (rw [hy512]; exact H) | exact H
      have Ny512 := Aside0.mk hy512
      clear hy512
      obtain ⟨y515, hy515⟩ : ∃ y_ : List Int, y_ = (([] : List Int)) := ⟨_, rfl⟩
      replace H : (spec_l1DivAbs.l0 k l0 l1 y512 y515 (wrap64 ((l0.length : Int) - 1))) = some (r1, r2) := by first | (rw [hy515]; with_reducible exact H) | (have H2_ := (Option.bind_some _ _).symm.trans H; rw [hy515]; with_reducible exact H2_) | (have H2_ := (Option.bind_some _ _).symm.trans H; with_reducible exact H2_) | with_reducible exact H | (rw [hy515]; exact H) | exact H
      have Ny515 := Aside0.mk hy515
      clear hy515
      have H' := Aside0.mk H
      clear H
      go_enter Try.func79, Try.ntmps79
      go_wp2_with (first | ((with_reducible refine gate_dst (N := 12) rfl ?_); refine Kd.R_make (Kd.int .i64) _ 3 rfl (N := 12) rfl 22 _ _ rfl (l0.length : Int) rfl rfl Try.underlying22 (.int .i64 0) 8 info3 rfl (by decide) (by omega) 0 (ok := fun _ => True) (okp := fun _ => True) rfl (fun _ hk => hk) trivial (of_decide_eq_true (by first | (with_reducible assumption) | assumption)) (Nat.le_trans (Nat.mul_le_mul_right _ (of_decide_eq_true (by first | (with_reducible assumption) | assumption) : (l0.length : Int).toNat ≤ 35184372088832)) (by omega)) (Below.refl _ _) (Nat.le_refl _) ?_; intro v513 w5 ho6 hb hg_ hnew_; clear hg_ hnew_; (first | rw [← Ny512.out] at ho6 | (simp only [Int.reduceToNat] at ho6; rw [← Ny512.out] at ho6)); have n0_ := Aside0.mk (Kd.R_lower ho6 (below_size zb)); have n1_ := Aside0.mk (below_step zb hb); clear HB; have HO514 := n0_; have HB := n1_; clear n0_ n1_; clear hb ho6) | ((with_reducible refine gate_dst (N := 13) rfl ?_); refine Kd.R_lit (Kd.int .i64) _ 3 ?hg (N := 13) ?hd (xs := ([] : List Int)) (inner := []) (ok := fun _ => True) (okp := fun _ => True) ?hr ?hp (fun _ hk => hk) trivial (Below.refl _ _) (Nat.le_refl _) (by simp) ?_; (case hd => rfl); (case hg => rfl); (case hr => first | (go_simp; done) | (go_simp; rfl)); (case hp => exact (Reps.none _ _)); intro v516 w7 ho8 hb hg_ hnew_; clear hg_ hnew_; (first | rw [← Ny515.out] at ho8 | (simp only [Int.reduceToNat] at ho8; rw [← Ny515.out] at ho8)); have n0_ := Aside0.mk (Kd.R_elder' (zR HO514.out) (Kd.R_base ho8) hb); have n1_ := Aside0.mk (Kd.R_lower (Kd.R_new' ho8 (Kd.R_lt (zR HO514.out))) (below_size zb)); have n2_ := Aside0.mk (below_step zb hb); clear HO514; clear HB; have HO514 := n0_; have HO517 := n1_; have HB := n2_; clear n0_ n1_ n2_; clear hb ho8))
      go_loopg [7, 8] k (fun kq v7 v8 w' => ∃ (x6_1 : List Int) (x7_1 : List Int) (x8_1 : Int), v8 = .int .i64 x8_1 ∧ Aside0 (spec_l1DivAbs.l0 kq l0 l1 x6_1 x7_1 x8_1 = some (r1, r2)) ∧ Aside0 (kq ≤ k) ∧ Aside0 (Kd.R (Kd.int .i64) 3 w' w.heap.size (fun k_ => some k_ ≠ (v7 : Value).ownBlock) v513 x6_1) ∧ Aside0 (Kd.R (Kd.int .i64) 3 w' w.heap.size (fun k_ => some k_ ≠ (v513 : Value).ownBlock) v7 x7_1) ∧ Aside0 (Below w.heap.size w w'))
      case atStart => exact ⟨(y512), (y515), (wrap64 ((l0.length : Int) - 1)), (by first | rfl | (simp; done) | (simp [*]; done)), H', ⟨Nat.le_refl _⟩, ⟨by (with_reducible repeat (first | apply Kd.R_alloc | apply Kd.R_drewN | apply Kd.R_drew)); exact Kd.R_mono HO514.out (fun _ hk => hk.2)⟩, ⟨by (with_reducible repeat (first | apply Kd.R_alloc | apply Kd.R_drewN | apply Kd.R_drew)); exact Kd.R_mono HO517.out (fun _ hk => hk.2)⟩, ⟨zb⟩⟩
      case round =>
        clear H'
        try clear c1
        try clear p2
        try clear c3
        try clear c3b0
        try clear c3b1
        try clear c4
        try clear c4b0
        try clear c4b1
        try clear p6
        try clear c7
        obtain ⟨x6_1, x7_1, x8_1, rfl, HA, HK1, HO_6, HO_7, HB⟩ := hrel
        cases gk with
        | zero => exact absurd HA.out (by simp [spec_l1DivAbs.l0])
        | succ k1 =>
          have H := HA.out
          clear HA
          simp only [spec_l1DivAbs.l0] at H
          by_cases c9 : x8_1 ≥ 0
          · rw [if_pos c9] at H
            have c9b0 : decide (0 ≤ x8_1) = true := decide_eq_true c9
            clear c9
            by_cases c10 : 0 ≤ x8_1
            · rw [if_pos c10] at H
              have c10b0 : decide (0 ≤ x8_1) = true := decide_eq_true c10
              clear c10
              by_cases c11 : x8_1 < (l0.length : Int)
              · rw [if_pos c11] at H
                have c11b0 : decide (x8_1 < (l0.length : Int)) = true := decide_eq_true c11
                clear c11
                obtain ⟨y522, hy522⟩ : ∃ y_ : List Int, y_ = (([rd l0 x8_1] : List Int)) := ⟨_, rfl⟩
                replace H : (if y522.length + x7_1.length < 17592186044416 then ((spec_l1Trim.f k1 (y522 ++ x7_1)).bind fun t528 => ((spec_l1Fits.f k1 t528 l1).bind fun t531 => (if x8_1 < (x6_1.length : Int) then ((spec_l1Trim.f k1 (([t531] : List Int))).bind fun t536 => ((spec_l1MulAbs.f k1 l1 t536).bind fun t539 => ((spec_l1SubAbs.f k1 t528 t539).bind fun t542 => (spec_l1DivAbs.l0 k1 l0 l1 (x6_1.set (x8_1 : Int).toNat t531) t542 (wrap64 (x8_1 - 1)))))) else (none)))) else (none)) = some (r1, r2) := by first | (rw [hy522]; with_reducible exact H) | (have H2_ := (Option.bind_some _ _).symm.trans H; rw [hy522]; with_reducible exact H2_) | (have H2_ := (Option.bind_some _ _).symm.trans H; with_reducible exact H2_) | with_reducible exact H | (rw [hy522]; exact H) | exact H
                have Ny522 := Aside0.mk hy522
                clear hy522
                by_cases c12 : y522.length + x7_1.length < 17592186044416
                · rw [if_pos c12] at H
                  have LMc12 := Aside0.mk c12
                  clear c12
                  obtain ⟨y525, hy525⟩ : ∃ y_ : List Int, y_ = (y522 ++ x7_1) := ⟨_, rfl⟩
                  replace H : ((spec_l1Trim.f k1 y525).bind fun t528 => ((spec_l1Fits.f k1 t528 l1).bind fun t531 => (if x8_1 < (x6_1.length : Int) then ((spec_l1Trim.f k1 (([t531] : List Int))).bind fun t536 => ((spec_l1MulAbs.f k1 l1 t536).bind fun t539 => ((spec_l1SubAbs.f k1 t528 t539).bind fun t542 => (spec_l1DivAbs.l0 k1 l0 l1 (x6_1.set (x8_1 : Int).toNat t531) t542 (wrap64 (x8_1 - 1)))))) else (none)))) = some (r1, r2) := by first | (rw [hy525]; with_reducible exact H) | (have H2_ := (Option.bind_some _ _).symm.trans H; rw [hy525]; with_reducible exact H2_) | (have H2_ := (Option.bind_some _ _).symm.trans H; with_reducible exact H2_) | with_reducible exact H | (rw [hy525]; exact H) | exact H
                  have Ny525 := Aside0.mk hy525
                  clear hy525
                  replace H := Option.bind_eq_some_iff.mp H
                  obtain ⟨t528, A130, H⟩ := H
                  replace H : ((spec_l1Fits.f k1 t528 l1).bind fun t531 => (if x8_1 < (x6_1.length : Int) then ((spec_l1Trim.f k1 (([t531] : List Int))).bind fun t536 => ((spec_l1MulAbs.f k1 l1 t536).bind fun t539 => ((spec_l1SubAbs.f k1 t528 t539).bind fun t542 => (spec_l1DivAbs.l0 k1 l0 l1 (x6_1.set (x8_1 : Int).toNat t531) t542 (wrap64 (x8_1 - 1)))))) else (none))) = some (r1, r2) := H
                  have A13 := Aside0.mk A130
                  clear A130
                  replace H := Option.bind_eq_some_iff.mp H
                  obtain ⟨t531, A140, H⟩ := H
                  replace H : (if x8_1 < (x6_1.length : Int) then ((spec_l1Trim.f k1 (([t531] : List Int))).bind fun t536 => ((spec_l1MulAbs.f k1 l1 t536).bind fun t539 => ((spec_l1SubAbs.f k1 t528 t539).bind fun t542 => (spec_l1DivAbs.l0 k1 l0 l1 (x6_1.set (x8_1 : Int).toNat t531) t542 (wrap64 (x8_1 - 1)))))) else (none)) = some (r1, r2) := H
                  have A14 := Aside0.mk A140
                  clear A140
                  by_cases c15 : x8_1 < (x6_1.length : Int)
                  · rw [if_pos c15] at H
                    have c15b0 : decide (x8_1 < (x6_1.length : Int)) = true := decide_eq_true c15
                    clear c15
                    obtain ⟨y532, hy532⟩ : ∃ y_ : List Int, y_ = (x6_1.set (x8_1 : Int).toNat t531) := ⟨_, rfl⟩
                    replace H : ((spec_l1Trim.f k1 (([t531] : List Int))).bind fun t536 => ((spec_l1MulAbs.f k1 l1 t536).bind fun t539 => ((spec_l1SubAbs.f k1 t528 t539).bind fun t542 => (spec_l1DivAbs.l0 k1 l0 l1 y532 t542 (wrap64 (x8_1 - 1)))))) = some (r1, r2) := by first | (rw [hy532]; with_reducible exact H) | (have H2_ := (Option.bind_some _ _).symm.trans H; rw [hy532]; with_reducible exact H2_) | (have H2_ := (Option.bind_some _ _).symm.trans H; with_reducible exact H2_) | with_reducible exact H | (rw [hy532]; exact H) | exact H
                    have Ny532 := Aside0.mk hy532
                    clear hy532
                    obtain ⟨y533, hy533⟩ : ∃ y_ : List Int, y_ = (([t531] : List Int)) := ⟨_, rfl⟩
                    replace H : ((spec_l1Trim.f k1 y533).bind fun t536 => ((spec_l1MulAbs.f k1 l1 t536).bind fun t539 => ((spec_l1SubAbs.f k1 t528 t539).bind fun t542 => (spec_l1DivAbs.l0 k1 l0 l1 y532 t542 (wrap64 (x8_1 - 1)))))) = some (r1, r2) := by first | (rw [hy533]; with_reducible exact H) | (have H2_ := (Option.bind_some _ _).symm.trans H; rw [hy533]; with_reducible exact H2_) | (have H2_ := (Option.bind_some _ _).symm.trans H; with_reducible exact H2_) | with_reducible exact H | (rw [hy533]; exact H) | exact H
                    have Ny533 := Aside0.mk hy533
                    clear hy533
                    replace H := Option.bind_eq_some_iff.mp H
                    obtain ⟨t536, A170, H⟩ := H
                    replace H : ((spec_l1MulAbs.f k1 l1 t536).bind fun t539 => ((spec_l1SubAbs.f k1 t528 t539).bind fun t542 => (spec_l1DivAbs.l0 k1 l0 l1 y532 t542 (wrap64 (x8_1 - 1))))) = some (r1, r2) := H
                    have A17 := Aside0.mk A170
                    clear A170
                    replace H := Option.bind_eq_some_iff.mp H
                    obtain ⟨t539, A180, H⟩ := H
                    replace H : ((spec_l1SubAbs.f k1 t528 t539).bind fun t542 => (spec_l1DivAbs.l0 k1 l0 l1 y532 t542 (wrap64 (x8_1 - 1)))) = some (r1, r2) := H
                    have A18 := Aside0.mk A180
                    clear A180
                    replace H := Option.bind_eq_some_iff.mp H
                    obtain ⟨t542, A190, H⟩ := H
                    replace H : (spec_l1DivAbs.l0 k1 l0 l1 y532 t542 (wrap64 (x8_1 - 1))) = some (r1, r2) := H
                    have A19 := Aside0.mk A190
                    clear A190
                    have H' := Aside0.mk H
                    clear H
                    have p521 : 0 ≤ (x8_1 : Int) := of_decide_eq_true (by first | (with_reducible assumption) | assumption)
                    have q521 : x8_1 < (l0.length : Int) := of_decide_eq_true (by first | (with_reducible assumption) | assumption)
                    obtain ⟨ad521, e521, hx521_0⟩ := Kd.at_int HR0.out x8_1 p521 q521
                    cases e521
                    replace hx521_0 := (HB.out.cell (World.block_lt_of_cell? w _ hx521_0)).trans hx521_0
                    replace p521 := eq_true p521
                    replace q521 := eq_true q521
                    go_wp2_with (first | ((with_reducible refine gate_dst (N := 25) rfl ?_); refine Kd.R_lit (Kd.int .i64) _ 3 ?hg (N := 25) ?hd (xs := ([rd l0 x8_1] : List Int)) (inner := [.int .i64 (rd l0 x8_1)]) (ok := fun _ => True) (okp := fun _ => True) ?hr ?hp (fun _ hk => hk) trivial (Below.refl _ _) (Nat.le_refl _) (by simp) ?_; (case hd => rfl); (case hg => rfl); (case hr => first | (go_simp; done) | (go_simp; rfl)); (case hp => exact (Reps.one (show Kd.M (Kd.int .i64) _ _ _ (rd l0 x8_1) [.int .i64 (rd l0 x8_1)] from rfl) (Reps.none _ _))); intro v523 w20 ho21 hb hg_ hnew_; clear hg_ hnew_; (first | rw [← Ny522.out] at ho21 | (simp only [Int.reduceToNat] at ho21; rw [← Ny522.out] at ho21)); have n0_ := Aside0.mk (Kd.R_elder' (zR HO_6.out) (Kd.R_base ho21) hb); have n1_ := Aside0.mk (Kd.R_elder' (zR HO_7.out) (Kd.R_base ho21) hb); have n2_ := Aside0.mk (Kd.R_lower (Kd.R_new' (Kd.R_new' ho21 (Kd.R_lt (zR HO_6.out))) (Kd.R_lt (zR HO_7.out))) (below_size zb)); have n3_ := Aside0.mk (below_step zb hb); clear HO_6; clear HO_7; clear HB; have HO_6 := n0_; have HO_7 := n1_; have HO524 := n2_; have HB := n3_; clear n0_ n1_ n2_ n3_; clear hb ho21; obtain ⟨Ao23, co23, eo23⟩ := Kd.R_slice HO_7.out; subst eo23) | ((with_reducible refine gate_builtin (b := .append) (xs := #[.tmp 25, .tmp 26]) rfl ?_); at_builtin; refine Kd.R_append_rows (Kd.int .i64) (w0 := w) w.heap.size rfl (.tmp 25) (.tmp 26) 22 3 (.int .i64 0) 8 rfl Try.underlying22 info3 rfl (by decide) (by omega) v523 y522 x7_1 _ _ _ (fun k_ => some k_ ≠ (v513 : Value).ownBlock ∧ some k_ ≠ (.slice Ao23 x7_1.length co23 : Value).ownBlock) (fun _ => False) rfl rfl ?aO ?aR (fun _ _ h => h) (fun _ h => h.elim) ?aF ?aB ?aS ?aL ?_; (case aR => repeat (first | exact (Kd.R_reads' HO_7.out).2.2 | (with_reducible refine Kd.C_alloc ?_ _) | (with_reducible refine Kd.C_drewN ?_ _) | (with_reducible refine Kd.C_drew ?_))); (case aB => exact zb); (case aF => exact (fun k_ hk => ⟨Kd.fresh' (Kd.R_lt (zR HO_6.out)) k_ hk, Kd.fresh' (Kd.R_lt (zR HO_7.out)) k_ hk⟩)); (case aO => exact (by (with_reducible repeat (first | apply Kd.R_alloc | apply Kd.R_drewN | apply Kd.R_drew)); exact Kd.R_mono HO524.out (fun _ hk => ⟨hk.1.2, hk.2⟩))); (case aS => exact (below_size zb)); (case aL => have := LMc12.out; omega); intro v526 w22 ho hb hg hat; rw [← Ny525.out] at ho; have n0_ := Aside0.mk (Kd.R_after (ok := (fun k_ => some k_ ≠ (.slice Ao23 x7_1.length co23 : Value).ownBlock)) (zR HO_6.out) hg hat); have n1_ := Aside0.mk (Kd.R_after (ok := (fun k_ => some k_ ≠ (v513 : Value).ownBlock)) (zR HO_7.out) hg hat); have n2_ := Aside0.mk (hb); have n3_ := Aside0.mk (ho); clear HO_6; clear HO_7; clear HB; clear HO524; have HO_6 := n0_; have HO_7 := n1_; have HB := n2_; have HO527 := n3_; clear n0_ n1_ n2_ n3_; clear ho hb hg hat; obtain ⟨Ao24, co24, eo24⟩ := Kd.R_slice HO527.out; subst eo24) | ((with_reducible refine gate_callee (f := 84) rfl ?_); refine goesL_ (some 28) rfl rfl Try.func84 (by kernel_rfl) rfl #[.slice Ao24 y525.length co24] rfl za ?_; (with_reducible refine (spec_l1Trim.calls k1 _ _ y525 t528 _ ?side1 ?side2 A13.out).mono ?_); (case side1 => repeat (first | exact (Kd.R_reads' HO527.out).2.2 | (with_reducible refine Kd.C_alloc ?_ _) | (with_reducible refine Kd.C_drewN ?_ _) | (with_reducible refine Kd.C_drew ?_))); (case side2 => exact (Kd.R_reads' HO527.out).2.1); rintro e w25 ⟨v529, rfl, ho0, hb⟩; refine ⟨_, rfl, ?_⟩; have n0_ := Aside0.mk (Kd.R_elder' (zR HO_6.out) (Kd.R_base ho0) hb); have n1_ := Aside0.mk (Kd.R_elder' (zR HO_7.out) (Kd.R_base ho0) hb); have n2_ := Aside0.mk (Kd.R_elder' (zR HO527.out) (Kd.R_base ho0) hb); have n3_ := Aside0.mk (Kd.R_lower (Kd.R_new' (Kd.R_new' (Kd.R_new' ho0 (Kd.R_lt (zR HO_6.out))) (Kd.R_lt (zR HO_7.out))) (Kd.R_lt (zR HO527.out))) (below_size zb)); have n4_ := Aside0.mk (below_step zb hb); clear HO_6; clear HO_7; clear HO527; clear HB; have HO_6 := n0_; have HO_7 := n1_; have HO527 := n2_; have HO530 := n3_; have HB := n4_; clear n0_ n1_ n2_ n3_ n4_; (try clear hb); (try clear hb2); (try clear hk); (try clear hi); (try clear ho0); obtain ⟨Ao26, co26, eo26⟩ := Kd.R_slice HO530.out; subst eo26) | ((with_reducible refine gate_callee (f := 97) rfl ?_); refine goesL_ (some 31) rfl rfl Try.func97 (by kernel_rfl) rfl #[.slice Ao26 t528.length co26, .slice A1 l1.length c1] rfl za ?_; (with_reducible refine (spec_l1Fits.calls k1 _ _ t528 _ _ l1 t531 _ ?side1 ?side2 ?side3 ?side4 A14.out).mono ?_); (case side1 => repeat (first | exact (Kd.R_reads' HO530.out).2.2 | (with_reducible refine Kd.C_alloc ?_ _) | (with_reducible refine Kd.C_drewN ?_ _) | (with_reducible refine Kd.C_drew ?_))); (case side2 => exact (Kd.R_reads' HO530.out).2.1); (case side3 => repeat (first | exact (Kd.C_below HR1.out HB.out) | (with_reducible refine Kd.C_alloc ?_ _) | (with_reducible refine Kd.C_drewN ?_ _) | (with_reducible refine Kd.C_drew ?_))); (case side4 => exact HC1.out); rintro e w27 ⟨rfl, hb⟩; refine ⟨_, rfl, ?_⟩; have n0_ := Aside0.mk (Kd.R_below (zR HO_6.out) hb); have n1_ := Aside0.mk (Kd.R_below (zR HO_7.out) hb); have n2_ := Aside0.mk (Kd.R_below (zR HO527.out) hb); have n3_ := Aside0.mk (Kd.R_below (zR HO530.out) hb); have n4_ := Aside0.mk (below_step zb hb); clear HO_6; clear HO_7; clear HO527; clear HO530; clear HB; have HO_6 := n0_; have HO_7 := n1_; have HO527 := n2_; have HO530 := n3_; have HB := n4_; clear n0_ n1_ n2_ n3_ n4_; (try clear hb); (try clear hb2); (try clear hk); (try clear hi); have p16 : 0 ≤ (x8_1 : Int) := of_decide_eq_true (by first | (with_reducible assumption) | assumption); have q16 : (x8_1 : Int) < ((x6_1.length : Int) : Int) := of_decide_eq_true (by first | (with_reducible assumption) | assumption); obtain ⟨go16, co16, eo16, gb16, gl16, cl16, HG16⟩ := Kd.R_form HO_6.out (by omega); (first | cases eo16 | (injection eo16 with ea_ en_ ec_; (first | subst ea_ | (injection ea_ with ea_; subst ea_)); subst ec_; clear en_)); have GB16 := Aside0.mk gb16; have GG16 := Aside0.mk HG16; clear gb16 gl16 HG16; obtain ⟨hx16_0, hf16_0⟩ := Kd.R_celln 0 HO_6.out (x8_1 : Int) p16 q16; replace p16 := eq_true p16; replace q16 := eq_true q16; have n_ := Aside0.mk (Kd.R_mono (ok' := (fun k_ => some k_ ≠ (.slice Ao23 x7_1.length co23 : Value).ownBlock ∧ some k_ ≠ (.slice Ao24 y525.length co24 : Value).ownBlock ∧ some k_ ≠ (.slice Ao26 t528.length co26 : Value).ownBlock)) HO_6.out (fun k_ hk => ⟨hk.1.1, ⟨hk.1.2, hk.2⟩⟩)); clear HO_6; have HO_6 := n_; clear n_; obtain ⟨hy28_, hz28_⟩ := Kd.R_celln 0 HO_6.out (x8_1 : Int) (of_decide_eq_true (by first | (with_reducible assumption) | assumption)) (of_decide_eq_true (by first | (with_reducible assumption) | assumption)); have HP28 := Kd.R_putg HO_6.out (x8_1 : Int) t531) | ((with_reducible refine gate_store (t := 3) (p := 35) rfl ?_); refine store_event (t := 3) (p := 35) (v := ?vo_w29) (w1 := (w27.setCell ⟨go16, (x8_1 : Int).toNat, none⟩ (.int .i64 t531))) ?hg ?ho ?hn ?hr ?_; (case ho => rfl); (case hg => rfl); (case hn => rfl); (case hr => first | (go_simp; done) | (go_simp; rfl)); intro w29 hw; have hg : w27.grownBy w29 (some go16) := (by rw [hw]; exact HP28.2); have hp_ : Kd.R (Kd.int .i64) 3 w29 w.heap.size (fun k_ => some k_ ≠ (.slice Ao23 x7_1.length co23 : Value).ownBlock ∧ some k_ ≠ (.slice Ao24 y525.length co24 : Value).ownBlock ∧ some k_ ≠ (.slice Ao26 t528.length co26 : Value).ownBlock) (.slice (some ⟨go16, 0, none⟩) x6_1.length co16) y532 := (by rw [hw, Ny532.out]; exact HP28.1); clear HP28; have n0_ := Aside0.mk (hp_); have n1_ := Aside0.mk (Kd.R_after (v := (.slice (some ⟨go16, 0, none⟩) x6_1.length co16)) (v1 := (.slice (some ⟨go16, 0, none⟩) x6_1.length co16)) (ok := (fun k_ => some k_ ≠ (.slice Ao24 y525.length co24 : Value).ownBlock ∧ some k_ ≠ (.slice Ao26 t528.length co26 : Value).ownBlock)) (by (with_reducible repeat (first | apply Kd.R_alloc | apply Kd.R_drewN | apply Kd.R_drew)); exact Kd.R_mono HO_7.out (fun _ hk => ⟨⟨hk.1.2, hk.2⟩, hk.1.1⟩)) hg (.inl rfl)); have n2_ := Aside0.mk (Kd.R_after (v := (.slice (some ⟨go16, 0, none⟩) x6_1.length co16)) (v1 := (.slice (some ⟨go16, 0, none⟩) x6_1.length co16)) (ok := (fun k_ => some k_ ≠ (.slice Ao23 x7_1.length co23 : Value).ownBlock ∧ some k_ ≠ (.slice Ao26 t528.length co26 : Value).ownBlock)) (by (with_reducible repeat (first | apply Kd.R_alloc | apply Kd.R_drewN | apply Kd.R_drew)); exact Kd.R_mono HO527.out (fun _ hk => ⟨⟨hk.1.2, hk.2⟩, hk.1.1⟩)) hg (.inl rfl)); have n3_ := Aside0.mk (Kd.R_after (v := (.slice (some ⟨go16, 0, none⟩) x6_1.length co16)) (v1 := (.slice (some ⟨go16, 0, none⟩) x6_1.length co16)) (ok := (fun k_ => some k_ ≠ (.slice Ao23 x7_1.length co23 : Value).ownBlock ∧ some k_ ≠ (.slice Ao24 y525.length co24 : Value).ownBlock)) (by (with_reducible repeat (first | apply Kd.R_alloc | apply Kd.R_drewN | apply Kd.R_drew)); exact Kd.R_mono HO530.out (fun _ hk => ⟨⟨hk.1.2, hk.2⟩, hk.1.1.2⟩)) hg (.inl rfl)); have n4_ := Aside0.mk ((by rw [hw]; exact below_set (HB.out) GB16.out : Below w.heap.size w w29)); clear HO_6; clear HO_7; clear HO527; clear HO530; clear HB; have HO_6 := n0_; have HO_7 := n1_; have HO527 := n2_; have HO530 := n3_; have HB := n4_; clear n0_ n1_ n2_ n3_ n4_; clear hg hw hp_) | ((with_reducible refine gate_dst (N := 39) rfl ?_); refine Kd.R_lit (Kd.int .i64) _ 3 ?hg (N := 39) ?hd (xs := ([t531] : List Int)) (inner := [.int .i64 t531]) (ok := fun _ => True) (okp := fun _ => True) ?hr ?hp (fun _ hk => hk) trivial (Below.refl _ _) (Nat.le_refl _) (by simp) ?_; (case hd => rfl); (case hg => rfl); (case hr => first | (go_simp; done) | (go_simp; rfl)); (case hp => exact (Reps.one (show Kd.M (Kd.int .i64) _ _ _ t531 [.int .i64 t531] from rfl) (Reps.none _ _))); intro v534 w30 ho31 hb hg_ hnew_; clear hg_ hnew_; (first | rw [← Ny533.out] at ho31 | (simp only [Int.reduceToNat] at ho31; rw [← Ny533.out] at ho31)); have n0_ := Aside0.mk (Kd.R_elder' (zR HO_6.out) (Kd.R_base ho31) hb); have n1_ := Aside0.mk (Kd.R_elder' (zR HO_7.out) (Kd.R_base ho31) hb); have n2_ := Aside0.mk (Kd.R_elder' (zR HO527.out) (Kd.R_base ho31) hb); have n3_ := Aside0.mk (Kd.R_elder' (zR HO530.out) (Kd.R_base ho31) hb); have n4_ := Aside0.mk (Kd.R_lower (Kd.R_new' (Kd.R_new' (Kd.R_new' (Kd.R_new' ho31 (Kd.R_lt (zR HO_6.out))) (Kd.R_lt (zR HO_7.out))) (Kd.R_lt (zR HO527.out))) (Kd.R_lt (zR HO530.out))) (below_size zb)); have n5_ := Aside0.mk (below_step zb hb); clear HO_6; clear HO_7; clear HO527; clear HO530; clear HB; have HO_6 := n0_; have HO_7 := n1_; have HO527 := n2_; have HO530 := n3_; have HO535 := n4_; have HB := n5_; clear n0_ n1_ n2_ n3_ n4_ n5_; clear hb ho31; obtain ⟨Ao32, co32, eo32⟩ := Kd.R_slice HO535.out; subst eo32) | ((with_reducible refine gate_callee (f := 84) rfl ?_); refine goesL_ (some 40) rfl rfl Try.func84 (by kernel_rfl) rfl #[.slice Ao32 y533.length co32] rfl za ?_; (with_reducible refine (spec_l1Trim.calls k1 _ _ y533 t536 _ ?side1 ?side2 A17.out).mono ?_); (case side1 => repeat (first | exact (Kd.R_reads' HO535.out).2.2 | (with_reducible refine Kd.C_alloc ?_ _) | (with_reducible refine Kd.C_drewN ?_ _) | (with_reducible refine Kd.C_drew ?_))); (case side2 => exact (Kd.R_reads' HO535.out).2.1); rintro e w33 ⟨v537, rfl, ho0, hb⟩; refine ⟨_, rfl, ?_⟩; have n0_ := Aside0.mk (Kd.R_elder' (zR HO_6.out) (Kd.R_base ho0) hb); have n1_ := Aside0.mk (Kd.R_elder' (zR HO_7.out) (Kd.R_base ho0) hb); have n2_ := Aside0.mk (Kd.R_elder' (zR HO527.out) (Kd.R_base ho0) hb); have n3_ := Aside0.mk (Kd.R_elder' (zR HO530.out) (Kd.R_base ho0) hb); have n4_ := Aside0.mk (Kd.R_elder' (zR HO535.out) (Kd.R_base ho0) hb); have n5_ := Aside0.mk (Kd.R_lower (Kd.R_new' (Kd.R_new' (Kd.R_new' (Kd.R_new' (Kd.R_new' ho0 (Kd.R_lt (zR HO_6.out))) (Kd.R_lt (zR HO_7.out))) (Kd.R_lt (zR HO527.out))) (Kd.R_lt (zR HO530.out))) (Kd.R_lt (zR HO535.out))) (below_size zb)); have n6_ := Aside0.mk (below_step zb hb); clear HO_6; clear HO_7; clear HO527; clear HO530; clear HO535; clear HB; have HO_6 := n0_; have HO_7 := n1_; have HO527 := n2_; have HO530 := n3_; have HO535 := n4_; have HO538 := n5_; have HB := n6_; clear n0_ n1_ n2_ n3_ n4_ n5_ n6_; (try clear hb); (try clear hb2); (try clear hk); (try clear hi); (try clear ho0); obtain ⟨Ao34, co34, eo34⟩ := Kd.R_slice HO538.out; subst eo34) | ((with_reducible refine gate_callee (f := 74) rfl ?_); refine goesL_ (some 41) rfl rfl Try.func74 (by kernel_rfl) rfl #[.slice A1 l1.length c1, .slice Ao34 t536.length co34] rfl za ?_; (with_reducible refine (spec_l1MulAbs.calls k1 _ _ l1 _ _ t536 t539 _ ?side1 ?side2 ?side3 ?side4 A18.out).mono ?_); (case side1 => repeat (first | exact (Kd.C_below HR1.out HB.out) | (with_reducible refine Kd.C_alloc ?_ _) | (with_reducible refine Kd.C_drewN ?_ _) | (with_reducible refine Kd.C_drew ?_))); (case side2 => exact HC1.out); (case side3 => repeat (first | exact (Kd.R_reads' HO538.out).2.2 | (with_reducible refine Kd.C_alloc ?_ _) | (with_reducible refine Kd.C_drewN ?_ _) | (with_reducible refine Kd.C_drew ?_))); (case side4 => exact (Kd.R_reads' HO538.out).2.1); rintro e w35 ⟨v540, rfl, ho0, hb⟩; refine ⟨_, rfl, ?_⟩; have n0_ := Aside0.mk (Kd.R_elder' (zR HO_6.out) (Kd.R_base ho0) hb); have n1_ := Aside0.mk (Kd.R_elder' (zR HO_7.out) (Kd.R_base ho0) hb); have n2_ := Aside0.mk (Kd.R_elder' (zR HO527.out) (Kd.R_base ho0) hb); have n3_ := Aside0.mk (Kd.R_elder' (zR HO530.out) (Kd.R_base ho0) hb); have n4_ := Aside0.mk (Kd.R_elder' (zR HO535.out) (Kd.R_base ho0) hb); have n5_ := Aside0.mk (Kd.R_elder' (zR HO538.out) (Kd.R_base ho0) hb); have n6_ := Aside0.mk (Kd.R_lower (Kd.R_new' (Kd.R_new' (Kd.R_new' (Kd.R_new' (Kd.R_new' (Kd.R_new' ho0 (Kd.R_lt (zR HO_6.out))) (Kd.R_lt (zR HO_7.out))) (Kd.R_lt (zR HO527.out))) (Kd.R_lt (zR HO530.out))) (Kd.R_lt (zR HO535.out))) (Kd.R_lt (zR HO538.out))) (below_size zb)); have n7_ := Aside0.mk (below_step zb hb); clear HO_6; clear HO_7; clear HO527; clear HO530; clear HO535; clear HO538; clear HB; have HO_6 := n0_; have HO_7 := n1_; have HO527 := n2_; have HO530 := n3_; have HO535 := n4_; have HO538 := n5_; have HO541 := n6_; have HB := n7_; clear n0_ n1_ n2_ n3_ n4_ n5_ n6_ n7_; (try clear hb); (try clear hb2); (try clear hk); (try clear hi); (try clear ho0); obtain ⟨Ao36, co36, eo36⟩ := Kd.R_slice HO541.out; subst eo36) | ((with_reducible refine gate_callee (f := 95) rfl ?_); refine goesL_ (some 42) rfl rfl Try.func95 (by kernel_rfl) rfl #[.slice Ao26 t528.length co26, .slice Ao36 t539.length co36] rfl za ?_; (with_reducible refine (spec_l1SubAbs.calls k1 _ _ t528 _ _ t539 t542 _ ?side1 ?side2 ?side3 ?side4 A19.out).mono ?_); (case side1 => repeat (first | exact (Kd.R_reads' HO530.out).2.2 | (with_reducible refine Kd.C_alloc ?_ _) | (with_reducible refine Kd.C_drewN ?_ _) | (with_reducible refine Kd.C_drew ?_))); (case side2 => exact (Kd.R_reads' HO530.out).2.1); (case side3 => repeat (first | exact (Kd.R_reads' HO541.out).2.2 | (with_reducible refine Kd.C_alloc ?_ _) | (with_reducible refine Kd.C_drewN ?_ _) | (with_reducible refine Kd.C_drew ?_))); (case side4 => exact (Kd.R_reads' HO541.out).2.1); rintro e w37 ⟨v543, rfl, ho0, hb⟩; refine ⟨_, rfl, ?_⟩; have n0_ := Aside0.mk (Kd.R_elder' (zR HO_6.out) (Kd.R_base ho0) hb); have n1_ := Aside0.mk (Kd.R_elder' (zR HO_7.out) (Kd.R_base ho0) hb); have n2_ := Aside0.mk (Kd.R_elder' (zR HO527.out) (Kd.R_base ho0) hb); have n3_ := Aside0.mk (Kd.R_elder' (zR HO530.out) (Kd.R_base ho0) hb); have n4_ := Aside0.mk (Kd.R_elder' (zR HO535.out) (Kd.R_base ho0) hb); have n5_ := Aside0.mk (Kd.R_elder' (zR HO538.out) (Kd.R_base ho0) hb); have n6_ := Aside0.mk (Kd.R_elder' (zR HO541.out) (Kd.R_base ho0) hb); have n7_ := Aside0.mk (Kd.R_lower (Kd.R_new' (Kd.R_new' (Kd.R_new' (Kd.R_new' (Kd.R_new' (Kd.R_new' (Kd.R_new' ho0 (Kd.R_lt (zR HO_6.out))) (Kd.R_lt (zR HO_7.out))) (Kd.R_lt (zR HO527.out))) (Kd.R_lt (zR HO530.out))) (Kd.R_lt (zR HO535.out))) (Kd.R_lt (zR HO538.out))) (Kd.R_lt (zR HO541.out))) (below_size zb)); have n8_ := Aside0.mk (below_step zb hb); clear HO_6; clear HO_7; clear HO527; clear HO530; clear HO535; clear HO538; clear HO541; clear HB; have HO_6 := n0_; have HO_7 := n1_; have HO527 := n2_; have HO530 := n3_; have HO535 := n4_; have HO538 := n5_; have HO541 := n6_; have HO544 := n7_; have HB := n8_; clear n0_ n1_ n2_ n3_ n4_ n5_ n6_ n7_ n8_; (try clear hb); (try clear hb2); (try clear hk); (try clear hi); (try clear ho0)))
                    go_roundg k1
                    case measure => have := HK1.out; omega
                    case rel => exact ⟨(y532), (t542), (wrap64 (x8_1 - 1)), (by first | rfl | (simp; done) | (simp [*]; done)), H', ⟨by have := HK1.out; omega⟩, ⟨by (with_reducible repeat (first | apply Kd.R_alloc | apply Kd.R_drewN | apply Kd.R_drew)); exact Kd.R_mono HO_6.out (fun _ hk => hk.2)⟩, ⟨by (with_reducible repeat (first | apply Kd.R_alloc | apply Kd.R_drewN | apply Kd.R_drew)); exact Kd.R_mono HO544.out (fun _ hk => hk.1.1.1.1.1.1.2)⟩, ⟨zb⟩⟩
                  · rw [if_neg c15] at H
                    exact absurd H (by simp)
                · rw [if_neg c12] at H
                  exact absurd H (by simp)
              · rw [if_neg c11] at H
                exact absurd H (by simp)
            · rw [if_neg c10] at H
              exact absurd H (by simp)
          · rw [if_neg c9] at H
            have c9b0 : decide (0 ≤ x8_1) = false := decide_eq_false c9
            clear c9
            replace H := Option.bind_eq_some_iff.mp H
            obtain ⟨t518, A380, H⟩ := H
            replace H : (some (t518, x7_1)) = some (r1, r2) := H
            have A38 := Aside0.mk A380
            clear A380
            simp only [Option.some.injEq, Prod.mk.injEq] at H
            obtain ⟨rfl, rfl⟩ := H
            obtain ⟨Ao39, co39, eo39⟩ := Kd.R_slice HO_6.out
            subst eo39
            go_wp2_with (first | ((with_reducible refine gate_callee (f := 84) rfl ?_); refine goesL_ (some 44) rfl rfl Try.func84 (by kernel_rfl) rfl #[.slice Ao39 x6_1.length co39] rfl za ?_; (with_reducible refine (spec_l1Trim.calls k1 _ _ x6_1 t518 _ ?side1 ?side2 A38.out).mono ?_); (case side1 => repeat (first | exact (Kd.R_reads' HO_6.out).2.2 | (with_reducible refine Kd.C_alloc ?_ _) | (with_reducible refine Kd.C_drewN ?_ _) | (with_reducible refine Kd.C_drew ?_))); (case side2 => exact (Kd.R_reads' HO_6.out).2.1); rintro e w40 ⟨v519, rfl, ho0, hb⟩; refine ⟨_, rfl, ?_⟩; have n0_ := Aside0.mk (Kd.R_elder' (zR HO_6.out) (Kd.R_base ho0) hb); have n1_ := Aside0.mk (Kd.R_elder' (zR HO_7.out) (Kd.R_base ho0) hb); have n2_ := Aside0.mk (Kd.R_lower (Kd.R_new' (Kd.R_new' ho0 (Kd.R_lt (zR HO_6.out))) (Kd.R_lt (zR HO_7.out))) (below_size zb)); have n3_ := Aside0.mk (below_step zb hb); clear HO_6; clear HO_7; clear HB; have HO_6 := n0_; have HO_7 := n1_; have HO520 := n2_; have HB := n3_; clear n0_ n1_ n2_ n3_; (try clear hb); (try clear hb2); (try clear hk); (try clear hi); (try clear ho0)))
            go_ret2
            exact ⟨_, _, by first | rfl | (simp [errW_none, errW_some] <;> rfl) | (simp [*, errW_none, errW_some] <;> rfl), by (with_reducible repeat (first | apply Kd.R_alloc | apply Kd.R_drewN | apply Kd.R_drew)); exact Kd.R_mono HO520.out (fun _ hk => hk.2), by (with_reducible repeat (first | apply Kd.R_alloc | apply Kd.R_drewN | apply Kd.R_drew)); exact Kd.R_mono HO_7.out (fun _ hk => hk.2), zb⟩
    · rw [if_neg c4] at H
      exact absurd H (by simp)
  · rw [if_neg c3] at H
    exact absurd H (by simp)
def spec_BigDiv.j0 : Nat → Bool → Bool → List Int → Bool → List Int → Option (Bool × List Int × Bool × List Int × Bool)
  | 0, _, _, _, _, _ => none
  | k + 1, x26, x546000, x546001, x547000, x547001 => if x26 = true then (some (false, ([] : List Int), false, ([] : List Int), false)) else ((spec_l1DivAbs.f k x546001 x547001).bind fun bt551 => ((spec_l1Big.f k (x546000 != x547000) bt551.1).bind fun bt557 => ((spec_l1Big.f k x546000 bt551.2).bind fun bt563 => (some (bt557.1, bt557.2.1, bt563.1, bt563.2.1, true)))))
def spec_BigDiv.f (k : Nat) (a0_0 : Bool) (l0_1 : List Int) (a1_0 : Bool) (l1_1 : List Int) : Option (Bool × List Int × Bool × List Int × Bool) := (spec_l1Ok.f k a0_0 l0_1).bind fun t549 => (if t549 = true then ((spec_l1Ok.f k a1_0 l1_1).bind fun t550 => (if t550 = true then (spec_BigDiv.j0 k ((l1_1.length : Int) == 0) a0_0 l0_1 a1_0 l1_1) else (spec_BigDiv.j0 k true a0_0 l0_1 a1_0 l1_1))) else (spec_BigDiv.j0 k true a0_0 l0_1 a1_0 l1_1))
set_option maxHeartbeats 8000000 in
set_option maxRecDepth 100000 in
theorem spec_BigDiv.calls (k : Nat) (a0_0 : Bool) (A0_1 : Option Addr) (c0_1 : Nat) (l0_1 : List Int) (a1_0 : Bool) (A1_1 : Option Addr) (c1_1 : Nat) (l1_1 : List Int) (r1 : Bool) (r2 : List Int) (r3 : Bool) (r4 : List Int) (r5 : Bool) (w : World) (hr0_1 : Kd.C (Kd.int .i64) w A0_1 l0_1.length l0_1) (hc0_1 : l0_1.length ≤ c0_1) (hr1_1 : Kd.C (Kd.int .i64) w A1_1 l1_1.length l1_1) (hc1_1 : l1_1.length ≤ c1_1) (h : spec_BigDiv.f k a0_0 l0_1 a1_0 l1_1 = some (r1, r2, r3, r4, r5)) :
    Calls Try.prog 44 #[.agg #[.bool a0_0, .slice A0_1 l0_1.length c0_1], .agg #[.bool a1_0, .slice A1_1 l1_1.length c1_1]] w fun e w' => ∃ v1_ v3_ : Value, e = .returned (.tuple #[.agg #[.bool r1, v1_], .agg #[.bool r3, v3_], .bool r5]) ∧ Kd.R (Kd.int .i64) 3 w' w.heap.size (fun k_ => some k_ ≠ (v3_ : Value).ownBlock) v1_ r2 ∧ Kd.R (Kd.int .i64) 3 w' w.heap.size (fun k_ => some k_ ≠ (v1_ : Value).ownBlock) v3_ r4 ∧ Below w.heap.size w w' := by
  have hu27 := Try.underlying27
  have HR0_1 := Aside0.mk hr0_1
  have HC0_1 := Aside0.mk hc0_1
  clear hr0_1 hc0_1
  have HR1_1 := Aside0.mk hr1_1
  have HC1_1 := Aside0.mk hc1_1
  clear hr1_1 hc1_1
  have HB := Aside0.mk (Below.refl w.heap.size w)
  have H : ((spec_l1Ok.f k a0_0 l0_1).bind fun t549 => (if t549 = true then ((spec_l1Ok.f k a1_0 l1_1).bind fun t550 => (if t550 = true then (spec_BigDiv.j0 k ((l1_1.length : Int) == 0) a0_0 l0_1 a1_0 l1_1) else (spec_BigDiv.j0 k true a0_0 l0_1 a1_0 l1_1))) else (spec_BigDiv.j0 k true a0_0 l0_1 a1_0 l1_1))) = some (r1, r2, r3, r4, r5) := h
  clear h
  have HC3 := Aside0.mk H
  clear H
  go_enter Try.func44, Try.ntmps44
  go_upto_region 1 with (first | ((with_reducible refine gate_dst (N := 2) rfl ?_); (try (refine gate_guard (by rfl) ?_; dsimp only)); refine box_event ?hg (N := 2) ?hd (cs := #[.bool a0_0, .slice A0_1 l0_1.length c0_1]) (t := 27) ?hr ?_; (case hd => rfl); (case hg => rfl); (case hr => first | (go_simp; done) | (go_simp; rfl)); intro gb545 hg w4 hbox hb; have n0_ := Aside0.mk (below_step zb hb); have n1_ := Aside0.mk (hbox); have n2_ := Aside0.mk ((by rw [hg]; exact (below_size zb) : w.heap.size ≤ gb545)); have n3_ := Aside0.mk ((by rw [hg]; exact (below_size zb) : w.heap.size ≤ gb545)); clear HB; have HB := n0_; have BK545 := n1_; have GW545 := n2_; have GE545 := n3_; clear n0_ n1_ n2_ n3_; clear hb hbox hg) | ((with_reducible refine gate_dst (N := 3) rfl ?_); (try (refine gate_guard (by rfl) ?_; dsimp only)); refine box_event ?hg (N := 3) ?hd (cs := #[.bool a1_0, .slice A1_1 l1_1.length c1_1]) (t := 27) ?hr ?_; (case hd => rfl); (case hg => rfl); (case hr => first | (go_simp; done) | (go_simp; rfl)); intro gb546 hg w5 hbox hb; have n0_ := Aside0.mk (blk_below (g := gb545) (o := .cells #[.bool a0_0, .slice A0_1 l0_1.length c0_1] 27 (0, 0)) (zk BK545.out) hb); have n1_ := Aside0.mk (below_step zb hb); have n2_ := Aside0.mk (hbox); have n3_ := Aside0.mk ((by rw [hg]; exact (below_size zb) : w.heap.size ≤ gb546)); have n4_ := Aside0.mk ((by rw [hg]; exact (below_size zb) : w.heap.size ≤ gb546)); have n5_ := Aside0.mk ((by rw [hg]; exact Nat.ne_of_lt (blk_lt (g := gb545) (o := .cells #[.bool a0_0, .slice A0_1 l0_1.length c0_1] 27 (0, 0)) (zk BK545.out)) : gb545 ≠ gb546)); have n6_ := Aside0.mk ((by rw [hg]; exact Nat.ne_of_gt (blk_lt (g := gb545) (o := .cells #[.bool a0_0, .slice A0_1 l0_1.length c0_1] 27 (0, 0)) (zk BK545.out)) : gb546 ≠ gb545)); clear BK545; clear HB; have BK545 := n0_; have HB := n1_; have BK546 := n2_; have GW546 := n3_; have GE546 := n4_; have NB545_546 := n5_; have NB546_545 := n6_; clear n0_ n1_ n2_ n3_ n4_ n5_ n6_; clear hb hbox hg) | ((with_reducible refine gate_dst (N := 4) rfl ?_); (try (refine gate_guard (by rfl) ?_; dsimp only)); refine box_event ?hg (N := 4) ?hd (cs := #[.bool false, .slice none 0 0]) (t := 27) ?hr ?_; (case hd => rfl); (case hg => rfl); (case hr => first | (go_simp; done) | (go_simp; rfl)); intro gb547 hg w6 hbox hb; have n0_ := Aside0.mk (blk_below (g := gb545) (o := .cells #[.bool a0_0, .slice A0_1 l0_1.length c0_1] 27 (0, 0)) (zk BK545.out) hb); have n1_ := Aside0.mk (blk_below (g := gb546) (o := .cells #[.bool a1_0, .slice A1_1 l1_1.length c1_1] 27 (0, 0)) (zk BK546.out) hb); have n2_ := Aside0.mk (below_step zb hb); have n3_ := Aside0.mk (hbox); have n4_ := Aside0.mk ((by rw [hg]; exact (below_size zb) : w.heap.size ≤ gb547)); have n5_ := Aside0.mk ((by rw [hg]; exact (below_size zb) : w.heap.size ≤ gb547)); have n6_ := Aside0.mk ((by rw [hg]; exact Nat.ne_of_lt (blk_lt (g := gb545) (o := .cells #[.bool a0_0, .slice A0_1 l0_1.length c0_1] 27 (0, 0)) (zk BK545.out)) : gb545 ≠ gb547)); have n7_ := Aside0.mk ((by rw [hg]; exact Nat.ne_of_gt (blk_lt (g := gb545) (o := .cells #[.bool a0_0, .slice A0_1 l0_1.length c0_1] 27 (0, 0)) (zk BK545.out)) : gb547 ≠ gb545)); have n8_ := Aside0.mk ((by rw [hg]; exact Nat.ne_of_lt (blk_lt (g := gb546) (o := .cells #[.bool a1_0, .slice A1_1 l1_1.length c1_1] 27 (0, 0)) (zk BK546.out)) : gb546 ≠ gb547)); have n9_ := Aside0.mk ((by rw [hg]; exact Nat.ne_of_gt (blk_lt (g := gb546) (o := .cells #[.bool a1_0, .slice A1_1 l1_1.length c1_1] 27 (0, 0)) (zk BK546.out)) : gb547 ≠ gb546)); clear BK545; clear BK546; clear HB; have BK545 := n0_; have BK546 := n1_; have HB := n2_; have BK547 := n3_; have GW547 := n4_; have GE547 := n5_; have NB545_547 := n6_; have NB547_545 := n7_; have NB546_547 := n8_; have NB547_546 := n9_; clear n0_ n1_ n2_ n3_ n4_ n5_ n6_ n7_ n8_ n9_; clear hb hbox hg) | ((with_reducible refine gate_dst (N := 5) rfl ?_); (try (refine gate_guard (by rfl) ?_; dsimp only)); refine box_event ?hg (N := 5) ?hd (cs := #[.bool false, .slice none 0 0]) (t := 27) ?hr ?_; (case hd => rfl); (case hg => rfl); (case hr => first | (go_simp; done) | (go_simp; rfl)); intro gb548 hg w7 hbox hb; have n0_ := Aside0.mk (blk_below (g := gb545) (o := .cells #[.bool a0_0, .slice A0_1 l0_1.length c0_1] 27 (0, 0)) (zk BK545.out) hb); have n1_ := Aside0.mk (blk_below (g := gb546) (o := .cells #[.bool a1_0, .slice A1_1 l1_1.length c1_1] 27 (0, 0)) (zk BK546.out) hb); have n2_ := Aside0.mk (blk_below (g := gb547) (o := .cells #[.bool false, .slice none 0 0] 27 (0, 0)) (zk BK547.out) hb); have n3_ := Aside0.mk (below_step zb hb); have n4_ := Aside0.mk (hbox); have n5_ := Aside0.mk ((by rw [hg]; exact (below_size zb) : w.heap.size ≤ gb548)); have n6_ := Aside0.mk ((by rw [hg]; exact (below_size zb) : w.heap.size ≤ gb548)); have n7_ := Aside0.mk ((by rw [hg]; exact Nat.ne_of_lt (blk_lt (g := gb545) (o := .cells #[.bool a0_0, .slice A0_1 l0_1.length c0_1] 27 (0, 0)) (zk BK545.out)) : gb545 ≠ gb548)); have n8_ := Aside0.mk ((by rw [hg]; exact Nat.ne_of_gt (blk_lt (g := gb545) (o := .cells #[.bool a0_0, .slice A0_1 l0_1.length c0_1] 27 (0, 0)) (zk BK545.out)) : gb548 ≠ gb545)); have n9_ := Aside0.mk ((by rw [hg]; exact Nat.ne_of_lt (blk_lt (g := gb546) (o := .cells #[.bool a1_0, .slice A1_1 l1_1.length c1_1] 27 (0, 0)) (zk BK546.out)) : gb546 ≠ gb548)); have n10_ := Aside0.mk ((by rw [hg]; exact Nat.ne_of_gt (blk_lt (g := gb546) (o := .cells #[.bool a1_0, .slice A1_1 l1_1.length c1_1] 27 (0, 0)) (zk BK546.out)) : gb548 ≠ gb546)); have n11_ := Aside0.mk ((by rw [hg]; exact Nat.ne_of_lt (blk_lt (g := gb547) (o := .cells #[.bool false, .slice none 0 0] 27 (0, 0)) (zk BK547.out)) : gb547 ≠ gb548)); have n12_ := Aside0.mk ((by rw [hg]; exact Nat.ne_of_gt (blk_lt (g := gb547) (o := .cells #[.bool false, .slice none 0 0] 27 (0, 0)) (zk BK547.out)) : gb548 ≠ gb547)); clear BK545; clear BK546; clear BK547; clear HB; have BK545 := n0_; have BK546 := n1_; have BK547 := n2_; have HB := n3_; have BK548 := n4_; have GW548 := n5_; have GE548 := n6_; have NB545_548 := n7_; have NB548_545 := n8_; have NB546_548 := n9_; have NB548_546 := n10_; have NB547_548 := n11_; have NB548_547 := n12_; clear n0_ n1_ n2_ n3_ n4_ n5_ n6_ n7_ n8_ n9_ n10_ n11_ n12_; clear hb hbox hg))
  (try simp only [Act.put, List.setIfInBounds_toArray, List.set_cons_zero, List.set_cons_succ])
  go_cut [26] (fun v26 wc => ∃ (kq : Nat) (x26_2 : Bool), v26 = .bool x26_2 ∧ Aside0 (spec_BigDiv.j0 kq x26_2 a0_0 l0_1 a1_0 l1_1 = some (r1, r2, r3, r4, r5)) ∧ Aside0 (kq ≤ k) ∧ Aside0 (wc.heap[gb545]? = some (.cells #[.bool a0_0, (.slice A0_1 l0_1.length c0_1)] 27 (0, 0))) ∧ Aside0 (wc.heap[gb546]? = some (.cells #[.bool a1_0, (.slice A1_1 l1_1.length c1_1)] 27 (0, 0))) ∧ Aside0 (wc.heap[gb547]? = some (.cells #[.bool false, (.slice none 0 0)] 27 (0, 0))) ∧ Aside0 (wc.heap[gb548]? = some (.cells #[.bool false, (.slice none 0 0)] 27 (0, 0))) ∧ Aside0 (Below w.heap.size w wc))
  case first =>
    have H := HC3.out
    clear HC3
    replace H := Option.bind_eq_some_iff.mp H
    obtain ⟨t549, A80, H⟩ := H
    replace H : (if t549 = true then ((spec_l1Ok.f k a1_0 l1_1).bind fun t550 => (if t550 = true then (spec_BigDiv.j0 k ((l1_1.length : Int) == 0) a0_0 l0_1 a1_0 l1_1) else (spec_BigDiv.j0 k true a0_0 l0_1 a1_0 l1_1))) else (spec_BigDiv.j0 k true a0_0 l0_1 a1_0 l1_1)) = some (r1, r2, r3, r4, r5) := H
    have A8 := Aside0.mk A80
    clear A80
    by_cases c9 : t549 = true
    · subst c9
      have H1 : ((spec_l1Ok.f k a1_0 l1_1).bind fun t550 => (if t550 = true then (spec_BigDiv.j0 k ((l1_1.length : Int) == 0) a0_0 l0_1 a1_0 l1_1) else (spec_BigDiv.j0 k true a0_0 l0_1 a1_0 l1_1))) = some (r1, r2, r3, r4, r5) := by rw [if_pos rfl] at H; exact H
      clear H
      have H := H1
      clear H1
      replace H := Option.bind_eq_some_iff.mp H
      obtain ⟨t550, A100, H⟩ := H
      replace H : (if t550 = true then (spec_BigDiv.j0 k ((l1_1.length : Int) == 0) a0_0 l0_1 a1_0 l1_1) else (spec_BigDiv.j0 k true a0_0 l0_1 a1_0 l1_1)) = some (r1, r2, r3, r4, r5) := H
      have A10 := Aside0.mk A100
      clear A100
      by_cases c11 : t550 = true
      · subst c11
        have H1 : (spec_BigDiv.j0 k ((l1_1.length : Int) == 0) a0_0 l0_1 a1_0 l1_1) = some (r1, r2, r3, r4, r5) := by rw [if_pos rfl] at H; exact H
        clear H
        have H := H1
        clear H1
        have H' := Aside0.mk H
        clear H
        have hnb12 := NB545_546.out
        have hnc12 := NB546_545.out
        have hnb13 := NB545_547.out
        have hnc13 := NB547_545.out
        have hnb14 := NB545_548.out
        have hnc14 := NB548_545.out
        have hcz15_0 : w7.cell? ⟨gb545, 0, none⟩ = some (.bool a0_0) := (blk_cell BK545.out 0).trans rfl
        have hcz15_1 : w7.cell? ⟨gb545, 1, none⟩ = some (.slice A0_1 l0_1.length c0_1) := (blk_cell BK545.out 1).trans rfl
        have hfz15_0 := blk_frozen BK545.out 0
        have hfz15_1 := blk_frozen BK545.out 1
        go_wp2_with (first | ((with_reducible refine gate_callee (f := 49) rfl ?_); refine goesL_ (some 14) rfl rfl Try.func49 (by kernel_rfl) rfl #[.agg #[.bool a0_0, .slice A0_1 l0_1.length c0_1]] rfl za ?_; (with_reducible refine (spec_l1Ok.calls k a0_0 _ _ l0_1 true _ ?side1 ?side2 A8.out).mono ?_); (case side1 => repeat (first | exact (Kd.C_below HR0_1.out HB.out) | (with_reducible refine Kd.C_alloc ?_ _) | (with_reducible refine Kd.C_drewN ?_ _) | (with_reducible refine Kd.C_drew ?_))); (case side2 => exact HC0_1.out); rintro e w16 ⟨rfl, hb⟩; refine ⟨_, rfl, ?_⟩; have n0_ := Aside0.mk (blk_below (g := gb545) (o := .cells #[.bool a0_0, .slice A0_1 l0_1.length c0_1] 27 (0, 0)) (zk BK545.out) hb); have n1_ := Aside0.mk (blk_below (g := gb546) (o := .cells #[.bool a1_0, .slice A1_1 l1_1.length c1_1] 27 (0, 0)) (zk BK546.out) hb); have n2_ := Aside0.mk (blk_below (g := gb547) (o := .cells #[.bool false, .slice none 0 0] 27 (0, 0)) (zk BK547.out) hb); have n3_ := Aside0.mk (blk_below (g := gb548) (o := .cells #[.bool false, .slice none 0 0] 27 (0, 0)) (zk BK548.out) hb); have n4_ := Aside0.mk (below_step zb hb); clear BK545; clear BK546; clear BK547; clear BK548; clear HB; have BK545 := n0_; have BK546 := n1_; have BK547 := n2_; have BK548 := n3_; have HB := n4_; clear n0_ n1_ n2_ n3_ n4_; (try clear hb); (try clear hb2); (try clear hk); (try clear hi); have hnb17 := NB546_547.out; have hnc17 := NB547_546.out; have hnb18 := NB546_548.out; have hnc18 := NB548_546.out; have hcz19_0 : w16.cell? ⟨gb546, 0, none⟩ = some (.bool a1_0) := (blk_cell BK546.out 0).trans rfl; have hcz19_1 : w16.cell? ⟨gb546, 1, none⟩ = some (.slice A1_1 l1_1.length c1_1) := (blk_cell BK546.out 1).trans rfl; have hfz19_0 := blk_frozen BK546.out 0; have hfz19_1 := blk_frozen BK546.out 1) | (go_at_call 49; (with_reducible refine (spec_l1Ok.calls k a1_0 _ _ l1_1 true _ ?side1 ?side2 A10.out).mono ?_); (case side1 => repeat (first | exact (Kd.C_below HR1_1.out HB.out) | (with_reducible refine Kd.C_alloc ?_ _) | (with_reducible refine Kd.C_drewN ?_ _) | (with_reducible refine Kd.C_drew ?_))); (case side2 => exact HC1_1.out); rintro e w20 ⟨rfl, hb⟩; have n0_ := Aside0.mk (blk_below (g := gb545) (o := .cells #[.bool a0_0, .slice A0_1 l0_1.length c0_1] 27 (0, 0)) (zk BK545.out) hb); have n1_ := Aside0.mk (blk_below (g := gb546) (o := .cells #[.bool a1_0, .slice A1_1 l1_1.length c1_1] 27 (0, 0)) (zk BK546.out) hb); have n2_ := Aside0.mk (blk_below (g := gb547) (o := .cells #[.bool false, .slice none 0 0] 27 (0, 0)) (zk BK547.out) hb); have n3_ := Aside0.mk (blk_below (g := gb548) (o := .cells #[.bool false, .slice none 0 0] 27 (0, 0)) (zk BK548.out) hb); have n4_ := Aside0.mk (below_step zb hb); clear BK545; clear BK546; clear BK547; clear BK548; clear HB; have BK545 := n0_; have BK546 := n1_; have BK547 := n2_; have BK548 := n3_; have HB := n4_; clear n0_ n1_ n2_ n3_ n4_; (try clear hb); (try clear hb2); (try clear hk); (try clear hi); have hcz21_0 : w20.cell? ⟨gb546, 0, none⟩ = some (.bool a1_0) := (blk_cell BK546.out 0).trans rfl; have hcz21_1 : w20.cell? ⟨gb546, 1, none⟩ = some (.slice A1_1 l1_1.length c1_1) := (blk_cell BK546.out 1).trans rfl; have hfz21_0 := blk_frozen BK546.out 0; have hfz21_1 := blk_frozen BK546.out 1))
        go_meet
        case rel => exact ⟨_, (((l1_1.length : Int) == 0)), (by first | rfl | (simp; done) | (simp [*]; done)), H', ⟨by first | omega | exact Nat.le_refl _⟩, ⟨by (with_reducible repeat (first | refine blk_drewN ?_ _ | refine blk_drew ?_ | refine blk_alloc ?_ _)); exact BK545.out⟩, ⟨by (with_reducible repeat (first | refine blk_drewN ?_ _ | refine blk_drew ?_ | refine blk_alloc ?_ _)); exact BK546.out⟩, ⟨by (with_reducible repeat (first | refine blk_drewN ?_ _ | refine blk_drew ?_ | refine blk_alloc ?_ _)); exact BK547.out⟩, ⟨by (with_reducible repeat (first | refine blk_drewN ?_ _ | refine blk_drew ?_ | refine blk_alloc ?_ _)); exact BK548.out⟩, ⟨zb⟩⟩
      · replace c11 := Bool.eq_false_iff.mpr c11
        subst c11
        have H1 : (spec_BigDiv.j0 k true a0_0 l0_1 a1_0 l1_1) = some (r1, r2, r3, r4, r5) := by rw [if_neg (show ¬ (false = true) by decide)] at H; exact H
        clear H
        have H := H1
        clear H1
        have H' := Aside0.mk H
        clear H
        have hnb22 := NB545_546.out
        have hnc22 := NB546_545.out
        have hnb23 := NB545_547.out
        have hnc23 := NB547_545.out
        have hnb24 := NB545_548.out
        have hnc24 := NB548_545.out
        have hcz25_0 : w7.cell? ⟨gb545, 0, none⟩ = some (.bool a0_0) := (blk_cell BK545.out 0).trans rfl
        have hcz25_1 : w7.cell? ⟨gb545, 1, none⟩ = some (.slice A0_1 l0_1.length c0_1) := (blk_cell BK545.out 1).trans rfl
        have hfz25_0 := blk_frozen BK545.out 0
        have hfz25_1 := blk_frozen BK545.out 1
        go_wp2_with (first | ((with_reducible refine gate_callee (f := 49) rfl ?_); refine goesL_ (some 14) rfl rfl Try.func49 (by kernel_rfl) rfl #[.agg #[.bool a0_0, .slice A0_1 l0_1.length c0_1]] rfl za ?_; (with_reducible refine (spec_l1Ok.calls k a0_0 _ _ l0_1 true _ ?side1 ?side2 A8.out).mono ?_); (case side1 => repeat (first | exact (Kd.C_below HR0_1.out HB.out) | (with_reducible refine Kd.C_alloc ?_ _) | (with_reducible refine Kd.C_drewN ?_ _) | (with_reducible refine Kd.C_drew ?_))); (case side2 => exact HC0_1.out); rintro e w26 ⟨rfl, hb⟩; refine ⟨_, rfl, ?_⟩; have n0_ := Aside0.mk (blk_below (g := gb545) (o := .cells #[.bool a0_0, .slice A0_1 l0_1.length c0_1] 27 (0, 0)) (zk BK545.out) hb); have n1_ := Aside0.mk (blk_below (g := gb546) (o := .cells #[.bool a1_0, .slice A1_1 l1_1.length c1_1] 27 (0, 0)) (zk BK546.out) hb); have n2_ := Aside0.mk (blk_below (g := gb547) (o := .cells #[.bool false, .slice none 0 0] 27 (0, 0)) (zk BK547.out) hb); have n3_ := Aside0.mk (blk_below (g := gb548) (o := .cells #[.bool false, .slice none 0 0] 27 (0, 0)) (zk BK548.out) hb); have n4_ := Aside0.mk (below_step zb hb); clear BK545; clear BK546; clear BK547; clear BK548; clear HB; have BK545 := n0_; have BK546 := n1_; have BK547 := n2_; have BK548 := n3_; have HB := n4_; clear n0_ n1_ n2_ n3_ n4_; (try clear hb); (try clear hb2); (try clear hk); (try clear hi); have hnb27 := NB546_547.out; have hnc27 := NB547_546.out; have hnb28 := NB546_548.out; have hnc28 := NB548_546.out; have hcz29_0 : w26.cell? ⟨gb546, 0, none⟩ = some (.bool a1_0) := (blk_cell BK546.out 0).trans rfl; have hcz29_1 : w26.cell? ⟨gb546, 1, none⟩ = some (.slice A1_1 l1_1.length c1_1) := (blk_cell BK546.out 1).trans rfl; have hfz29_0 := blk_frozen BK546.out 0; have hfz29_1 := blk_frozen BK546.out 1) | (go_at_call 49; (with_reducible refine (spec_l1Ok.calls k a1_0 _ _ l1_1 false _ ?side1 ?side2 A10.out).mono ?_); (case side1 => repeat (first | exact (Kd.C_below HR1_1.out HB.out) | (with_reducible refine Kd.C_alloc ?_ _) | (with_reducible refine Kd.C_drewN ?_ _) | (with_reducible refine Kd.C_drew ?_))); (case side2 => exact HC1_1.out); rintro e w30 ⟨rfl, hb⟩; have n0_ := Aside0.mk (blk_below (g := gb545) (o := .cells #[.bool a0_0, .slice A0_1 l0_1.length c0_1] 27 (0, 0)) (zk BK545.out) hb); have n1_ := Aside0.mk (blk_below (g := gb546) (o := .cells #[.bool a1_0, .slice A1_1 l1_1.length c1_1] 27 (0, 0)) (zk BK546.out) hb); have n2_ := Aside0.mk (blk_below (g := gb547) (o := .cells #[.bool false, .slice none 0 0] 27 (0, 0)) (zk BK547.out) hb); have n3_ := Aside0.mk (blk_below (g := gb548) (o := .cells #[.bool false, .slice none 0 0] 27 (0, 0)) (zk BK548.out) hb); have n4_ := Aside0.mk (below_step zb hb); clear BK545; clear BK546; clear BK547; clear BK548; clear HB; have BK545 := n0_; have BK546 := n1_; have BK547 := n2_; have BK548 := n3_; have HB := n4_; clear n0_ n1_ n2_ n3_ n4_; (try clear hb); (try clear hb2); (try clear hk); (try clear hi)))
        go_meet
        case rel => exact ⟨_, (true), (by first | rfl | (simp; done) | (simp [*]; done)), H', ⟨by first | omega | exact Nat.le_refl _⟩, ⟨by (with_reducible repeat (first | refine blk_drewN ?_ _ | refine blk_drew ?_ | refine blk_alloc ?_ _)); exact BK545.out⟩, ⟨by (with_reducible repeat (first | refine blk_drewN ?_ _ | refine blk_drew ?_ | refine blk_alloc ?_ _)); exact BK546.out⟩, ⟨by (with_reducible repeat (first | refine blk_drewN ?_ _ | refine blk_drew ?_ | refine blk_alloc ?_ _)); exact BK547.out⟩, ⟨by (with_reducible repeat (first | refine blk_drewN ?_ _ | refine blk_drew ?_ | refine blk_alloc ?_ _)); exact BK548.out⟩, ⟨zb⟩⟩
    · replace c9 := Bool.eq_false_iff.mpr c9
      subst c9
      have H1 : (spec_BigDiv.j0 k true a0_0 l0_1 a1_0 l1_1) = some (r1, r2, r3, r4, r5) := by rw [if_neg (show ¬ (false = true) by decide)] at H; exact H
      clear H
      have H := H1
      clear H1
      have H' := Aside0.mk H
      clear H
      have hnb31 := NB545_546.out
      have hnc31 := NB546_545.out
      have hnb32 := NB545_547.out
      have hnc32 := NB547_545.out
      have hnb33 := NB545_548.out
      have hnc33 := NB548_545.out
      have hcz34_0 : w7.cell? ⟨gb545, 0, none⟩ = some (.bool a0_0) := (blk_cell BK545.out 0).trans rfl
      have hcz34_1 : w7.cell? ⟨gb545, 1, none⟩ = some (.slice A0_1 l0_1.length c0_1) := (blk_cell BK545.out 1).trans rfl
      have hfz34_0 := blk_frozen BK545.out 0
      have hfz34_1 := blk_frozen BK545.out 1
      go_wp2_with (first | ((with_reducible refine gate_callee (f := 49) rfl ?_); refine goesL_ (some 14) rfl rfl Try.func49 (by kernel_rfl) rfl #[.agg #[.bool a0_0, .slice A0_1 l0_1.length c0_1]] rfl za ?_; (with_reducible refine (spec_l1Ok.calls k a0_0 _ _ l0_1 false _ ?side1 ?side2 A8.out).mono ?_); (case side1 => repeat (first | exact (Kd.C_below HR0_1.out HB.out) | (with_reducible refine Kd.C_alloc ?_ _) | (with_reducible refine Kd.C_drewN ?_ _) | (with_reducible refine Kd.C_drew ?_))); (case side2 => exact HC0_1.out); rintro e w35 ⟨rfl, hb⟩; refine ⟨_, rfl, ?_⟩; have n0_ := Aside0.mk (blk_below (g := gb545) (o := .cells #[.bool a0_0, .slice A0_1 l0_1.length c0_1] 27 (0, 0)) (zk BK545.out) hb); have n1_ := Aside0.mk (blk_below (g := gb546) (o := .cells #[.bool a1_0, .slice A1_1 l1_1.length c1_1] 27 (0, 0)) (zk BK546.out) hb); have n2_ := Aside0.mk (blk_below (g := gb547) (o := .cells #[.bool false, .slice none 0 0] 27 (0, 0)) (zk BK547.out) hb); have n3_ := Aside0.mk (blk_below (g := gb548) (o := .cells #[.bool false, .slice none 0 0] 27 (0, 0)) (zk BK548.out) hb); have n4_ := Aside0.mk (below_step zb hb); clear BK545; clear BK546; clear BK547; clear BK548; clear HB; have BK545 := n0_; have BK546 := n1_; have BK547 := n2_; have BK548 := n3_; have HB := n4_; clear n0_ n1_ n2_ n3_ n4_; (try clear hb); (try clear hb2); (try clear hk); (try clear hi)))
      go_meet
      case rel => exact ⟨_, (true), (by first | rfl | (simp; done) | (simp [*]; done)), H', ⟨by first | omega | exact Nat.le_refl _⟩, ⟨by (with_reducible repeat (first | refine blk_drewN ?_ _ | refine blk_drew ?_ | refine blk_alloc ?_ _)); exact BK545.out⟩, ⟨by (with_reducible repeat (first | refine blk_drewN ?_ _ | refine blk_drew ?_ | refine blk_alloc ?_ _)); exact BK546.out⟩, ⟨by (with_reducible repeat (first | refine blk_drewN ?_ _ | refine blk_drew ?_ | refine blk_alloc ?_ _)); exact BK547.out⟩, ⟨by (with_reducible repeat (first | refine blk_drewN ?_ _ | refine blk_drew ?_ | refine blk_alloc ?_ _)); exact BK548.out⟩, ⟨zb⟩⟩
  case rest =>
    clear HC3
    try clear c1
    try clear c2
    try clear p2
    try clear c3
    try clear c4
    try clear c9
    try clear c11
    try clear c12
    try clear c13
    try clear c14
    try clear c17
    try clear c18
    try clear c22
    try clear c23
    try clear c24
    try clear c27
    try clear c28
    try clear c31
    try clear c32
    try clear c33
    try clear hcz15_0
    try clear hcz15_1
    try clear hcz19_0
    try clear hcz19_1
    try clear hcz21_0
    try clear hcz21_1
    try clear hcz25_0
    try clear hcz25_1
    try clear hcz29_0
    try clear hcz29_1
    try clear hcz34_0
    try clear hcz34_1
    try clear hfz15_0
    try clear hfz15_1
    try clear hfz19_0
    try clear hfz19_1
    try clear hfz21_0
    try clear hfz21_1
    try clear hfz25_0
    try clear hfz25_1
    try clear hfz29_0
    try clear hfz29_1
    try clear hfz34_0
    try clear hfz34_1
    obtain ⟨kq, x26_2, rfl, HA, HJ2, BK545, BK546, BK547, BK548, HB⟩ := hcut
    cases kq with
    | zero => exact absurd HA.out (by simp [spec_BigDiv.j0])
    | succ kj2 =>
      have H := HA.out
      clear HA
      simp only [spec_BigDiv.j0] at H
      by_cases c36 : x26_2 = true
      · subst c36
        have H1 : (some (false, ([] : List Int), false, ([] : List Int), false)) = some (r1, r2, r3, r4, r5) := by rw [if_pos rfl] at H; exact H
        clear H
        have H := H1
        clear H1
        simp only [Option.some.injEq, Prod.mk.injEq] at H
        obtain ⟨rfl, rfl, rfl, rfl, rfl⟩ := H
        have hnb37 := NB547_545.out
        have hnc37 := NB545_547.out
        have hnb38 := NB547_546.out
        have hnc38 := NB546_547.out
        have hnb39 := NB547_548.out
        have hnc39 := NB548_547.out
        have hcz40_0 : wc.cell? ⟨gb547, 0, none⟩ = some (.bool false) := (blk_cell BK547.out 0).trans rfl
        have hcz40_1 : wc.cell? ⟨gb547, 1, none⟩ = some (.slice none 0 0) := (blk_cell BK547.out 1).trans rfl
        have hfz40_0 := blk_frozen BK547.out 0
        have hfz40_1 := blk_frozen BK547.out 1
        have hnb41 := NB548_545.out
        have hnc41 := NB545_548.out
        have hnb42 := NB548_546.out
        have hnc42 := NB546_548.out
        have hcz43_0 : wc.cell? ⟨gb548, 0, none⟩ = some (.bool false) := (blk_cell BK548.out 0).trans rfl
        have hcz43_1 : wc.cell? ⟨gb548, 1, none⟩ = some (.slice none 0 0) := (blk_cell BK548.out 1).trans rfl
        have hfz43_0 := blk_frozen BK548.out 0
        have hfz43_1 := blk_frozen BK548.out 1
        go_wp2
        refine bodyPost_ret (results_list (rs := [.cell 4 27, .cell 5 27, .tmp 6]) rfl (by simp) (.cell gb547 27 #[.bool false, .slice none 0 0] (0, 0) _ rfl (by (with_reducible repeat (first | refine blk_drewN ?_ _ | refine blk_drew ?_ | refine blk_alloc ?_ _)); refine blk_far ?_ NB547_548.out _; (with_reducible repeat (first | refine blk_drewN ?_ _ | refine blk_drew ?_ | refine blk_alloc ?_ _)); refine blk_far ?_ NB547_548.out _; (with_reducible repeat (first | refine blk_drewN ?_ _ | refine blk_drew ?_ | refine blk_alloc ?_ _)); refine blk_put (cs := #[.bool false, .slice none 0 0]) ?_ 1 _ rfl; (with_reducible repeat (first | refine blk_drewN ?_ _ | refine blk_drew ?_ | refine blk_alloc ?_ _)); refine blk_put (cs := #[.bool false, .slice none 0 0]) ?_ 0 _ rfl; (with_reducible repeat (first | refine blk_drewN ?_ _ | refine blk_drew ?_ | refine blk_alloc ?_ _)); exact BK547.out) Try.underlying27 rfl (by kernel_rfl) (.cell gb548 27 #[.bool false, .slice none 0 0] (0, 0) _ rfl (by (with_reducible repeat (first | refine blk_drewN ?_ _ | refine blk_drew ?_ | refine blk_alloc ?_ _)); refine blk_put (cs := #[.bool false, .slice none 0 0]) ?_ 1 _ rfl; (with_reducible repeat (first | refine blk_drewN ?_ _ | refine blk_drew ?_ | refine blk_alloc ?_ _)); refine blk_put (cs := #[.bool false, .slice none 0 0]) ?_ 0 _ rfl; (with_reducible repeat (first | refine blk_drewN ?_ _ | refine blk_drew ?_ | refine blk_alloc ?_ _)); refine blk_far ?_ NB548_547.out _; (with_reducible repeat (first | refine blk_drewN ?_ _ | refine blk_drew ?_ | refine blk_alloc ?_ _)); refine blk_far ?_ NB548_547.out _; (with_reducible repeat (first | refine blk_drewN ?_ _ | refine blk_drew ?_ | refine blk_alloc ?_ _)); exact BK548.out) Try.underlying27 rfl (by kernel_rfl) (.tmp .nil)))) rfl ?_
        exact ⟨_, _, by first | rfl | (simp [errW_none, errW_some] <;> rfl) | (simp [*, errW_none, errW_some] <;> rfl), by first | exact Kd.R_nil _ _ _ _ _ | exact Kd.N_nil _ _ _ _ _ | exact Kd.V_nil _ _ _ _ _ | exact Kd.Q_nil _ _ _ _ _ | exact Kd.S_nil _ _ _ _ _, by first | exact Kd.R_nil _ _ _ _ _ | exact Kd.N_nil _ _ _ _ _ | exact Kd.V_nil _ _ _ _ _ | exact Kd.Q_nil _ _ _ _ _ | exact Kd.S_nil _ _ _ _ _, zb⟩
      · replace c36 := Bool.eq_false_iff.mpr c36
        subst c36
        have H1 : ((spec_l1DivAbs.f kj2 l0_1 l1_1).bind fun bt551 => ((spec_l1Big.f kj2 (a0_0 != a1_0) bt551.1).bind fun bt557 => ((spec_l1Big.f kj2 a0_0 bt551.2).bind fun bt563 => (some (bt557.1, bt557.2.1, bt563.1, bt563.2.1, true))))) = some (r1, r2, r3, r4, r5) := by rw [if_neg (show ¬ (false = true) by decide)] at H; exact H
        clear H
        have H := H1
        clear H1
        replace H := Option.bind_eq_some_iff.mp H
        obtain ⟨⟨t551, t552⟩, A440, H⟩ := H
        replace H : ((spec_l1Big.f kj2 (a0_0 != a1_0) t551).bind fun bt557 => ((spec_l1Big.f kj2 a0_0 t552).bind fun bt563 => (some (bt557.1, bt557.2.1, bt563.1, bt563.2.1, true)))) = some (r1, r2, r3, r4, r5) := H
        have A44 := Aside0.mk A440
        clear A440
        replace H := Option.bind_eq_some_iff.mp H
        obtain ⟨⟨t557, t558, t561⟩, A450, H⟩ := H
        replace H : ((spec_l1Big.f kj2 a0_0 t552).bind fun bt563 => (some (t557, t558, bt563.1, bt563.2.1, true))) = some (r1, r2, r3, r4, r5) := H
        have A45 := Aside0.mk A450
        clear A450
        replace H := Option.bind_eq_some_iff.mp H
        obtain ⟨⟨t563, t564, t567⟩, A460, H⟩ := H
        replace H : (some (t557, t558, t563, t564, true)) = some (r1, r2, r3, r4, r5) := H
        have A46 := Aside0.mk A460
        clear A460
        simp only [Option.some.injEq, Prod.mk.injEq] at H
        obtain ⟨rfl, rfl, rfl, rfl, rfl⟩ := H
        have hnb47 := NB545_546.out
        have hnc47 := NB546_545.out
        have hnb48 := NB545_547.out
        have hnc48 := NB547_545.out
        have hnb49 := NB545_548.out
        have hnc49 := NB548_545.out
        have hcz50_0 : wc.cell? ⟨gb545, 0, none⟩ = some (.bool a0_0) := (blk_cell BK545.out 0).trans rfl
        have hcz50_1 : wc.cell? ⟨gb545, 1, none⟩ = some (.slice A0_1 l0_1.length c0_1) := (blk_cell BK545.out 1).trans rfl
        have hfz50_0 := blk_frozen BK545.out 0
        have hfz50_1 := blk_frozen BK545.out 1
        have hnb51 := NB546_547.out
        have hnc51 := NB547_546.out
        have hnb52 := NB546_548.out
        have hnc52 := NB548_546.out
        have hcz53_0 : wc.cell? ⟨gb546, 0, none⟩ = some (.bool a1_0) := (blk_cell BK546.out 0).trans rfl
        have hcz53_1 : wc.cell? ⟨gb546, 1, none⟩ = some (.slice A1_1 l1_1.length c1_1) := (blk_cell BK546.out 1).trans rfl
        have hfz53_0 := blk_frozen BK546.out 0
        have hfz53_1 := blk_frozen BK546.out 1
        try go_wp2_with (first | ((with_reducible refine gate_callee (f := 79) rfl ?_); refine goesL_ (some 34) rfl rfl Try.func79 (by kernel_rfl) rfl #[.slice A0_1 l0_1.length c0_1, .slice A1_1 l1_1.length c1_1] rfl za ?_; (with_reducible refine (spec_l1DivAbs.calls kj2 _ _ l0_1 _ _ l1_1 t551 t552 _ ?side1 ?side2 ?side3 ?side4 A44.out).mono ?_); (case side1 => repeat (first | exact (Kd.C_below HR0_1.out HB.out) | (with_reducible refine Kd.C_alloc ?_ _) | (with_reducible refine Kd.C_drewN ?_ _) | (with_reducible refine Kd.C_drew ?_))); (case side2 => exact HC0_1.out); (case side3 => repeat (first | exact (Kd.C_below HR1_1.out HB.out) | (with_reducible refine Kd.C_alloc ?_ _) | (with_reducible refine Kd.C_drewN ?_ _) | (with_reducible refine Kd.C_drew ?_))); (case side4 => exact HC1_1.out); rintro e w54 ⟨v553, v555, rfl, ho0, ho1, hb⟩; refine ⟨_, rfl, ?_⟩; have n0_ := Aside0.mk (Kd.R_lower ho0 (below_size zb)); have n1_ := Aside0.mk (Kd.R_lower ho1 (below_size zb)); have n2_ := Aside0.mk (blk_below (g := gb545) (o := .cells #[.bool a0_0, .slice A0_1 l0_1.length c0_1] 27 (0, 0)) (zk BK545.out) hb); have n3_ := Aside0.mk (blk_below (g := gb546) (o := .cells #[.bool a1_0, .slice A1_1 l1_1.length c1_1] 27 (0, 0)) (zk BK546.out) hb); have n4_ := Aside0.mk (blk_below (g := gb547) (o := .cells #[.bool false, .slice none 0 0] 27 (0, 0)) (zk BK547.out) hb); have n5_ := Aside0.mk (blk_below (g := gb548) (o := .cells #[.bool false, .slice none 0 0] 27 (0, 0)) (zk BK548.out) hb); have n6_ := Aside0.mk (below_step zb hb); clear BK545; clear BK546; clear BK547; clear BK548; clear HB; have HO554 := n0_; have HO556 := n1_; have BK545 := n2_; have BK546 := n3_; have BK547 := n4_; have BK548 := n5_; have HB := n6_; clear n0_ n1_ n2_ n3_ n4_ n5_ n6_; (try clear hb); (try clear hb2); (try clear hk); (try clear hi); (try clear ho0); (try clear ho1); have hcz55_0 : w54.cell? ⟨gb545, 0, none⟩ = some (.bool a0_0) := (blk_cell BK545.out 0).trans rfl; have hcz55_1 : w54.cell? ⟨gb545, 1, none⟩ = some (.slice A0_1 l0_1.length c0_1) := (blk_cell BK545.out 1).trans rfl; have hfz55_0 := blk_frozen BK545.out 0; have hfz55_1 := blk_frozen BK545.out 1; have hcz56_0 : w54.cell? ⟨gb546, 0, none⟩ = some (.bool a1_0) := (blk_cell BK546.out 0).trans rfl; have hcz56_1 : w54.cell? ⟨gb546, 1, none⟩ = some (.slice A1_1 l1_1.length c1_1) := (blk_cell BK546.out 1).trans rfl; have hfz56_0 := blk_frozen BK546.out 0; have hfz56_1 := blk_frozen BK546.out 1; obtain ⟨Ao57, co57, eo57⟩ := Kd.R_slice HO554.out; subst eo57) | ((with_reducible refine gate_callee (f := 60) rfl ?_); refine goesL_ (some 44) rfl rfl Try.func60 (by kernel_rfl) rfl #[.bool (a0_0 != a1_0), .slice Ao57 t551.length co57] rfl za ?_; (with_reducible refine (spec_l1Big.calls kj2 (a0_0 != a1_0) _ _ t551 t557 t558 t561 _ ?side1 ?side2 A45.out).mono ?_); (case side1 => repeat (first | exact (Kd.R_reads' HO554.out).2.2 | (with_reducible refine Kd.C_alloc ?_ _) | (with_reducible refine Kd.C_drewN ?_ _) | (with_reducible refine Kd.C_drew ?_))); (case side2 => exact (Kd.R_reads' HO554.out).2.1); rintro e w58 ⟨v559, rfl, ho0, hb⟩; refine ⟨_, rfl, ?_⟩; have n0_ := Aside0.mk (Kd.R_elder' (zR HO554.out) (Kd.R_base ho0) hb); have n1_ := Aside0.mk (Kd.R_elder' (zR HO556.out) (Kd.R_base ho0) hb); have n2_ := Aside0.mk (Kd.R_lower (Kd.R_new' (Kd.R_new' ho0 (Kd.R_lt (zR HO554.out))) (Kd.R_lt (zR HO556.out))) (below_size zb)); have n3_ := Aside0.mk (blk_below (g := gb545) (o := .cells #[.bool a0_0, .slice A0_1 l0_1.length c0_1] 27 (0, 0)) (zk BK545.out) hb); have n4_ := Aside0.mk (blk_below (g := gb546) (o := .cells #[.bool a1_0, .slice A1_1 l1_1.length c1_1] 27 (0, 0)) (zk BK546.out) hb); have n5_ := Aside0.mk (blk_below (g := gb547) (o := .cells #[.bool false, .slice none 0 0] 27 (0, 0)) (zk BK547.out) hb); have n6_ := Aside0.mk (blk_below (g := gb548) (o := .cells #[.bool false, .slice none 0 0] 27 (0, 0)) (zk BK548.out) hb); have n7_ := Aside0.mk (below_step zb hb); clear HO554; clear HO556; clear BK545; clear BK546; clear BK547; clear BK548; clear HB; have HO554 := n0_; have HO556 := n1_; have HO560 := n2_; have BK545 := n3_; have BK546 := n4_; have BK547 := n5_; have BK548 := n6_; have HB := n7_; clear n0_ n1_ n2_ n3_ n4_ n5_ n6_ n7_; (try clear hb); (try clear hb2); (try clear hk); (try clear hi); (try clear ho0)) | ((with_reducible refine gate_dst (N := 9) rfl ?_); (try (refine gate_guard (by rfl) ?_; dsimp only)); refine box_event ?hg (N := 9) ?hd (cs := #[.bool false, .slice none 0 0]) (t := 27) ?hr ?_; (case hd => rfl); (case hg => rfl); (case hr => first | (go_simp; done) | (go_simp; rfl)); intro gb562 hg w59 hbox hb; have n0_ := Aside0.mk (Kd.R_below (zR HO554.out) hb); have n1_ := Aside0.mk (Kd.R_below (zR HO556.out) hb); have n2_ := Aside0.mk (Kd.R_below (zR HO560.out) hb); have n3_ := Aside0.mk (blk_below (g := gb545) (o := .cells #[.bool a0_0, .slice A0_1 l0_1.length c0_1] 27 (0, 0)) (zk BK545.out) hb); have n4_ := Aside0.mk (blk_below (g := gb546) (o := .cells #[.bool a1_0, .slice A1_1 l1_1.length c1_1] 27 (0, 0)) (zk BK546.out) hb); have n5_ := Aside0.mk (blk_below (g := gb547) (o := .cells #[.bool false, .slice none 0 0] 27 (0, 0)) (zk BK547.out) hb); have n6_ := Aside0.mk (blk_below (g := gb548) (o := .cells #[.bool false, .slice none 0 0] 27 (0, 0)) (zk BK548.out) hb); have n7_ := Aside0.mk (below_step zb hb); have n8_ := Aside0.mk (hbox); have n9_ := Aside0.mk ((by rw [hg]; exact (below_size zb) : w.heap.size ≤ gb562)); have n10_ := Aside0.mk ((by rw [hg]; exact (below_size zb) : w.heap.size ≤ gb562)); have n11_ := Aside0.mk ((by rw [hg]; exact Nat.ne_of_lt (blk_lt (g := gb545) (o := .cells #[.bool a0_0, .slice A0_1 l0_1.length c0_1] 27 (0, 0)) (zk BK545.out)) : gb545 ≠ gb562)); have n12_ := Aside0.mk ((by rw [hg]; exact Nat.ne_of_gt (blk_lt (g := gb545) (o := .cells #[.bool a0_0, .slice A0_1 l0_1.length c0_1] 27 (0, 0)) (zk BK545.out)) : gb562 ≠ gb545)); have n13_ := Aside0.mk ((by rw [hg]; exact Nat.ne_of_lt (blk_lt (g := gb546) (o := .cells #[.bool a1_0, .slice A1_1 l1_1.length c1_1] 27 (0, 0)) (zk BK546.out)) : gb546 ≠ gb562)); have n14_ := Aside0.mk ((by rw [hg]; exact Nat.ne_of_gt (blk_lt (g := gb546) (o := .cells #[.bool a1_0, .slice A1_1 l1_1.length c1_1] 27 (0, 0)) (zk BK546.out)) : gb562 ≠ gb546)); have n15_ := Aside0.mk ((by rw [hg]; exact Nat.ne_of_lt (blk_lt (g := gb547) (o := .cells #[.bool false, .slice none 0 0] 27 (0, 0)) (zk BK547.out)) : gb547 ≠ gb562)); have n16_ := Aside0.mk ((by rw [hg]; exact Nat.ne_of_gt (blk_lt (g := gb547) (o := .cells #[.bool false, .slice none 0 0] 27 (0, 0)) (zk BK547.out)) : gb562 ≠ gb547)); have n17_ := Aside0.mk ((by rw [hg]; exact Nat.ne_of_lt (blk_lt (g := gb548) (o := .cells #[.bool false, .slice none 0 0] 27 (0, 0)) (zk BK548.out)) : gb548 ≠ gb562)); have n18_ := Aside0.mk ((by rw [hg]; exact Nat.ne_of_gt (blk_lt (g := gb548) (o := .cells #[.bool false, .slice none 0 0] 27 (0, 0)) (zk BK548.out)) : gb562 ≠ gb548)); clear HO554; clear HO556; clear HO560; clear BK545; clear BK546; clear BK547; clear BK548; clear HB; have HO554 := n0_; have HO556 := n1_; have HO560 := n2_; have BK545 := n3_; have BK546 := n4_; have BK547 := n5_; have BK548 := n6_; have HB := n7_; have BK562 := n8_; have GW562 := n9_; have GE562 := n10_; have NB545_562 := n11_; have NB562_545 := n12_; have NB546_562 := n13_; have NB562_546 := n14_; have NB547_562 := n15_; have NB562_547 := n16_; have NB548_562 := n17_; have NB562_548 := n18_; clear n0_ n1_ n2_ n3_ n4_ n5_ n6_ n7_ n8_ n9_ n10_ n11_ n12_ n13_ n14_ n15_ n16_ n17_ n18_; clear hb hbox hg; have hnb60 := NB562_545.out; have hnc60 := NB545_562.out; have hnb61 := NB562_546.out; have hnc61 := NB546_562.out; have hnb62 := NB562_547.out; have hnc62 := NB547_562.out; have hnb63 := NB562_548.out; have hnc63 := NB548_562.out; have hcz64_0 : w59.cell? ⟨gb562, 0, none⟩ = some (.bool false) := (blk_cell BK562.out 0).trans rfl; have hcz64_1 : w59.cell? ⟨gb562, 1, none⟩ = some (.slice none 0 0) := (blk_cell BK562.out 1).trans rfl; have hfz64_0 := blk_frozen BK562.out 0; have hfz64_1 := blk_frozen BK562.out 1; obtain ⟨Ao65, co65, eo65⟩ := Kd.R_slice HO560.out; subst eo65; have hcz66_0 : w59.cell? ⟨gb545, 0, none⟩ = some (.bool a0_0) := (blk_cell BK545.out 0).trans rfl; have hcz66_1 : w59.cell? ⟨gb545, 1, none⟩ = some (.slice A0_1 l0_1.length c0_1) := (blk_cell BK545.out 1).trans rfl; have hfz66_0 := blk_frozen BK545.out 0; have hfz66_1 := blk_frozen BK545.out 1; obtain ⟨Ao67, co67, eo67⟩ := Kd.R_slice HO556.out; subst eo67) | ((with_reducible refine gate_callee (f := 60) rfl ?_); refine goesL_ (some 51) rfl rfl Try.func60 (by kernel_rfl) rfl #[.bool a0_0, .slice Ao67 t552.length co67] rfl za ?_; (with_reducible refine (spec_l1Big.calls kj2 a0_0 _ _ t552 t563 t564 t567 _ ?side1 ?side2 A46.out).mono ?_); (case side1 => refine (Kd.R_reads' (e := 3) (base := w.heap.size) (ok := fun k_ => (some k_ ≠ (.slice Ao57 t551.length co57 : Value).ownBlock ∧ some k_ ≠ (.slice Ao65 t558.length co65 : Value).ownBlock)) (n := t552.length) (c := co67) ?_).2.2; exact (by (with_reducible repeat (first | apply Kd.R_alloc | apply Kd.R_drewN | apply Kd.R_drew)); exact (Kd.R_mono (Kd.R_far (p := ⟨gb562, 1, none⟩) (Kd.R_far (p := ⟨gb562, 0, none⟩) (Kd.R_types HO556.out BK562.out (by decide)) (fun _ hk => hk.2) (.bool t557)) (fun _ hk => hk.2) (.slice Ao65 t558.length co65)) (fun _ h_ => h_.1)))); (case side2 => exact (Kd.R_reads' HO556.out).2.1); rintro e w68 ⟨v565, rfl, ho0, hb⟩; refine ⟨_, rfl, ?_⟩; have n0_ := Aside0.mk (Kd.R_elder' (by (with_reducible repeat (first | apply Kd.R_alloc | apply Kd.R_drewN | apply Kd.R_drew)); exact (Kd.R_mono (Kd.R_far (p := ⟨gb562, 1, none⟩) (Kd.R_far (p := ⟨gb562, 0, none⟩) (Kd.R_types HO554.out BK562.out (by decide)) (fun _ hk => hk.2) (.bool t557)) (fun _ hk => hk.2) (.slice Ao65 t558.length co65)) (fun _ h_ => h_.1))) (Kd.R_base ho0) hb); have n1_ := Aside0.mk (Kd.R_elder' (by (with_reducible repeat (first | apply Kd.R_alloc | apply Kd.R_drewN | apply Kd.R_drew)); exact (Kd.R_mono (Kd.R_far (p := ⟨gb562, 1, none⟩) (Kd.R_far (p := ⟨gb562, 0, none⟩) (Kd.R_types HO556.out BK562.out (by decide)) (fun _ hk => hk.2) (.bool t557)) (fun _ hk => hk.2) (.slice Ao65 t558.length co65)) (fun _ h_ => h_.1))) (Kd.R_base ho0) hb); have n2_ := Aside0.mk (Kd.R_elder' (by (with_reducible repeat (first | apply Kd.R_alloc | apply Kd.R_drewN | apply Kd.R_drew)); exact (Kd.R_mono (Kd.R_far (p := ⟨gb562, 1, none⟩) (Kd.R_far (p := ⟨gb562, 0, none⟩) (Kd.R_types HO560.out BK562.out (by decide)) (fun _ hk => hk.2) (.bool t557)) (fun _ hk => hk.2) (.slice Ao65 t558.length co65)) (fun _ h_ => h_.1))) (Kd.R_base ho0) hb); have n3_ := Aside0.mk (Kd.R_lower (Kd.R_new' (Kd.R_new' (Kd.R_new' ho0 (Kd.R_lt (by (with_reducible repeat (first | apply Kd.R_alloc | apply Kd.R_drewN | apply Kd.R_drew)); exact (Kd.R_mono (Kd.R_far (p := ⟨gb562, 1, none⟩) (Kd.R_far (p := ⟨gb562, 0, none⟩) (Kd.R_types HO554.out BK562.out (by decide)) (fun _ hk => hk.2) (.bool t557)) (fun _ hk => hk.2) (.slice Ao65 t558.length co65)) (fun _ h_ => h_.1))))) (Kd.R_lt (by (with_reducible repeat (first | apply Kd.R_alloc | apply Kd.R_drewN | apply Kd.R_drew)); exact (Kd.R_mono (Kd.R_far (p := ⟨gb562, 1, none⟩) (Kd.R_far (p := ⟨gb562, 0, none⟩) (Kd.R_types HO556.out BK562.out (by decide)) (fun _ hk => hk.2) (.bool t557)) (fun _ hk => hk.2) (.slice Ao65 t558.length co65)) (fun _ h_ => h_.1))))) (Kd.R_lt (by (with_reducible repeat (first | apply Kd.R_alloc | apply Kd.R_drewN | apply Kd.R_drew)); exact (Kd.R_mono (Kd.R_far (p := ⟨gb562, 1, none⟩) (Kd.R_far (p := ⟨gb562, 0, none⟩) (Kd.R_types HO560.out BK562.out (by decide)) (fun _ hk => hk.2) (.bool t557)) (fun _ hk => hk.2) (.slice Ao65 t558.length co65)) (fun _ h_ => h_.1))))) (below_size zb)); have n4_ := Aside0.mk (blk_below (g := gb545) (o := .cells #[.bool a0_0, .slice A0_1 l0_1.length c0_1] 27 (0, 0)) (zk BK545.out) hb); have n5_ := Aside0.mk (blk_below (g := gb546) (o := .cells #[.bool a1_0, .slice A1_1 l1_1.length c1_1] 27 (0, 0)) (zk BK546.out) hb); have n6_ := Aside0.mk (blk_below (g := gb547) (o := .cells #[.bool false, .slice none 0 0] 27 (0, 0)) (zk BK547.out) hb); have n7_ := Aside0.mk (blk_below (g := gb548) (o := .cells #[.bool false, .slice none 0 0] 27 (0, 0)) (zk BK548.out) hb); have n8_ := Aside0.mk (blk_below (g := gb562) (o := .cells #[.bool t557, .slice Ao65 t558.length co65] 27 (0, 0)) (by (with_reducible repeat (first | refine blk_drewN ?_ _ | refine blk_drew ?_ | refine blk_alloc ?_ _)); refine blk_put (cs := #[.bool t557, .slice none 0 0]) ?_ 1 _ rfl; (with_reducible repeat (first | refine blk_drewN ?_ _ | refine blk_drew ?_ | refine blk_alloc ?_ _)); refine blk_put (cs := #[.bool false, .slice none 0 0]) ?_ 0 _ rfl; (with_reducible repeat (first | refine blk_drewN ?_ _ | refine blk_drew ?_ | refine blk_alloc ?_ _)); exact BK562.out) hb); have n9_ := Aside0.mk (below_step zb hb); clear HO554; clear HO556; clear HO560; clear BK545; clear BK546; clear BK547; clear BK548; clear BK562; clear HB; have HO554 := n0_; have HO556 := n1_; have HO560 := n2_; have HO566 := n3_; have BK545 := n4_; have BK546 := n5_; have BK547 := n6_; have BK548 := n7_; have BK562 := n8_; have HB := n9_; clear n0_ n1_ n2_ n3_ n4_ n5_ n6_ n7_ n8_ n9_; (try clear hb); (try clear hb2); (try clear hk); (try clear hi); (try clear ho0)) | ((with_reducible refine gate_dst (N := 11) rfl ?_); (try (refine gate_guard (by rfl) ?_; dsimp only)); refine box_event ?hg (N := 11) ?hd (cs := #[.bool false, .slice none 0 0]) (t := 27) ?hr ?_; (case hd => rfl); (case hg => rfl); (case hr => first | (go_simp; done) | (go_simp; rfl)); intro gb568 hg w69 hbox hb; have n0_ := Aside0.mk (Kd.R_below (zR HO554.out) hb); have n1_ := Aside0.mk (Kd.R_below (zR HO556.out) hb); have n2_ := Aside0.mk (Kd.R_below (zR HO560.out) hb); have n3_ := Aside0.mk (Kd.R_below (zR HO566.out) hb); have n4_ := Aside0.mk (blk_below (g := gb545) (o := .cells #[.bool a0_0, .slice A0_1 l0_1.length c0_1] 27 (0, 0)) (zk BK545.out) hb); have n5_ := Aside0.mk (blk_below (g := gb546) (o := .cells #[.bool a1_0, .slice A1_1 l1_1.length c1_1] 27 (0, 0)) (zk BK546.out) hb); have n6_ := Aside0.mk (blk_below (g := gb547) (o := .cells #[.bool false, .slice none 0 0] 27 (0, 0)) (zk BK547.out) hb); have n7_ := Aside0.mk (blk_below (g := gb548) (o := .cells #[.bool false, .slice none 0 0] 27 (0, 0)) (zk BK548.out) hb); have n8_ := Aside0.mk (blk_below (g := gb562) (o := .cells #[.bool t557, .slice Ao65 t558.length co65] 27 (0, 0)) (zk BK562.out) hb); have n9_ := Aside0.mk (below_step zb hb); have n10_ := Aside0.mk (hbox); have n11_ := Aside0.mk ((by rw [hg]; exact (below_size zb) : w.heap.size ≤ gb568)); have n12_ := Aside0.mk ((by rw [hg]; exact (below_size zb) : w.heap.size ≤ gb568)); have n13_ := Aside0.mk ((by rw [hg]; exact Nat.ne_of_lt (blk_lt (g := gb545) (o := .cells #[.bool a0_0, .slice A0_1 l0_1.length c0_1] 27 (0, 0)) (zk BK545.out)) : gb545 ≠ gb568)); have n14_ := Aside0.mk ((by rw [hg]; exact Nat.ne_of_gt (blk_lt (g := gb545) (o := .cells #[.bool a0_0, .slice A0_1 l0_1.length c0_1] 27 (0, 0)) (zk BK545.out)) : gb568 ≠ gb545)); have n15_ := Aside0.mk ((by rw [hg]; exact Nat.ne_of_lt (blk_lt (g := gb546) (o := .cells #[.bool a1_0, .slice A1_1 l1_1.length c1_1] 27 (0, 0)) (zk BK546.out)) : gb546 ≠ gb568)); have n16_ := Aside0.mk ((by rw [hg]; exact Nat.ne_of_gt (blk_lt (g := gb546) (o := .cells #[.bool a1_0, .slice A1_1 l1_1.length c1_1] 27 (0, 0)) (zk BK546.out)) : gb568 ≠ gb546)); have n17_ := Aside0.mk ((by rw [hg]; exact Nat.ne_of_lt (blk_lt (g := gb547) (o := .cells #[.bool false, .slice none 0 0] 27 (0, 0)) (zk BK547.out)) : gb547 ≠ gb568)); have n18_ := Aside0.mk ((by rw [hg]; exact Nat.ne_of_gt (blk_lt (g := gb547) (o := .cells #[.bool false, .slice none 0 0] 27 (0, 0)) (zk BK547.out)) : gb568 ≠ gb547)); have n19_ := Aside0.mk ((by rw [hg]; exact Nat.ne_of_lt (blk_lt (g := gb548) (o := .cells #[.bool false, .slice none 0 0] 27 (0, 0)) (zk BK548.out)) : gb548 ≠ gb568)); have n20_ := Aside0.mk ((by rw [hg]; exact Nat.ne_of_gt (blk_lt (g := gb548) (o := .cells #[.bool false, .slice none 0 0] 27 (0, 0)) (zk BK548.out)) : gb568 ≠ gb548)); have n21_ := Aside0.mk ((by rw [hg]; exact Nat.ne_of_lt (blk_lt (g := gb562) (o := .cells #[.bool t557, .slice Ao65 t558.length co65] 27 (0, 0)) (zk BK562.out)) : gb562 ≠ gb568)); have n22_ := Aside0.mk ((by rw [hg]; exact Nat.ne_of_gt (blk_lt (g := gb562) (o := .cells #[.bool t557, .slice Ao65 t558.length co65] 27 (0, 0)) (zk BK562.out)) : gb568 ≠ gb562)); clear HO554; clear HO556; clear HO560; clear HO566; clear BK545; clear BK546; clear BK547; clear BK548; clear BK562; clear HB; have HO554 := n0_; have HO556 := n1_; have HO560 := n2_; have HO566 := n3_; have BK545 := n4_; have BK546 := n5_; have BK547 := n6_; have BK548 := n7_; have BK562 := n8_; have HB := n9_; have BK568 := n10_; have GW568 := n11_; have GE568 := n12_; have NB545_568 := n13_; have NB568_545 := n14_; have NB546_568 := n15_; have NB568_546 := n16_; have NB547_568 := n17_; have NB568_547 := n18_; have NB548_568 := n19_; have NB568_548 := n20_; have NB562_568 := n21_; have NB568_562 := n22_; clear n0_ n1_ n2_ n3_ n4_ n5_ n6_ n7_ n8_ n9_ n10_ n11_ n12_ n13_ n14_ n15_ n16_ n17_ n18_ n19_ n20_ n21_ n22_; clear hb hbox hg; have hnb70 := NB568_545.out; have hnc70 := NB545_568.out; have hnb71 := NB568_546.out; have hnc71 := NB546_568.out; have hnb72 := NB568_547.out; have hnc72 := NB547_568.out; have hnb73 := NB568_548.out; have hnc73 := NB548_568.out; have hnb74 := NB568_562.out; have hnc74 := NB562_568.out; have hcz75_0 : w69.cell? ⟨gb568, 0, none⟩ = some (.bool false) := (blk_cell BK568.out 0).trans rfl; have hcz75_1 : w69.cell? ⟨gb568, 1, none⟩ = some (.slice none 0 0) := (blk_cell BK568.out 1).trans rfl; have hfz75_0 := blk_frozen BK568.out 0; have hfz75_1 := blk_frozen BK568.out 1; obtain ⟨Ao76, co76, eo76⟩ := Kd.R_slice HO566.out; subst eo76))
        have n0_ : Aside0 (Kd.R (Kd.int .i64) 3 ((w69.setCell ⟨gb568, 0, none⟩ (.bool t563)).setCell ⟨gb568, 1, none⟩ (.slice Ao76 t564.length co76)) w.heap.size (fun k_ => some k_ ≠ (.slice Ao67 t552.length co67 : Value).ownBlock ∧ some k_ ≠ (.slice Ao65 t558.length co65 : Value).ownBlock ∧ some k_ ≠ (.slice Ao76 t564.length co76 : Value).ownBlock) (.slice Ao57 t551.length co57) t551) := ⟨by (with_reducible repeat (first | apply Kd.R_alloc | apply Kd.R_drewN | apply Kd.R_drew)); exact Kd.R_mono (Kd.R_far (p := ⟨gb568, 1, none⟩) (Kd.R_far (p := ⟨gb568, 0, none⟩) (Kd.R_types HO554.out BK568.out (by decide)) (fun _ hk => hk.2) (.bool t563)) (fun _ hk => hk.2) (.slice Ao76 t564.length co76)) (fun _ hk => ⟨hk.1.1.1, ⟨hk.1.1.2, hk.1.2⟩⟩)⟩
        have n1_ : Aside0 (Kd.R (Kd.int .i64) 3 ((w69.setCell ⟨gb568, 0, none⟩ (.bool t563)).setCell ⟨gb568, 1, none⟩ (.slice Ao76 t564.length co76)) w.heap.size (fun k_ => some k_ ≠ (.slice Ao57 t551.length co57 : Value).ownBlock ∧ some k_ ≠ (.slice Ao65 t558.length co65 : Value).ownBlock ∧ some k_ ≠ (.slice Ao76 t564.length co76 : Value).ownBlock) (.slice Ao67 t552.length co67) t552) := ⟨by (with_reducible repeat (first | apply Kd.R_alloc | apply Kd.R_drewN | apply Kd.R_drew)); exact Kd.R_mono (Kd.R_far (p := ⟨gb568, 1, none⟩) (Kd.R_far (p := ⟨gb568, 0, none⟩) (Kd.R_types HO556.out BK568.out (by decide)) (fun _ hk => hk.2) (.bool t563)) (fun _ hk => hk.2) (.slice Ao76 t564.length co76)) (fun _ hk => ⟨hk.1.1.1, ⟨hk.1.1.2, hk.1.2⟩⟩)⟩
        have n2_ : Aside0 (Kd.R (Kd.int .i64) 3 ((w69.setCell ⟨gb568, 0, none⟩ (.bool t563)).setCell ⟨gb568, 1, none⟩ (.slice Ao76 t564.length co76)) w.heap.size (fun k_ => some k_ ≠ (.slice Ao57 t551.length co57 : Value).ownBlock ∧ some k_ ≠ (.slice Ao67 t552.length co67 : Value).ownBlock ∧ some k_ ≠ (.slice Ao76 t564.length co76 : Value).ownBlock) (.slice Ao65 t558.length co65) t558) := ⟨by (with_reducible repeat (first | apply Kd.R_alloc | apply Kd.R_drewN | apply Kd.R_drew)); exact Kd.R_mono (Kd.R_far (p := ⟨gb568, 1, none⟩) (Kd.R_far (p := ⟨gb568, 0, none⟩) (Kd.R_types HO560.out BK568.out (by decide)) (fun _ hk => hk.2) (.bool t563)) (fun _ hk => hk.2) (.slice Ao76 t564.length co76)) (fun _ hk => ⟨hk.1.1.1.2, ⟨hk.1.1.2, hk.1.2⟩⟩)⟩
        have n3_ : Aside0 (Kd.R (Kd.int .i64) 3 ((w69.setCell ⟨gb568, 0, none⟩ (.bool t563)).setCell ⟨gb568, 1, none⟩ (.slice Ao76 t564.length co76)) w.heap.size (fun k_ => some k_ ≠ (.slice Ao57 t551.length co57 : Value).ownBlock ∧ some k_ ≠ (.slice Ao67 t552.length co67 : Value).ownBlock ∧ some k_ ≠ (.slice Ao65 t558.length co65 : Value).ownBlock) (.slice Ao76 t564.length co76) t564) := ⟨by (with_reducible repeat (first | apply Kd.R_alloc | apply Kd.R_drewN | apply Kd.R_drew)); exact Kd.R_mono (Kd.R_far (p := ⟨gb568, 1, none⟩) (Kd.R_far (p := ⟨gb568, 0, none⟩) (Kd.R_types HO566.out BK568.out (by decide)) (fun _ hk => hk.2) (.bool t563)) (fun _ hk => hk.2) (.slice Ao76 t564.length co76)) (fun _ hk => ⟨hk.1.1.1.2, ⟨hk.1.1.2, hk.1.2⟩⟩)⟩
        have n4_ : Aside0 (((w69.setCell ⟨gb568, 0, none⟩ (.bool t563)).setCell ⟨gb568, 1, none⟩ (.slice Ao76 t564.length co76)).heap[gb545]? = some (.cells #[.bool a0_0, .slice A0_1 l0_1.length c0_1] 27 (0, 0))) := ⟨by (with_reducible repeat (first | refine blk_drewN ?_ _ | refine blk_drew ?_ | refine blk_alloc ?_ _)); refine blk_far ?_ NB545_568.out _; (with_reducible repeat (first | refine blk_drewN ?_ _ | refine blk_drew ?_ | refine blk_alloc ?_ _)); refine blk_far ?_ NB545_568.out _; (with_reducible repeat (first | refine blk_drewN ?_ _ | refine blk_drew ?_ | refine blk_alloc ?_ _)); exact BK545.out⟩
        have n5_ : Aside0 (((w69.setCell ⟨gb568, 0, none⟩ (.bool t563)).setCell ⟨gb568, 1, none⟩ (.slice Ao76 t564.length co76)).heap[gb546]? = some (.cells #[.bool a1_0, .slice A1_1 l1_1.length c1_1] 27 (0, 0))) := ⟨by (with_reducible repeat (first | refine blk_drewN ?_ _ | refine blk_drew ?_ | refine blk_alloc ?_ _)); refine blk_far ?_ NB546_568.out _; (with_reducible repeat (first | refine blk_drewN ?_ _ | refine blk_drew ?_ | refine blk_alloc ?_ _)); refine blk_far ?_ NB546_568.out _; (with_reducible repeat (first | refine blk_drewN ?_ _ | refine blk_drew ?_ | refine blk_alloc ?_ _)); exact BK546.out⟩
        have n6_ : Aside0 (((w69.setCell ⟨gb568, 0, none⟩ (.bool t563)).setCell ⟨gb568, 1, none⟩ (.slice Ao76 t564.length co76)).heap[gb547]? = some (.cells #[.bool false, .slice none 0 0] 27 (0, 0))) := ⟨by (with_reducible repeat (first | refine blk_drewN ?_ _ | refine blk_drew ?_ | refine blk_alloc ?_ _)); refine blk_far ?_ NB547_568.out _; (with_reducible repeat (first | refine blk_drewN ?_ _ | refine blk_drew ?_ | refine blk_alloc ?_ _)); refine blk_far ?_ NB547_568.out _; (with_reducible repeat (first | refine blk_drewN ?_ _ | refine blk_drew ?_ | refine blk_alloc ?_ _)); exact BK547.out⟩
        have n7_ : Aside0 (((w69.setCell ⟨gb568, 0, none⟩ (.bool t563)).setCell ⟨gb568, 1, none⟩ (.slice Ao76 t564.length co76)).heap[gb548]? = some (.cells #[.bool false, .slice none 0 0] 27 (0, 0))) := ⟨by (with_reducible repeat (first | refine blk_drewN ?_ _ | refine blk_drew ?_ | refine blk_alloc ?_ _)); refine blk_far ?_ NB548_568.out _; (with_reducible repeat (first | refine blk_drewN ?_ _ | refine blk_drew ?_ | refine blk_alloc ?_ _)); refine blk_far ?_ NB548_568.out _; (with_reducible repeat (first | refine blk_drewN ?_ _ | refine blk_drew ?_ | refine blk_alloc ?_ _)); exact BK548.out⟩
        have n8_ : Aside0 (((w69.setCell ⟨gb568, 0, none⟩ (.bool t563)).setCell ⟨gb568, 1, none⟩ (.slice Ao76 t564.length co76)).heap[gb562]? = some (.cells #[.bool t557, .slice Ao65 t558.length co65] 27 (0, 0))) := ⟨by (with_reducible repeat (first | refine blk_drewN ?_ _ | refine blk_drew ?_ | refine blk_alloc ?_ _)); refine blk_far ?_ NB562_568.out _; (with_reducible repeat (first | refine blk_drewN ?_ _ | refine blk_drew ?_ | refine blk_alloc ?_ _)); refine blk_far ?_ NB562_568.out _; (with_reducible repeat (first | refine blk_drewN ?_ _ | refine blk_drew ?_ | refine blk_alloc ?_ _)); exact BK562.out⟩
        have n9_ : Aside0 (((w69.setCell ⟨gb568, 0, none⟩ (.bool t563)).setCell ⟨gb568, 1, none⟩ (.slice Ao76 t564.length co76)).heap[gb568]? = some (.cells #[.bool t563, .slice Ao76 t564.length co76] 27 (0, 0))) := ⟨by (with_reducible repeat (first | refine blk_drewN ?_ _ | refine blk_drew ?_ | refine blk_alloc ?_ _)); refine blk_put (cs := #[.bool t563, .slice none 0 0]) ?_ 1 _ rfl; (with_reducible repeat (first | refine blk_drewN ?_ _ | refine blk_drew ?_ | refine blk_alloc ?_ _)); refine blk_put (cs := #[.bool false, .slice none 0 0]) ?_ 0 _ rfl; (with_reducible repeat (first | refine blk_drewN ?_ _ | refine blk_drew ?_ | refine blk_alloc ?_ _)); exact BK568.out⟩
        have n10_ : Aside0 (Below w.heap.size w ((w69.setCell ⟨gb568, 0, none⟩ (.bool t563)).setCell ⟨gb568, 1, none⟩ (.slice Ao76 t564.length co76))) := ⟨zb⟩
        (try clear HO554)
        (try clear HO556)
        (try clear HO560)
        (try clear HO566)
        (try clear BK545)
        (try clear BK546)
        (try clear BK547)
        (try clear BK548)
        (try clear BK562)
        (try clear BK568)
        (try clear HB)
        generalize ((w69.setCell ⟨gb568, 0, none⟩ (.bool t563)).setCell ⟨gb568, 1, none⟩ (.slice Ao76 t564.length co76)) = w77 at n0_ n1_ n2_ n3_ n4_ n5_ n6_ n7_ n8_ n9_ n10_ ⊢
        have HO554 := n0_
        have HO556 := n1_
        have HO560 := n2_
        have HO566 := n3_
        have BK545 := n4_
        have BK546 := n5_
        have BK547 := n6_
        have BK548 := n7_
        have BK562 := n8_
        have BK568 := n9_
        have HB := n10_
        clear n0_ n1_ n2_ n3_ n4_ n5_ n6_ n7_ n8_ n9_ n10_
        have n0_ := Aside0.mk (Kd.R_drew HO554.out)
        have n1_ := Aside0.mk (Kd.R_drew HO556.out)
        have n2_ := Aside0.mk (Kd.R_drew HO560.out)
        have n3_ := Aside0.mk (Kd.R_drew HO566.out)
        have n4_ := Aside0.mk (blk_drew BK545.out)
        have n5_ := Aside0.mk (blk_drew BK546.out)
        have n6_ := Aside0.mk (blk_drew BK547.out)
        have n7_ := Aside0.mk (blk_drew BK548.out)
        have n8_ := Aside0.mk (blk_drew BK562.out)
        have n9_ := Aside0.mk (blk_drew BK568.out)
        have n10_ := Aside0.mk (below_drew1 HB.out)
        clear HO554
        clear HO556
        clear HO560
        clear HO566
        clear BK545
        clear BK546
        clear BK547
        clear BK548
        clear BK562
        clear BK568
        clear HB
        have HO554 := n0_
        have HO556 := n1_
        have HO560 := n2_
        have HO566 := n3_
        have BK545 := n4_
        have BK546 := n5_
        have BK547 := n6_
        have BK548 := n7_
        have BK562 := n8_
        have BK568 := n9_
        have HB := n10_
        clear n0_ n1_ n2_ n3_ n4_ n5_ n6_ n7_ n8_ n9_ n10_
        refine start_ (n := 5) (S := fun w' => w'.cell? ⟨gb562, 0, none⟩ = some (.bool t557) ∧ w'.cell? ⟨gb562, 1, none⟩ = some (.slice Ao65 t558.length co65) ∧ w'.cell? ⟨gb568, 0, none⟩ = some (.bool t563) ∧ w'.cell? ⟨gb568, 1, none⟩ = some (.slice Ao76 t564.length co76)) (ds := []) #[false, false, false, false, false] (by kernel_rfl) rfl rfl ⟨(blk_cell BK562.out 0).trans rfl, (blk_cell BK562.out 1).trans rfl, (blk_cell BK568.out 0).trans rfl, (blk_cell BK568.out 1).trans rfl⟩ (fun hHeld => ?_)
        generalize w77.drew = w78 at HO554 HO556 HO560 HO566 BK545 BK546 BK547 BK548 BK562 BK568 HB hHeld ⊢
        refine take_ (i := 0) (N := some 54) (v := ?_) (a' := ?_) #[true, false, false, false, false] rfl rfl (by kernel_rfl) (fun _ _ _ h => h) (Or.inl ⟨by rfl, ?_⟩) hHeld ?_ ?_
        rotate_left
        · rintro w' ⟨s0, s1, s2, s3⟩
          go_simp
          with_reducible rfl
        rotate_left
        · simp only [Act.put, List.setIfInBounds_toArray, List.set_cons_zero, List.set_cons_succ, i64_w, i32_w]
          rfl
        refine take_ (i := 1) (N := some 55) (v := ?_) (a' := ?_) #[true, true, false, false, false] rfl rfl (by kernel_rfl) (fun _ _ _ h => h) (Or.inl ⟨by rfl, ?_⟩) hHeld ?_ ?_
        rotate_left
        · rintro w' ⟨s0, s1, s2, s3⟩
          go_simp
          with_reducible rfl
        rotate_left
        · simp only [Act.put, List.setIfInBounds_toArray, List.set_cons_zero, List.set_cons_succ, i64_w, i32_w]
          rfl
        refine one_ (i := 2) (N := none) #[true, true, true, false, false] rfl rfl (by kernel_rfl) (by decide) (fun K hK => ?_)
        have hs79 : w78.cell? ⟨gb547, 0, none⟩ = some (.bool false) := (blk_cell BK547.out 0).trans rfl
        have hfs79 := blk_frozen BK547.out 0
        have hns79_0 := NB545_547.out
        have hns79_1 := NB546_547.out
        have hns79_3 := NB548_547.out
        have hns79_4 := NB562_547.out
        have hns79_5 := NB568_547.out
        have hms79_0 := NB547_545.out
        have hms79_1 := NB547_546.out
        have hms79_3 := NB547_548.out
        have hms79_4 := NB547_562.out
        have hms79_5 := NB547_568.out
        have hs80 : w78.cell? ⟨gb547, 1, none⟩ = some (.slice none 0 0) := (blk_cell BK547.out 1).trans rfl
        have hfs80 := blk_frozen BK547.out 1
        have hns80_0 := NB545_547.out
        have hns80_1 := NB546_547.out
        have hns80_3 := NB548_547.out
        have hns80_4 := NB562_547.out
        have hns80_5 := NB568_547.out
        have hms80_0 := NB547_545.out
        have hms80_1 := NB547_546.out
        have hms80_3 := NB547_548.out
        have hms80_4 := NB547_562.out
        have hms80_5 := NB547_568.out
        refine skip_ (w1 := ?_) (by rfl) rfl ?_ ?_
        rotate_left
        · go_simp
          rfl
        refine hK.out _ _ ⟨((cell_far (p := ⟨gb547, _, none⟩) NB562_547.out _).trans (((cell_far (p := ⟨gb547, _, none⟩) NB562_547.out _).trans (hHeld.1)))), ((cell_far (p := ⟨gb547, _, none⟩) NB562_547.out _).trans (((cell_far (p := ⟨gb547, _, none⟩) NB562_547.out _).trans (hHeld.2.1)))), ((cell_far (p := ⟨gb547, _, none⟩) NB568_547.out _).trans (((cell_far (p := ⟨gb547, _, none⟩) NB568_547.out _).trans (hHeld.2.2.1)))), ((cell_far (p := ⟨gb547, _, none⟩) NB568_547.out _).trans (((cell_far (p := ⟨gb547, _, none⟩) NB568_547.out _).trans (hHeld.2.2.2))))⟩ (fun hHeld => ?_)
        clear hK K
        refine one_ (i := 3) (N := none) #[true, true, true, true, false] rfl rfl (by kernel_rfl) (by decide) (fun K hK => ?_)
        have hs81 : w78.cell? ⟨gb548, 0, none⟩ = some (.bool false) := (blk_cell BK548.out 0).trans rfl
        have hfs81 := blk_frozen BK548.out 0
        have hns81_0 := NB545_548.out
        have hns81_1 := NB546_548.out
        have hns81_2 := NB547_548.out
        have hns81_4 := NB562_548.out
        have hns81_5 := NB568_548.out
        have hms81_0 := NB548_545.out
        have hms81_1 := NB548_546.out
        have hms81_2 := NB548_547.out
        have hms81_4 := NB548_562.out
        have hms81_5 := NB548_568.out
        have hs82 : w78.cell? ⟨gb548, 1, none⟩ = some (.slice none 0 0) := (blk_cell BK548.out 1).trans rfl
        have hfs82 := blk_frozen BK548.out 1
        have hns82_0 := NB545_548.out
        have hns82_1 := NB546_548.out
        have hns82_2 := NB547_548.out
        have hns82_4 := NB562_548.out
        have hns82_5 := NB568_548.out
        have hms82_0 := NB548_545.out
        have hms82_1 := NB548_546.out
        have hms82_2 := NB548_547.out
        have hms82_4 := NB548_562.out
        have hms82_5 := NB548_568.out
        refine skip_ (w1 := ?_) (by rfl) rfl ?_ ?_
        rotate_left
        · go_simp
          rfl
        refine hK.out _ _ ⟨((cell_far (p := ⟨gb548, _, none⟩) NB562_548.out _).trans (((cell_far (p := ⟨gb548, _, none⟩) NB562_548.out _).trans (hHeld.1)))), ((cell_far (p := ⟨gb548, _, none⟩) NB562_548.out _).trans (((cell_far (p := ⟨gb548, _, none⟩) NB562_548.out _).trans (hHeld.2.1)))), ((cell_far (p := ⟨gb548, _, none⟩) NB568_548.out _).trans (((cell_far (p := ⟨gb548, _, none⟩) NB568_548.out _).trans (hHeld.2.2.1)))), ((cell_far (p := ⟨gb548, _, none⟩) NB568_548.out _).trans (((cell_far (p := ⟨gb548, _, none⟩) NB568_548.out _).trans (hHeld.2.2.2))))⟩ (fun hHeld => ?_)
        clear hK K
        refine pure_ (i := 4) (N := some 6) (v := ?_) (a' := ?_) #[true, true, true, true, true] rfl rfl (by kernel_rfl) (fun _ _ _ h => h) (Or.inl ⟨by rfl, ?_⟩) ?_ ?_
        rotate_left
        · intro w'
          go_simp
          with_reducible rfl
        rotate_left
        · simp only [Act.put, List.setIfInBounds_toArray, List.set_cons_zero, List.set_cons_succ, i64_w, i32_w]
          rfl
        refine done_ (by kernel_rfl) ?_
        try go_wp2
        refine bodyPost_ret (results_list (rs := [.cell 4 27, .cell 5 27, .tmp 6]) rfl (by simp) (.cell gb547 27 #[.bool t557, .slice Ao65 t558.length co65] (0, 0) _ rfl (by (with_reducible repeat (first | refine blk_drewN ?_ _ | refine blk_drew ?_ | refine blk_alloc ?_ _)); refine blk_far ?_ NB547_548.out _; (with_reducible repeat (first | refine blk_drewN ?_ _ | refine blk_drew ?_ | refine blk_alloc ?_ _)); refine blk_far ?_ NB547_548.out _; (with_reducible repeat (first | refine blk_drewN ?_ _ | refine blk_drew ?_ | refine blk_alloc ?_ _)); refine blk_put (cs := #[.bool t557, .slice none 0 0]) ?_ 1 _ rfl; (with_reducible repeat (first | refine blk_drewN ?_ _ | refine blk_drew ?_ | refine blk_alloc ?_ _)); refine blk_put (cs := #[.bool false, .slice none 0 0]) ?_ 0 _ rfl; (with_reducible repeat (first | refine blk_drewN ?_ _ | refine blk_drew ?_ | refine blk_alloc ?_ _)); exact BK547.out) Try.underlying27 rfl (by kernel_rfl) (.cell gb548 27 #[.bool t563, .slice Ao76 t564.length co76] (0, 0) _ rfl (by (with_reducible repeat (first | refine blk_drewN ?_ _ | refine blk_drew ?_ | refine blk_alloc ?_ _)); refine blk_put (cs := #[.bool t563, .slice none 0 0]) ?_ 1 _ rfl; (with_reducible repeat (first | refine blk_drewN ?_ _ | refine blk_drew ?_ | refine blk_alloc ?_ _)); refine blk_put (cs := #[.bool false, .slice none 0 0]) ?_ 0 _ rfl; (with_reducible repeat (first | refine blk_drewN ?_ _ | refine blk_drew ?_ | refine blk_alloc ?_ _)); refine blk_far ?_ NB548_547.out _; (with_reducible repeat (first | refine blk_drewN ?_ _ | refine blk_drew ?_ | refine blk_alloc ?_ _)); refine blk_far ?_ NB548_547.out _; (with_reducible repeat (first | refine blk_drewN ?_ _ | refine blk_drew ?_ | refine blk_alloc ?_ _)); exact BK548.out) Try.underlying27 rfl (by kernel_rfl) (.tmp .nil)))) rfl ?_
        exact ⟨_, _, by first | rfl | (simp [errW_none, errW_some] <;> rfl) | (simp [*, errW_none, errW_some] <;> rfl), by (with_reducible repeat (first | apply Kd.R_alloc | apply Kd.R_drewN | apply Kd.R_drew)); exact Kd.R_mono (Kd.R_far (p := ⟨gb548, 1, none⟩) (Kd.R_far (p := ⟨gb548, 0, none⟩) (Kd.R_far (p := ⟨gb547, 1, none⟩) (Kd.R_far (p := ⟨gb547, 0, none⟩) (Kd.R_types (Kd.R_types HO560.out BK547.out (by decide)) BK548.out (by decide)) (fun _ hk => hk.1.2) (.bool t557)) (fun _ hk => hk.1.2) (.slice Ao65 t558.length co65)) (fun _ hk => hk.2) (.bool t563)) (fun _ hk => hk.2) (.slice Ao76 t564.length co76)) (fun _ hk => hk.1.1.2.2), by (with_reducible repeat (first | apply Kd.R_alloc | apply Kd.R_drewN | apply Kd.R_drew)); exact Kd.R_mono (Kd.R_far (p := ⟨gb548, 1, none⟩) (Kd.R_far (p := ⟨gb548, 0, none⟩) (Kd.R_far (p := ⟨gb547, 1, none⟩) (Kd.R_far (p := ⟨gb547, 0, none⟩) (Kd.R_types (Kd.R_types HO566.out BK547.out (by decide)) BK548.out (by decide)) (fun _ hk => hk.1.2) (.bool t557)) (fun _ hk => hk.1.2) (.slice Ao65 t558.length co65)) (fun _ hk => hk.2) (.bool t563)) (fun _ hk => hk.2) (.slice Ao76 t564.length co76)) (fun _ hk => hk.1.1.2.2), zb⟩
end Go.Proofs.Ytdemeoncjcbojaa.Pr
end
section
namespace Go.Proofs.Ytdemeoncjcbojaa.Pw
open Go.Proofs.Ytdemeoncjcbojaa.Pr Go.Proofs.Ytdemeoncjcbojaa.RWs Go.RowKit Go.Proofs.YtdemeoncjcbojaaW.PrintWords Go.Proofs.YtdemeoncjcbojaaW.PrintLast Go.Proofs.Ytdemeoncjcbojaa.Ext Go.Proofs.YtdemeoncjcbojaaW.PrintMore
attribute [local go_sem] max2_int min2_int max_two min_two max_three min_three max_four min_four
set_option linter.unusedVariables false
set_option linter.unusedSimpArgs false
theorem spec_BigDiv.calls (k : Nat) (a0_0 : Bool) (A0_1 : Option Addr) (c0_1 : Nat) (l0_1 : List Int) (a1_0 : Bool) (A1_1 : Option Addr) (c1_1 : Nat) (l1_1 : List Int) (r1 : Bool) (r2 : List Int) (r3 : Bool) (r4 : List Int) (r5 : Bool) (w : World) (hr0_1 : Kd.C (Kd.int .i64) w A0_1 l0_1.length l0_1) (hc0_1 : l0_1.length ≤ c0_1) (hr1_1 : Kd.C (Kd.int .i64) w A1_1 l1_1.length l1_1) (hc1_1 : l1_1.length ≤ c1_1) (h : spec_BigDiv.f k a0_0 l0_1 a1_0 l1_1 = some (r1, r2, r3, r4, r5)) :
    Calls Try.prog 44 #[.agg #[.bool a0_0, .slice A0_1 l0_1.length c0_1], .agg #[.bool a1_0, .slice A1_1 l1_1.length c1_1]] w fun e w' => ∃ v1_ v3_ : Value, e = .returned (.tuple #[.agg #[.bool r1, v1_], .agg #[.bool r3, v3_], .bool r5]) ∧ Kd.RW (Kd.int .i64) 3 w' w.heap.size (fun k_ => some k_ ≠ (v3_ : Value).ownBlock) v1_ r2 ∧ Kd.RW (Kd.int .i64) 3 w' w.heap.size (fun k_ => some k_ ≠ (v1_ : Value).ownBlock) v3_ r4 ∧ Below w.heap.size w w' :=
  (Go.Proofs.Ytdemeoncjcbojaa.Pr.spec_BigDiv.calls k a0_0 A0_1 c0_1 l0_1 a1_0 A1_1 c1_1 l1_1 r1 r2 r3 r4 r5 w hr0_1 hc0_1 hr1_1 hc1_1 h).mono (by rintro e w' ⟨v, u, he, ho, hp, hb⟩; exact ⟨v, u, he, Kd.RW_of ho, Kd.RW_of hp, hb⟩)
set_option maxHeartbeats 8000000 in
set_option maxRecDepth 100000 in
theorem impl_BigDiv.calls (k : Nat) (a0_0 : Bool) (A0_1 : Option Addr) (c0_1 : Nat) (l0_1 : List Int) (a1_0 : Bool) (A1_1 : Option Addr) (c1_1 : Nat) (l1_1 : List Int) (r1 : Bool) (r2 : List Int) (r3 : Bool) (r4 : List Int) (r5 : Bool) (w : World) (hr0_1 : Kd.C (Kd.int .i64) w A0_1 l0_1.length l0_1) (hc0_1 : l0_1.length ≤ c0_1) (hr1_1 : Kd.C (Kd.int .i64) w A1_1 l1_1.length l1_1) (hc1_1 : l1_1.length ≤ c1_1) (h : impl_BigDiv.f k a0_0 l0_1 a1_0 l1_1 = some (r1, r2, r3, r4, r5)) :
    Calls Try.prog 43 #[.agg #[.bool a0_0, .slice A0_1 l0_1.length c0_1], .agg #[.bool a1_0, .slice A1_1 l1_1.length c1_1]] w fun e w' => ∃ v1_ v3_ : Value, e = .returned (.tuple #[.agg #[.bool r1, v1_], .agg #[.bool r3, v3_], .bool r5]) ∧ Kd.RW (Kd.int .i64) 3 w' w.heap.size (fun k_ => some k_ ≠ (v3_ : Value).ownBlock) v1_ r2 ∧ Kd.RW (Kd.int .i64) 3 w' w.heap.size (fun k_ => some k_ ≠ (v1_ : Value).ownBlock) v3_ r4 ∧ Below w.heap.size w w' := by
  have hu27 := Try.underlying27
  have HR0_1 := Aside0.mk hr0_1
  have HC0_1 := Aside0.mk hc0_1
  clear hr0_1 hc0_1
  have HR1_1 := Aside0.mk hr1_1
  have HC1_1 := Aside0.mk hc1_1
  clear hr1_1 hc1_1
  have HB := Aside0.mk (Below.refl w.heap.size w)
  have H : ((impl_bigs.f a0_0 l0_1 a1_0 l1_1).bind fun t189 => (if t189 = true then (impl_BigDiv.j0 k ((l1_1.length : Int) == 0) a0_0 l0_1 a1_0 l1_1) else (impl_BigDiv.j0 k true a0_0 l0_1 a1_0 l1_1))) = some (r1, r2, r3, r4, r5) := h
  clear h
  have HC3 := Aside0.mk H
  clear H
  go_enter Try.func43, Try.ntmps43
  go_upto_region 1 with (first | ((with_reducible refine gate_dst (N := 2) rfl ?_); (try (refine gate_guard (by rfl) ?_; dsimp only)); refine box_event ?hg (N := 2) ?hd (cs := #[.bool a0_0, .slice A0_1 l0_1.length c0_1]) (t := 27) ?hr ?_; (case hd => rfl); (case hg => rfl); (case hr => first | (go_simp; done) | (go_simp; rfl)); intro gb185 hg w4 hbox hb; have n0_ := Aside0.mk (below_step zb hb); have n1_ := Aside0.mk (hbox); have n2_ := Aside0.mk ((by rw [hg]; exact (below_size zb) : w.heap.size ≤ gb185)); have n3_ := Aside0.mk ((by rw [hg]; exact (below_size zb) : w.heap.size ≤ gb185)); clear HB; have HB := n0_; have BK185 := n1_; have GW185 := n2_; have GE185 := n3_; clear n0_ n1_ n2_ n3_; clear hb hbox hg) | ((with_reducible refine gate_dst (N := 3) rfl ?_); (try (refine gate_guard (by rfl) ?_; dsimp only)); refine box_event ?hg (N := 3) ?hd (cs := #[.bool a1_0, .slice A1_1 l1_1.length c1_1]) (t := 27) ?hr ?_; (case hd => rfl); (case hg => rfl); (case hr => first | (go_simp; done) | (go_simp; rfl)); intro gb186 hg w5 hbox hb; have n0_ := Aside0.mk (blk_below (g := gb185) (o := .cells #[.bool a0_0, .slice A0_1 l0_1.length c0_1] 27 (0, 0)) (zk BK185.out) hb); have n1_ := Aside0.mk (below_step zb hb); have n2_ := Aside0.mk (hbox); have n3_ := Aside0.mk ((by rw [hg]; exact (below_size zb) : w.heap.size ≤ gb186)); have n4_ := Aside0.mk ((by rw [hg]; exact (below_size zb) : w.heap.size ≤ gb186)); have n5_ := Aside0.mk ((by rw [hg]; exact Nat.ne_of_lt (blk_lt (g := gb185) (o := .cells #[.bool a0_0, .slice A0_1 l0_1.length c0_1] 27 (0, 0)) (zk BK185.out)) : gb185 ≠ gb186)); have n6_ := Aside0.mk ((by rw [hg]; exact Nat.ne_of_gt (blk_lt (g := gb185) (o := .cells #[.bool a0_0, .slice A0_1 l0_1.length c0_1] 27 (0, 0)) (zk BK185.out)) : gb186 ≠ gb185)); clear BK185; clear HB; have BK185 := n0_; have HB := n1_; have BK186 := n2_; have GW186 := n3_; have GE186 := n4_; have NB185_186 := n5_; have NB186_185 := n6_; clear n0_ n1_ n2_ n3_ n4_ n5_ n6_; clear hb hbox hg) | ((with_reducible refine gate_dst (N := 4) rfl ?_); (try (refine gate_guard (by rfl) ?_; dsimp only)); refine box_event ?hg (N := 4) ?hd (cs := #[.bool false, .slice none 0 0]) (t := 27) ?hr ?_; (case hd => rfl); (case hg => rfl); (case hr => first | (go_simp; done) | (go_simp; rfl)); intro gb187 hg w6 hbox hb; have n0_ := Aside0.mk (blk_below (g := gb185) (o := .cells #[.bool a0_0, .slice A0_1 l0_1.length c0_1] 27 (0, 0)) (zk BK185.out) hb); have n1_ := Aside0.mk (blk_below (g := gb186) (o := .cells #[.bool a1_0, .slice A1_1 l1_1.length c1_1] 27 (0, 0)) (zk BK186.out) hb); have n2_ := Aside0.mk (below_step zb hb); have n3_ := Aside0.mk (hbox); have n4_ := Aside0.mk ((by rw [hg]; exact (below_size zb) : w.heap.size ≤ gb187)); have n5_ := Aside0.mk ((by rw [hg]; exact (below_size zb) : w.heap.size ≤ gb187)); have n6_ := Aside0.mk ((by rw [hg]; exact Nat.ne_of_lt (blk_lt (g := gb185) (o := .cells #[.bool a0_0, .slice A0_1 l0_1.length c0_1] 27 (0, 0)) (zk BK185.out)) : gb185 ≠ gb187)); have n7_ := Aside0.mk ((by rw [hg]; exact Nat.ne_of_gt (blk_lt (g := gb185) (o := .cells #[.bool a0_0, .slice A0_1 l0_1.length c0_1] 27 (0, 0)) (zk BK185.out)) : gb187 ≠ gb185)); have n8_ := Aside0.mk ((by rw [hg]; exact Nat.ne_of_lt (blk_lt (g := gb186) (o := .cells #[.bool a1_0, .slice A1_1 l1_1.length c1_1] 27 (0, 0)) (zk BK186.out)) : gb186 ≠ gb187)); have n9_ := Aside0.mk ((by rw [hg]; exact Nat.ne_of_gt (blk_lt (g := gb186) (o := .cells #[.bool a1_0, .slice A1_1 l1_1.length c1_1] 27 (0, 0)) (zk BK186.out)) : gb187 ≠ gb186)); clear BK185; clear BK186; clear HB; have BK185 := n0_; have BK186 := n1_; have HB := n2_; have BK187 := n3_; have GW187 := n4_; have GE187 := n5_; have NB185_187 := n6_; have NB187_185 := n7_; have NB186_187 := n8_; have NB187_186 := n9_; clear n0_ n1_ n2_ n3_ n4_ n5_ n6_ n7_ n8_ n9_; clear hb hbox hg) | ((with_reducible refine gate_dst (N := 5) rfl ?_); (try (refine gate_guard (by rfl) ?_; dsimp only)); refine box_event ?hg (N := 5) ?hd (cs := #[.bool false, .slice none 0 0]) (t := 27) ?hr ?_; (case hd => rfl); (case hg => rfl); (case hr => first | (go_simp; done) | (go_simp; rfl)); intro gb188 hg w7 hbox hb; have n0_ := Aside0.mk (blk_below (g := gb185) (o := .cells #[.bool a0_0, .slice A0_1 l0_1.length c0_1] 27 (0, 0)) (zk BK185.out) hb); have n1_ := Aside0.mk (blk_below (g := gb186) (o := .cells #[.bool a1_0, .slice A1_1 l1_1.length c1_1] 27 (0, 0)) (zk BK186.out) hb); have n2_ := Aside0.mk (blk_below (g := gb187) (o := .cells #[.bool false, .slice none 0 0] 27 (0, 0)) (zk BK187.out) hb); have n3_ := Aside0.mk (below_step zb hb); have n4_ := Aside0.mk (hbox); have n5_ := Aside0.mk ((by rw [hg]; exact (below_size zb) : w.heap.size ≤ gb188)); have n6_ := Aside0.mk ((by rw [hg]; exact (below_size zb) : w.heap.size ≤ gb188)); have n7_ := Aside0.mk ((by rw [hg]; exact Nat.ne_of_lt (blk_lt (g := gb185) (o := .cells #[.bool a0_0, .slice A0_1 l0_1.length c0_1] 27 (0, 0)) (zk BK185.out)) : gb185 ≠ gb188)); have n8_ := Aside0.mk ((by rw [hg]; exact Nat.ne_of_gt (blk_lt (g := gb185) (o := .cells #[.bool a0_0, .slice A0_1 l0_1.length c0_1] 27 (0, 0)) (zk BK185.out)) : gb188 ≠ gb185)); have n9_ := Aside0.mk ((by rw [hg]; exact Nat.ne_of_lt (blk_lt (g := gb186) (o := .cells #[.bool a1_0, .slice A1_1 l1_1.length c1_1] 27 (0, 0)) (zk BK186.out)) : gb186 ≠ gb188)); have n10_ := Aside0.mk ((by rw [hg]; exact Nat.ne_of_gt (blk_lt (g := gb186) (o := .cells #[.bool a1_0, .slice A1_1 l1_1.length c1_1] 27 (0, 0)) (zk BK186.out)) : gb188 ≠ gb186)); have n11_ := Aside0.mk ((by rw [hg]; exact Nat.ne_of_lt (blk_lt (g := gb187) (o := .cells #[.bool false, .slice none 0 0] 27 (0, 0)) (zk BK187.out)) : gb187 ≠ gb188)); have n12_ := Aside0.mk ((by rw [hg]; exact Nat.ne_of_gt (blk_lt (g := gb187) (o := .cells #[.bool false, .slice none 0 0] 27 (0, 0)) (zk BK187.out)) : gb188 ≠ gb187)); clear BK185; clear BK186; clear BK187; clear HB; have BK185 := n0_; have BK186 := n1_; have BK187 := n2_; have HB := n3_; have BK188 := n4_; have GW188 := n5_; have GE188 := n6_; have NB185_188 := n7_; have NB188_185 := n8_; have NB186_188 := n9_; have NB188_186 := n10_; have NB187_188 := n11_; have NB188_187 := n12_; clear n0_ n1_ n2_ n3_ n4_ n5_ n6_ n7_ n8_ n9_ n10_ n11_ n12_; clear hb hbox hg))
  (try simp only [Act.put, List.setIfInBounds_toArray, List.set_cons_zero, List.set_cons_succ])
  go_cut [22] (fun v22 wc => ∃ (kq : Nat) (x22_2 : Bool), v22 = .bool x22_2 ∧ Aside0 (impl_BigDiv.j0 kq x22_2 a0_0 l0_1 a1_0 l1_1 = some (r1, r2, r3, r4, r5)) ∧ Aside0 (kq ≤ k) ∧ Aside0 (wc.heap[gb185]? = some (.cells #[.bool a0_0, (.slice A0_1 l0_1.length c0_1)] 27 (0, 0))) ∧ Aside0 (wc.heap[gb186]? = some (.cells #[.bool a1_0, (.slice A1_1 l1_1.length c1_1)] 27 (0, 0))) ∧ Aside0 (wc.heap[gb187]? = some (.cells #[.bool false, (.slice none 0 0)] 27 (0, 0))) ∧ Aside0 (wc.heap[gb188]? = some (.cells #[.bool false, (.slice none 0 0)] 27 (0, 0))) ∧ Aside0 (Below w.heap.size w wc))
  case first =>
    have H := HC3.out
    clear HC3
    replace H := Option.bind_eq_some_iff.mp H
    obtain ⟨t189, A80, H⟩ := H
    replace H : (if t189 = true then (impl_BigDiv.j0 k ((l1_1.length : Int) == 0) a0_0 l0_1 a1_0 l1_1) else (impl_BigDiv.j0 k true a0_0 l0_1 a1_0 l1_1)) = some (r1, r2, r3, r4, r5) := H
    have A8 := Aside0.mk A80
    clear A80
    by_cases c9 : t189 = true
    · subst c9
      have H1 : (impl_BigDiv.j0 k ((l1_1.length : Int) == 0) a0_0 l0_1 a1_0 l1_1) = some (r1, r2, r3, r4, r5) := by rw [if_pos rfl] at H; exact H
      clear H
      have H := H1
      clear H1
      have H' := Aside0.mk H
      clear H
      have hnb10 := NB185_186.out
      have hnc10 := NB186_185.out
      have hnb11 := NB185_187.out
      have hnc11 := NB187_185.out
      have hnb12 := NB185_188.out
      have hnc12 := NB188_185.out
      have hcz13_0 : w7.cell? ⟨gb185, 0, none⟩ = some (.bool a0_0) := (blk_cell BK185.out 0).trans rfl
      have hcz13_1 : w7.cell? ⟨gb185, 1, none⟩ = some (.slice A0_1 l0_1.length c0_1) := (blk_cell BK185.out 1).trans rfl
      have hfz13_0 := blk_frozen BK185.out 0
      have hfz13_1 := blk_frozen BK185.out 1
      have hnb14 := NB186_187.out
      have hnc14 := NB187_186.out
      have hnb15 := NB186_188.out
      have hnc15 := NB188_186.out
      have hcz16_0 : w7.cell? ⟨gb186, 0, none⟩ = some (.bool a1_0) := (blk_cell BK186.out 0).trans rfl
      have hcz16_1 : w7.cell? ⟨gb186, 1, none⟩ = some (.slice A1_1 l1_1.length c1_1) := (blk_cell BK186.out 1).trans rfl
      have hfz16_0 := blk_frozen BK186.out 0
      have hfz16_1 := blk_frozen BK186.out 1
      go_wp2_with (first | ((with_reducible refine gate_callee (f := 67) rfl ?_); refine goesL_ (some 15) rfl rfl Try.func67 (by kernel_rfl) rfl #[.agg #[.bool a0_0, .slice A0_1 l0_1.length c0_1], .agg #[.bool a1_0, .slice A1_1 l1_1.length c1_1]] rfl za ?_; (with_reducible refine (impl_bigs.calls a0_0 _ _ l0_1 a1_0 _ _ l1_1 true _ ?side1 ?side2 ?side3 ?side4 A8.out).mono ?_); (case side1 => repeat (first | exact (Kd.C_below HR0_1.out HB.out) | (with_reducible refine Kd.C_alloc ?_ _) | (with_reducible refine Kd.C_drewN ?_ _) | (with_reducible refine Kd.C_drew ?_))); (case side2 => exact HC0_1.out); (case side3 => repeat (first | exact (Kd.C_below HR1_1.out HB.out) | (with_reducible refine Kd.C_alloc ?_ _) | (with_reducible refine Kd.C_drewN ?_ _) | (with_reducible refine Kd.C_drew ?_))); (case side4 => exact HC1_1.out); rintro e w17 ⟨rfl, hb⟩; refine ⟨_, rfl, ?_⟩; have n0_ := Aside0.mk (blk_below (g := gb185) (o := .cells #[.bool a0_0, .slice A0_1 l0_1.length c0_1] 27 (0, 0)) (zk BK185.out) hb); have n1_ := Aside0.mk (blk_below (g := gb186) (o := .cells #[.bool a1_0, .slice A1_1 l1_1.length c1_1] 27 (0, 0)) (zk BK186.out) hb); have n2_ := Aside0.mk (blk_below (g := gb187) (o := .cells #[.bool false, .slice none 0 0] 27 (0, 0)) (zk BK187.out) hb); have n3_ := Aside0.mk (blk_below (g := gb188) (o := .cells #[.bool false, .slice none 0 0] 27 (0, 0)) (zk BK188.out) hb); have n4_ := Aside0.mk (below_step zb hb); clear BK185; clear BK186; clear BK187; clear BK188; clear HB; have BK185 := n0_; have BK186 := n1_; have BK187 := n2_; have BK188 := n3_; have HB := n4_; clear n0_ n1_ n2_ n3_ n4_; (try clear hb); (try clear hb2); (try clear hk); (try clear hi); have hcz18_0 : w17.cell? ⟨gb186, 0, none⟩ = some (.bool a1_0) := (blk_cell BK186.out 0).trans rfl; have hcz18_1 : w17.cell? ⟨gb186, 1, none⟩ = some (.slice A1_1 l1_1.length c1_1) := (blk_cell BK186.out 1).trans rfl; have hfz18_0 := blk_frozen BK186.out 0; have hfz18_1 := blk_frozen BK186.out 1))
      go_meet
      case rel => exact ⟨_, (((l1_1.length : Int) == 0)), (by first | rfl | (simp; done) | (simp [*]; done)), H', ⟨by first | omega | exact Nat.le_refl _⟩, ⟨by (with_reducible repeat (first | refine blk_drewN ?_ _ | refine blk_drew ?_ | refine blk_alloc ?_ _)); exact BK185.out⟩, ⟨by (with_reducible repeat (first | refine blk_drewN ?_ _ | refine blk_drew ?_ | refine blk_alloc ?_ _)); exact BK186.out⟩, ⟨by (with_reducible repeat (first | refine blk_drewN ?_ _ | refine blk_drew ?_ | refine blk_alloc ?_ _)); exact BK187.out⟩, ⟨by (with_reducible repeat (first | refine blk_drewN ?_ _ | refine blk_drew ?_ | refine blk_alloc ?_ _)); exact BK188.out⟩, ⟨zb⟩⟩
    · replace c9 := Bool.eq_false_iff.mpr c9
      subst c9
      have H1 : (impl_BigDiv.j0 k true a0_0 l0_1 a1_0 l1_1) = some (r1, r2, r3, r4, r5) := by rw [if_neg (show ¬ (false = true) by decide)] at H; exact H
      clear H
      have H := H1
      clear H1
      have H' := Aside0.mk H
      clear H
      have hnb19 := NB185_186.out
      have hnc19 := NB186_185.out
      have hnb20 := NB185_187.out
      have hnc20 := NB187_185.out
      have hnb21 := NB185_188.out
      have hnc21 := NB188_185.out
      have hcz22_0 : w7.cell? ⟨gb185, 0, none⟩ = some (.bool a0_0) := (blk_cell BK185.out 0).trans rfl
      have hcz22_1 : w7.cell? ⟨gb185, 1, none⟩ = some (.slice A0_1 l0_1.length c0_1) := (blk_cell BK185.out 1).trans rfl
      have hfz22_0 := blk_frozen BK185.out 0
      have hfz22_1 := blk_frozen BK185.out 1
      have hnb23 := NB186_187.out
      have hnc23 := NB187_186.out
      have hnb24 := NB186_188.out
      have hnc24 := NB188_186.out
      have hcz25_0 : w7.cell? ⟨gb186, 0, none⟩ = some (.bool a1_0) := (blk_cell BK186.out 0).trans rfl
      have hcz25_1 : w7.cell? ⟨gb186, 1, none⟩ = some (.slice A1_1 l1_1.length c1_1) := (blk_cell BK186.out 1).trans rfl
      have hfz25_0 := blk_frozen BK186.out 0
      have hfz25_1 := blk_frozen BK186.out 1
      go_wp2_with (first | ((with_reducible refine gate_callee (f := 67) rfl ?_); refine goesL_ (some 15) rfl rfl Try.func67 (by kernel_rfl) rfl #[.agg #[.bool a0_0, .slice A0_1 l0_1.length c0_1], .agg #[.bool a1_0, .slice A1_1 l1_1.length c1_1]] rfl za ?_; (with_reducible refine (impl_bigs.calls a0_0 _ _ l0_1 a1_0 _ _ l1_1 false _ ?side1 ?side2 ?side3 ?side4 A8.out).mono ?_); (case side1 => repeat (first | exact (Kd.C_below HR0_1.out HB.out) | (with_reducible refine Kd.C_alloc ?_ _) | (with_reducible refine Kd.C_drewN ?_ _) | (with_reducible refine Kd.C_drew ?_))); (case side2 => exact HC0_1.out); (case side3 => repeat (first | exact (Kd.C_below HR1_1.out HB.out) | (with_reducible refine Kd.C_alloc ?_ _) | (with_reducible refine Kd.C_drewN ?_ _) | (with_reducible refine Kd.C_drew ?_))); (case side4 => exact HC1_1.out); rintro e w26 ⟨rfl, hb⟩; refine ⟨_, rfl, ?_⟩; have n0_ := Aside0.mk (blk_below (g := gb185) (o := .cells #[.bool a0_0, .slice A0_1 l0_1.length c0_1] 27 (0, 0)) (zk BK185.out) hb); have n1_ := Aside0.mk (blk_below (g := gb186) (o := .cells #[.bool a1_0, .slice A1_1 l1_1.length c1_1] 27 (0, 0)) (zk BK186.out) hb); have n2_ := Aside0.mk (blk_below (g := gb187) (o := .cells #[.bool false, .slice none 0 0] 27 (0, 0)) (zk BK187.out) hb); have n3_ := Aside0.mk (blk_below (g := gb188) (o := .cells #[.bool false, .slice none 0 0] 27 (0, 0)) (zk BK188.out) hb); have n4_ := Aside0.mk (below_step zb hb); clear BK185; clear BK186; clear BK187; clear BK188; clear HB; have BK185 := n0_; have BK186 := n1_; have BK187 := n2_; have BK188 := n3_; have HB := n4_; clear n0_ n1_ n2_ n3_ n4_; (try clear hb); (try clear hb2); (try clear hk); (try clear hi)))
      go_meet
      case rel => exact ⟨_, (true), (by first | rfl | (simp; done) | (simp [*]; done)), H', ⟨by first | omega | exact Nat.le_refl _⟩, ⟨by (with_reducible repeat (first | refine blk_drewN ?_ _ | refine blk_drew ?_ | refine blk_alloc ?_ _)); exact BK185.out⟩, ⟨by (with_reducible repeat (first | refine blk_drewN ?_ _ | refine blk_drew ?_ | refine blk_alloc ?_ _)); exact BK186.out⟩, ⟨by (with_reducible repeat (first | refine blk_drewN ?_ _ | refine blk_drew ?_ | refine blk_alloc ?_ _)); exact BK187.out⟩, ⟨by (with_reducible repeat (first | refine blk_drewN ?_ _ | refine blk_drew ?_ | refine blk_alloc ?_ _)); exact BK188.out⟩, ⟨zb⟩⟩
  case rest =>
    clear HC3
    try clear c1
    try clear c2
    try clear p2
    try clear c4
    try clear c6
    try clear c9
    try clear c10
    try clear c11
    try clear c12
    try clear c14
    try clear c15
    try clear c19
    try clear c20
    try clear c21
    try clear c23
    try clear c24
    try clear hcz13_0
    try clear hcz13_1
    try clear hcz16_0
    try clear hcz16_1
    try clear hcz18_0
    try clear hcz18_1
    try clear hcz22_0
    try clear hcz22_1
    try clear hcz25_0
    try clear hcz25_1
    try clear hfz13_0
    try clear hfz13_1
    try clear hfz16_0
    try clear hfz16_1
    try clear hfz18_0
    try clear hfz18_1
    try clear hfz22_0
    try clear hfz22_1
    try clear hfz25_0
    try clear hfz25_1
    obtain ⟨kq, x22_2, rfl, HA, HJ2, BK185, BK186, BK187, BK188, HB⟩ := hcut
    cases kq with
    | zero => exact absurd HA.out (by simp [impl_BigDiv.j0])
    | succ kj2 =>
      have H := HA.out
      clear HA
      simp only [impl_BigDiv.j0] at H
      by_cases c27 : x22_2 = true
      · subst c27
        have H1 : (some (false, ([] : List Int), false, ([] : List Int), false)) = some (r1, r2, r3, r4, r5) := by rw [if_pos rfl] at H; exact H
        clear H
        have H := H1
        clear H1
        simp only [Option.some.injEq, Prod.mk.injEq] at H
        obtain ⟨rfl, rfl, rfl, rfl, rfl⟩ := H
        have hnb28 := NB187_185.out
        have hnc28 := NB185_187.out
        have hnb29 := NB187_186.out
        have hnc29 := NB186_187.out
        have hnb30 := NB187_188.out
        have hnc30 := NB188_187.out
        have hcz31_0 : wc.cell? ⟨gb187, 0, none⟩ = some (.bool false) := (blk_cell BK187.out 0).trans rfl
        have hcz31_1 : wc.cell? ⟨gb187, 1, none⟩ = some (.slice none 0 0) := (blk_cell BK187.out 1).trans rfl
        have hfz31_0 := blk_frozen BK187.out 0
        have hfz31_1 := blk_frozen BK187.out 1
        have hnb32 := NB188_185.out
        have hnc32 := NB185_188.out
        have hnb33 := NB188_186.out
        have hnc33 := NB186_188.out
        have hcz34_0 : wc.cell? ⟨gb188, 0, none⟩ = some (.bool false) := (blk_cell BK188.out 0).trans rfl
        have hcz34_1 : wc.cell? ⟨gb188, 1, none⟩ = some (.slice none 0 0) := (blk_cell BK188.out 1).trans rfl
        have hfz34_0 := blk_frozen BK188.out 0
        have hfz34_1 := blk_frozen BK188.out 1
        go_wp2
        refine bodyPost_ret (results_list (rs := [.cell 4 27, .cell 5 27, .tmp 6]) rfl (by simp) (.cell gb187 27 #[.bool false, .slice none 0 0] (0, 0) _ rfl (by (with_reducible repeat (first | refine blk_drewN ?_ _ | refine blk_drew ?_ | refine blk_alloc ?_ _)); refine blk_far ?_ NB187_188.out _; (with_reducible repeat (first | refine blk_drewN ?_ _ | refine blk_drew ?_ | refine blk_alloc ?_ _)); refine blk_far ?_ NB187_188.out _; (with_reducible repeat (first | refine blk_drewN ?_ _ | refine blk_drew ?_ | refine blk_alloc ?_ _)); refine blk_put (cs := #[.bool false, .slice none 0 0]) ?_ 1 _ rfl; (with_reducible repeat (first | refine blk_drewN ?_ _ | refine blk_drew ?_ | refine blk_alloc ?_ _)); refine blk_put (cs := #[.bool false, .slice none 0 0]) ?_ 0 _ rfl; (with_reducible repeat (first | refine blk_drewN ?_ _ | refine blk_drew ?_ | refine blk_alloc ?_ _)); exact BK187.out) Try.underlying27 rfl (by kernel_rfl) (.cell gb188 27 #[.bool false, .slice none 0 0] (0, 0) _ rfl (by (with_reducible repeat (first | refine blk_drewN ?_ _ | refine blk_drew ?_ | refine blk_alloc ?_ _)); refine blk_put (cs := #[.bool false, .slice none 0 0]) ?_ 1 _ rfl; (with_reducible repeat (first | refine blk_drewN ?_ _ | refine blk_drew ?_ | refine blk_alloc ?_ _)); refine blk_put (cs := #[.bool false, .slice none 0 0]) ?_ 0 _ rfl; (with_reducible repeat (first | refine blk_drewN ?_ _ | refine blk_drew ?_ | refine blk_alloc ?_ _)); refine blk_far ?_ NB188_187.out _; (with_reducible repeat (first | refine blk_drewN ?_ _ | refine blk_drew ?_ | refine blk_alloc ?_ _)); refine blk_far ?_ NB188_187.out _; (with_reducible repeat (first | refine blk_drewN ?_ _ | refine blk_drew ?_ | refine blk_alloc ?_ _)); exact BK188.out) Try.underlying27 rfl (by kernel_rfl) (.tmp .nil)))) rfl ?_
        exact ⟨_, _, by first | rfl | (simp [errW_none, errW_some] <;> rfl) | (simp [*, errW_none, errW_some] <;> rfl), by first | exact Kd.RW_nil _ _ _ _ _ | exact Kd.N_nil _ _ _ _ _ | exact Kd.V_nil _ _ _ _ _ | exact Kd.Q_nil _ _ _ _ _ | exact Kd.S_nil _ _ _ _ _, by first | exact Kd.RW_nil _ _ _ _ _ | exact Kd.N_nil _ _ _ _ _ | exact Kd.V_nil _ _ _ _ _ | exact Kd.Q_nil _ _ _ _ _ | exact Kd.S_nil _ _ _ _ _, zb⟩
      · replace c27 := Bool.eq_false_iff.mpr c27
        subst c27
        have H1 : ((impl_limbs_div.f l0_1 l1_1).bind fun bt190 => ((impl_big.f kj2 (a0_0 != a1_0) bt190.1).bind fun bt196 => ((impl_big.f kj2 a0_0 bt190.2).bind fun bt202 => (some (bt196.1, bt196.2.1, bt202.1, bt202.2.1, true))))) = some (r1, r2, r3, r4, r5) := by rw [if_neg (show ¬ (false = true) by decide)] at H; exact H
        clear H
        have H := H1
        clear H1
        replace H := Option.bind_eq_some_iff.mp H
        obtain ⟨⟨t190, t193⟩, A350, H⟩ := H
        replace H : ((impl_big.f kj2 (a0_0 != a1_0) t190).bind fun bt196 => ((impl_big.f kj2 a0_0 t193).bind fun bt202 => (some (bt196.1, bt196.2.1, bt202.1, bt202.2.1, true)))) = some (r1, r2, r3, r4, r5) := H
        have A35 := Aside0.mk A350
        clear A350
        replace H := Option.bind_eq_some_iff.mp H
        obtain ⟨⟨t196, t197, t200⟩, A360, H⟩ := H
        replace H : ((impl_big.f kj2 a0_0 t193).bind fun bt202 => (some (t196, t197, bt202.1, bt202.2.1, true))) = some (r1, r2, r3, r4, r5) := H
        have A36 := Aside0.mk A360
        clear A360
        replace H := Option.bind_eq_some_iff.mp H
        obtain ⟨⟨t202, t203, t206⟩, A370, H⟩ := H
        replace H : (some (t196, t197, t202, t203, true)) = some (r1, r2, r3, r4, r5) := H
        have A37 := Aside0.mk A370
        clear A370
        simp only [Option.some.injEq, Prod.mk.injEq] at H
        obtain ⟨rfl, rfl, rfl, rfl, rfl⟩ := H
        have hnb38 := NB185_186.out
        have hnc38 := NB186_185.out
        have hnb39 := NB185_187.out
        have hnc39 := NB187_185.out
        have hnb40 := NB185_188.out
        have hnc40 := NB188_185.out
        have hcz41_0 : wc.cell? ⟨gb185, 0, none⟩ = some (.bool a0_0) := (blk_cell BK185.out 0).trans rfl
        have hcz41_1 : wc.cell? ⟨gb185, 1, none⟩ = some (.slice A0_1 l0_1.length c0_1) := (blk_cell BK185.out 1).trans rfl
        have hfz41_0 := blk_frozen BK185.out 0
        have hfz41_1 := blk_frozen BK185.out 1
        have hnb42 := NB186_187.out
        have hnc42 := NB187_186.out
        have hnb43 := NB186_188.out
        have hnc43 := NB188_186.out
        have hcz44_0 : wc.cell? ⟨gb186, 0, none⟩ = some (.bool a1_0) := (blk_cell BK186.out 0).trans rfl
        have hcz44_1 : wc.cell? ⟨gb186, 1, none⟩ = some (.slice A1_1 l1_1.length c1_1) := (blk_cell BK186.out 1).trans rfl
        have hfz44_0 := blk_frozen BK186.out 0
        have hfz44_1 := blk_frozen BK186.out 1
        try go_wp2_with (first | ((with_reducible refine gate_callee (f := 78) rfl ?_); refine goesL_ (some 30) rfl rfl Try.func78 (by kernel_rfl) rfl #[.slice A0_1 l0_1.length c0_1, .slice A1_1 l1_1.length c1_1] rfl za ?_; (with_reducible refine (impl_limbs_div.calls _ _ l0_1 _ _ l1_1 t190 t193 _ ?side1 ?side2 ?side3 ?side4 A35.out).mono ?_); (case side1 => repeat (first | exact (Kd.C_below HR0_1.out HB.out) | (with_reducible refine Kd.C_alloc ?_ _) | (with_reducible refine Kd.C_drewN ?_ _) | (with_reducible refine Kd.C_drew ?_))); (case side2 => exact HC0_1.out); (case side3 => repeat (first | exact (Kd.C_below HR1_1.out HB.out) | (with_reducible refine Kd.C_alloc ?_ _) | (with_reducible refine Kd.C_drewN ?_ _) | (with_reducible refine Kd.C_drew ?_))); (case side4 => exact HC1_1.out); rintro e w45 ⟨v191, v194, rfl, ho0, ho1, hb⟩; refine ⟨_, rfl, ?_⟩; have n0_ := Aside0.mk (Kd.V_lower (Kd.V_mono (ok' := fun k_ => k_ ≠ gb185 ∧ k_ ≠ gb186 ∧ k_ ≠ gb187 ∧ k_ ≠ gb188) ho0 (fun k_ hk_ => ⟨(Kd.freshB (g := gb185) (o := .cells #[.bool a0_0, .slice A0_1 l0_1.length c0_1] 27 (0, 0)) (zk BK185.out) k_ hk_), (Kd.freshB (g := gb186) (o := .cells #[.bool a1_0, .slice A1_1 l1_1.length c1_1] 27 (0, 0)) (zk BK186.out) k_ hk_), (Kd.freshB (g := gb187) (o := .cells #[.bool false, .slice none 0 0] 27 (0, 0)) (zk BK187.out) k_ hk_), (Kd.freshB (g := gb188) (o := .cells #[.bool false, .slice none 0 0] 27 (0, 0)) (zk BK188.out) k_ hk_)⟩)) (below_size zb)); have n1_ := Aside0.mk (Kd.V_lower (Kd.V_mono (ok' := fun k_ => k_ ≠ gb185 ∧ k_ ≠ gb186 ∧ k_ ≠ gb187 ∧ k_ ≠ gb188) ho1 (fun k_ hk_ => ⟨(Kd.freshB (g := gb185) (o := .cells #[.bool a0_0, .slice A0_1 l0_1.length c0_1] 27 (0, 0)) (zk BK185.out) k_ hk_), (Kd.freshB (g := gb186) (o := .cells #[.bool a1_0, .slice A1_1 l1_1.length c1_1] 27 (0, 0)) (zk BK186.out) k_ hk_), (Kd.freshB (g := gb187) (o := .cells #[.bool false, .slice none 0 0] 27 (0, 0)) (zk BK187.out) k_ hk_), (Kd.freshB (g := gb188) (o := .cells #[.bool false, .slice none 0 0] 27 (0, 0)) (zk BK188.out) k_ hk_)⟩)) (below_size zb)); have n2_ := Aside0.mk (blk_below (g := gb185) (o := .cells #[.bool a0_0, .slice A0_1 l0_1.length c0_1] 27 (0, 0)) (zk BK185.out) hb); have n3_ := Aside0.mk (blk_below (g := gb186) (o := .cells #[.bool a1_0, .slice A1_1 l1_1.length c1_1] 27 (0, 0)) (zk BK186.out) hb); have n4_ := Aside0.mk (blk_below (g := gb187) (o := .cells #[.bool false, .slice none 0 0] 27 (0, 0)) (zk BK187.out) hb); have n5_ := Aside0.mk (blk_below (g := gb188) (o := .cells #[.bool false, .slice none 0 0] 27 (0, 0)) (zk BK188.out) hb); have n6_ := Aside0.mk (below_step zb hb); clear BK185; clear BK186; clear BK187; clear BK188; clear HB; have HO192 := n0_; have HO195 := n1_; have BK185 := n2_; have BK186 := n3_; have BK187 := n4_; have BK188 := n5_; have HB := n6_; clear n0_ n1_ n2_ n3_ n4_ n5_ n6_; (try clear hb); (try clear hb2); (try clear hk); (try clear hi); (try clear ho0); (try clear ho1); have hcz46_0 : w45.cell? ⟨gb185, 0, none⟩ = some (.bool a0_0) := (blk_cell BK185.out 0).trans rfl; have hcz46_1 : w45.cell? ⟨gb185, 1, none⟩ = some (.slice A0_1 l0_1.length c0_1) := (blk_cell BK185.out 1).trans rfl; have hfz46_0 := blk_frozen BK185.out 0; have hfz46_1 := blk_frozen BK185.out 1; have hcz47_0 : w45.cell? ⟨gb186, 0, none⟩ = some (.bool a1_0) := (blk_cell BK186.out 0).trans rfl; have hcz47_1 : w45.cell? ⟨gb186, 1, none⟩ = some (.slice A1_1 l1_1.length c1_1) := (blk_cell BK186.out 1).trans rfl; have hfz47_0 := blk_frozen BK186.out 0; have hfz47_1 := blk_frozen BK186.out 1; obtain ⟨Ao48, co48, eo48⟩ := Kd.V_slice HO192.out; subst eo48) | ((with_reducible refine gate_callee (f := 55) rfl ?_); refine goesL_ (some 40) rfl rfl Try.func55 (by kernel_rfl) rfl #[.bool (a0_0 != a1_0), .slice Ao48 t190.length co48] rfl za ?_; (with_reducible refine (impl_big.calls kj2 (a0_0 != a1_0) _ _ t190 t196 t197 t200 _ ?side1 ?side2 A36.out).mono ?_); (case side1 => repeat (first | exact (Kd.V_reads' HO192.out).2.2 | (with_reducible refine Kd.C_alloc ?_ _) | (with_reducible refine Kd.C_drewN ?_ _) | (with_reducible refine Kd.C_drew ?_))); (case side2 => exact (Kd.V_reads' HO192.out).2.1); rintro e w49 ⟨v198, rfl, ho0, hb⟩; refine ⟨_, rfl, ?_⟩; have n0_ := Aside0.mk (Kd.V_elder' (zV HO192.out) (Kd.RW_base ho0) hb); have n1_ := Aside0.mk (Kd.V_elder' (zV HO195.out) (Kd.RW_base ho0) hb); have n2_ := Aside0.mk (Kd.RW_lower ho0 (below_size zb)); have n3_ := Aside0.mk (blk_below (g := gb185) (o := .cells #[.bool a0_0, .slice A0_1 l0_1.length c0_1] 27 (0, 0)) (zk BK185.out) hb); have n4_ := Aside0.mk (blk_below (g := gb186) (o := .cells #[.bool a1_0, .slice A1_1 l1_1.length c1_1] 27 (0, 0)) (zk BK186.out) hb); have n5_ := Aside0.mk (blk_below (g := gb187) (o := .cells #[.bool false, .slice none 0 0] 27 (0, 0)) (zk BK187.out) hb); have n6_ := Aside0.mk (blk_below (g := gb188) (o := .cells #[.bool false, .slice none 0 0] 27 (0, 0)) (zk BK188.out) hb); have n7_ := Aside0.mk (below_step zb hb); clear HO192; clear HO195; clear BK185; clear BK186; clear BK187; clear BK188; clear HB; have HO192 := n0_; have HO195 := n1_; have HO199 := n2_; have BK185 := n3_; have BK186 := n4_; have BK187 := n5_; have BK188 := n6_; have HB := n7_; clear n0_ n1_ n2_ n3_ n4_ n5_ n6_ n7_; (try clear hb); (try clear hb2); (try clear hk); (try clear hi); (try clear ho0)) | ((with_reducible refine gate_dst (N := 9) rfl ?_); (try (refine gate_guard (by rfl) ?_; dsimp only)); refine box_event ?hg (N := 9) ?hd (cs := #[.bool false, .slice none 0 0]) (t := 27) ?hr ?_; (case hd => rfl); (case hg => rfl); (case hr => first | (go_simp; done) | (go_simp; rfl)); intro gb201 hg w50 hbox hb; have n0_ := Aside0.mk (Kd.V_below (Kd.V_elderB (zV HO192.out) gb201 (Nat.le_of_eq hg.symm)) hb); have n1_ := Aside0.mk (Kd.V_below (Kd.V_elderB (zV HO195.out) gb201 (Nat.le_of_eq hg.symm)) hb); have n2_ := Aside0.mk (Kd.RW_below (zRW HO199.out) hb); have n3_ := Aside0.mk (blk_below (g := gb185) (o := .cells #[.bool a0_0, .slice A0_1 l0_1.length c0_1] 27 (0, 0)) (zk BK185.out) hb); have n4_ := Aside0.mk (blk_below (g := gb186) (o := .cells #[.bool a1_0, .slice A1_1 l1_1.length c1_1] 27 (0, 0)) (zk BK186.out) hb); have n5_ := Aside0.mk (blk_below (g := gb187) (o := .cells #[.bool false, .slice none 0 0] 27 (0, 0)) (zk BK187.out) hb); have n6_ := Aside0.mk (blk_below (g := gb188) (o := .cells #[.bool false, .slice none 0 0] 27 (0, 0)) (zk BK188.out) hb); have n7_ := Aside0.mk (below_step zb hb); have n8_ := Aside0.mk (hbox); have n9_ := Aside0.mk ((by rw [hg]; exact (below_size zb) : w.heap.size ≤ gb201)); have n10_ := Aside0.mk ((by rw [hg]; exact (below_size zb) : w.heap.size ≤ gb201)); have n11_ := Aside0.mk ((by rw [hg]; exact Nat.ne_of_lt (blk_lt (g := gb185) (o := .cells #[.bool a0_0, .slice A0_1 l0_1.length c0_1] 27 (0, 0)) (zk BK185.out)) : gb185 ≠ gb201)); have n12_ := Aside0.mk ((by rw [hg]; exact Nat.ne_of_gt (blk_lt (g := gb185) (o := .cells #[.bool a0_0, .slice A0_1 l0_1.length c0_1] 27 (0, 0)) (zk BK185.out)) : gb201 ≠ gb185)); have n13_ := Aside0.mk ((by rw [hg]; exact Nat.ne_of_lt (blk_lt (g := gb186) (o := .cells #[.bool a1_0, .slice A1_1 l1_1.length c1_1] 27 (0, 0)) (zk BK186.out)) : gb186 ≠ gb201)); have n14_ := Aside0.mk ((by rw [hg]; exact Nat.ne_of_gt (blk_lt (g := gb186) (o := .cells #[.bool a1_0, .slice A1_1 l1_1.length c1_1] 27 (0, 0)) (zk BK186.out)) : gb201 ≠ gb186)); have n15_ := Aside0.mk ((by rw [hg]; exact Nat.ne_of_lt (blk_lt (g := gb187) (o := .cells #[.bool false, .slice none 0 0] 27 (0, 0)) (zk BK187.out)) : gb187 ≠ gb201)); have n16_ := Aside0.mk ((by rw [hg]; exact Nat.ne_of_gt (blk_lt (g := gb187) (o := .cells #[.bool false, .slice none 0 0] 27 (0, 0)) (zk BK187.out)) : gb201 ≠ gb187)); have n17_ := Aside0.mk ((by rw [hg]; exact Nat.ne_of_lt (blk_lt (g := gb188) (o := .cells #[.bool false, .slice none 0 0] 27 (0, 0)) (zk BK188.out)) : gb188 ≠ gb201)); have n18_ := Aside0.mk ((by rw [hg]; exact Nat.ne_of_gt (blk_lt (g := gb188) (o := .cells #[.bool false, .slice none 0 0] 27 (0, 0)) (zk BK188.out)) : gb201 ≠ gb188)); clear HO192; clear HO195; clear HO199; clear BK185; clear BK186; clear BK187; clear BK188; clear HB; have HO192 := n0_; have HO195 := n1_; have HO199 := n2_; have BK185 := n3_; have BK186 := n4_; have BK187 := n5_; have BK188 := n6_; have HB := n7_; have BK201 := n8_; have GW201 := n9_; have GE201 := n10_; have NB185_201 := n11_; have NB201_185 := n12_; have NB186_201 := n13_; have NB201_186 := n14_; have NB187_201 := n15_; have NB201_187 := n16_; have NB188_201 := n17_; have NB201_188 := n18_; clear n0_ n1_ n2_ n3_ n4_ n5_ n6_ n7_ n8_ n9_ n10_ n11_ n12_ n13_ n14_ n15_ n16_ n17_ n18_; clear hb hbox hg; have hnb51 := NB201_185.out; have hnc51 := NB185_201.out; have hnb52 := NB201_186.out; have hnc52 := NB186_201.out; have hnb53 := NB201_187.out; have hnc53 := NB187_201.out; have hnb54 := NB201_188.out; have hnc54 := NB188_201.out; have hcz55_0 : w50.cell? ⟨gb201, 0, none⟩ = some (.bool false) := (blk_cell BK201.out 0).trans rfl; have hcz55_1 : w50.cell? ⟨gb201, 1, none⟩ = some (.slice none 0 0) := (blk_cell BK201.out 1).trans rfl; have hfz55_0 := blk_frozen BK201.out 0; have hfz55_1 := blk_frozen BK201.out 1; obtain ⟨Ao56, co56, eo56⟩ := Kd.RW_slice HO199.out; subst eo56; have hcz57_0 : w50.cell? ⟨gb185, 0, none⟩ = some (.bool a0_0) := (blk_cell BK185.out 0).trans rfl; have hcz57_1 : w50.cell? ⟨gb185, 1, none⟩ = some (.slice A0_1 l0_1.length c0_1) := (blk_cell BK185.out 1).trans rfl; have hfz57_0 := blk_frozen BK185.out 0; have hfz57_1 := blk_frozen BK185.out 1; obtain ⟨Ao58, co58, eo58⟩ := Kd.V_slice HO195.out; subst eo58) | ((with_reducible refine gate_callee (f := 55) rfl ?_); refine goesL_ (some 47) rfl rfl Try.func55 (by kernel_rfl) rfl #[.bool a0_0, .slice Ao58 t193.length co58] rfl za ?_; (with_reducible refine (impl_big.calls kj2 a0_0 _ _ t193 t202 t203 t206 _ ?side1 ?side2 A37.out).mono ?_); (case side1 => refine (Kd.V_reads' (e := 3) (base := w.heap.size) (ok := fun k_ => (((k_ ≠ gb185 ∧ (k_ ≠ gb186 ∧ (k_ ≠ gb187 ∧ k_ ≠ gb188))) ∧ some k_ ≠ (.slice Ao56 t197.length co56 : Value).ownBlock) ∧ k_ ≠ gb201)) (n := t193.length) (c := co58) ?_).2.2; exact (by (with_reducible repeat (first | apply Kd.V_alloc | apply Kd.V_drewN | apply Kd.V_drew)); exact (Kd.V_mono (Kd.V_far (p := ⟨gb201, 1, none⟩) (Kd.V_far (p := ⟨gb201, 0, none⟩) (Kd.V_mono HO195.out (fun k_ hk => (⟨hk, hk.2⟩ : _ ∧ k_ ≠ gb201))) (fun _ hk => hk.2) (.bool t196)) (fun _ hk => hk.2) (.slice Ao56 t197.length co56)) (fun _ h_ => h_.1)))); (case side2 => exact (Kd.V_reads' HO195.out).2.1); rintro e w59 ⟨v204, rfl, ho0, hb⟩; refine ⟨_, rfl, ?_⟩; have n0_ := Aside0.mk (Kd.V_elder' (by (with_reducible repeat (first | apply Kd.V_alloc | apply Kd.V_drewN | apply Kd.V_drew)); exact (Kd.V_mono (Kd.V_far (p := ⟨gb201, 1, none⟩) (Kd.V_far (p := ⟨gb201, 0, none⟩) (Kd.V_mono HO192.out (fun k_ hk => (⟨hk, hk.2⟩ : _ ∧ k_ ≠ gb201))) (fun _ hk => hk.2) (.bool t196)) (fun _ hk => hk.2) (.slice Ao56 t197.length co56)) (fun _ h_ => h_.1))) (Kd.RW_base ho0) hb); have n1_ := Aside0.mk (Kd.V_elder' (by (with_reducible repeat (first | apply Kd.V_alloc | apply Kd.V_drewN | apply Kd.V_drew)); exact (Kd.V_mono (Kd.V_far (p := ⟨gb201, 1, none⟩) (Kd.V_far (p := ⟨gb201, 0, none⟩) (Kd.V_mono HO195.out (fun k_ hk => (⟨hk, hk.2⟩ : _ ∧ k_ ≠ gb201))) (fun _ hk => hk.2) (.bool t196)) (fun _ hk => hk.2) (.slice Ao56 t197.length co56)) (fun _ h_ => h_.1))) (Kd.RW_base ho0) hb); have n2_ := Aside0.mk (Kd.RW_elder' (by (with_reducible repeat (first | apply Kd.RW_alloc | apply Kd.RW_drewN | apply Kd.RW_drew)); exact (Kd.RW_mono (Kd.RW_far (p := ⟨gb201, 1, none⟩) (Kd.RW_far (p := ⟨gb201, 0, none⟩) (Kd.RW_types HO199.out BK201.out (by decide)) (fun _ hk => hk.2) (.bool t196)) (fun _ hk => hk.2) (.slice Ao56 t197.length co56)) (fun _ h_ => h_.1))) (Kd.RW_base ho0) hb); have n3_ := Aside0.mk (Kd.RW_lower (Kd.RW_new' ho0 (Kd.RW_lt (by (with_reducible repeat (first | apply Kd.RW_alloc | apply Kd.RW_drewN | apply Kd.RW_drew)); exact (Kd.RW_mono (Kd.RW_far (p := ⟨gb201, 1, none⟩) (Kd.RW_far (p := ⟨gb201, 0, none⟩) (Kd.RW_types HO199.out BK201.out (by decide)) (fun _ hk => hk.2) (.bool t196)) (fun _ hk => hk.2) (.slice Ao56 t197.length co56)) (fun _ h_ => h_.1))))) (below_size zb)); have n4_ := Aside0.mk (blk_below (g := gb185) (o := .cells #[.bool a0_0, .slice A0_1 l0_1.length c0_1] 27 (0, 0)) (zk BK185.out) hb); have n5_ := Aside0.mk (blk_below (g := gb186) (o := .cells #[.bool a1_0, .slice A1_1 l1_1.length c1_1] 27 (0, 0)) (zk BK186.out) hb); have n6_ := Aside0.mk (blk_below (g := gb187) (o := .cells #[.bool false, .slice none 0 0] 27 (0, 0)) (zk BK187.out) hb); have n7_ := Aside0.mk (blk_below (g := gb188) (o := .cells #[.bool false, .slice none 0 0] 27 (0, 0)) (zk BK188.out) hb); have n8_ := Aside0.mk (blk_below (g := gb201) (o := .cells #[.bool t196, .slice Ao56 t197.length co56] 27 (0, 0)) (by (with_reducible repeat (first | refine blk_drewN ?_ _ | refine blk_drew ?_ | refine blk_alloc ?_ _)); refine blk_put (cs := #[.bool t196, .slice none 0 0]) ?_ 1 _ rfl; (with_reducible repeat (first | refine blk_drewN ?_ _ | refine blk_drew ?_ | refine blk_alloc ?_ _)); refine blk_put (cs := #[.bool false, .slice none 0 0]) ?_ 0 _ rfl; (with_reducible repeat (first | refine blk_drewN ?_ _ | refine blk_drew ?_ | refine blk_alloc ?_ _)); exact BK201.out) hb); have n9_ := Aside0.mk (below_step zb hb); clear HO192; clear HO195; clear HO199; clear BK185; clear BK186; clear BK187; clear BK188; clear BK201; clear HB; have HO192 := n0_; have HO195 := n1_; have HO199 := n2_; have HO205 := n3_; have BK185 := n4_; have BK186 := n5_; have BK187 := n6_; have BK188 := n7_; have BK201 := n8_; have HB := n9_; clear n0_ n1_ n2_ n3_ n4_ n5_ n6_ n7_ n8_ n9_; (try clear hb); (try clear hb2); (try clear hk); (try clear hi); (try clear ho0)) | ((with_reducible refine gate_dst (N := 11) rfl ?_); (try (refine gate_guard (by rfl) ?_; dsimp only)); refine box_event ?hg (N := 11) ?hd (cs := #[.bool false, .slice none 0 0]) (t := 27) ?hr ?_; (case hd => rfl); (case hg => rfl); (case hr => first | (go_simp; done) | (go_simp; rfl)); intro gb207 hg w60 hbox hb; have n0_ := Aside0.mk (Kd.V_below (Kd.V_elderB (zV HO192.out) gb207 (Nat.le_of_eq hg.symm)) hb); have n1_ := Aside0.mk (Kd.V_below (Kd.V_elderB (zV HO195.out) gb207 (Nat.le_of_eq hg.symm)) hb); have n2_ := Aside0.mk (Kd.RW_below (zRW HO199.out) hb); have n3_ := Aside0.mk (Kd.RW_below (zRW HO205.out) hb); have n4_ := Aside0.mk (blk_below (g := gb185) (o := .cells #[.bool a0_0, .slice A0_1 l0_1.length c0_1] 27 (0, 0)) (zk BK185.out) hb); have n5_ := Aside0.mk (blk_below (g := gb186) (o := .cells #[.bool a1_0, .slice A1_1 l1_1.length c1_1] 27 (0, 0)) (zk BK186.out) hb); have n6_ := Aside0.mk (blk_below (g := gb187) (o := .cells #[.bool false, .slice none 0 0] 27 (0, 0)) (zk BK187.out) hb); have n7_ := Aside0.mk (blk_below (g := gb188) (o := .cells #[.bool false, .slice none 0 0] 27 (0, 0)) (zk BK188.out) hb); have n8_ := Aside0.mk (blk_below (g := gb201) (o := .cells #[.bool t196, .slice Ao56 t197.length co56] 27 (0, 0)) (zk BK201.out) hb); have n9_ := Aside0.mk (below_step zb hb); have n10_ := Aside0.mk (hbox); have n11_ := Aside0.mk ((by rw [hg]; exact (below_size zb) : w.heap.size ≤ gb207)); have n12_ := Aside0.mk ((by rw [hg]; exact (below_size zb) : w.heap.size ≤ gb207)); have n13_ := Aside0.mk ((by rw [hg]; exact Nat.ne_of_lt (blk_lt (g := gb185) (o := .cells #[.bool a0_0, .slice A0_1 l0_1.length c0_1] 27 (0, 0)) (zk BK185.out)) : gb185 ≠ gb207)); have n14_ := Aside0.mk ((by rw [hg]; exact Nat.ne_of_gt (blk_lt (g := gb185) (o := .cells #[.bool a0_0, .slice A0_1 l0_1.length c0_1] 27 (0, 0)) (zk BK185.out)) : gb207 ≠ gb185)); have n15_ := Aside0.mk ((by rw [hg]; exact Nat.ne_of_lt (blk_lt (g := gb186) (o := .cells #[.bool a1_0, .slice A1_1 l1_1.length c1_1] 27 (0, 0)) (zk BK186.out)) : gb186 ≠ gb207)); have n16_ := Aside0.mk ((by rw [hg]; exact Nat.ne_of_gt (blk_lt (g := gb186) (o := .cells #[.bool a1_0, .slice A1_1 l1_1.length c1_1] 27 (0, 0)) (zk BK186.out)) : gb207 ≠ gb186)); have n17_ := Aside0.mk ((by rw [hg]; exact Nat.ne_of_lt (blk_lt (g := gb187) (o := .cells #[.bool false, .slice none 0 0] 27 (0, 0)) (zk BK187.out)) : gb187 ≠ gb207)); have n18_ := Aside0.mk ((by rw [hg]; exact Nat.ne_of_gt (blk_lt (g := gb187) (o := .cells #[.bool false, .slice none 0 0] 27 (0, 0)) (zk BK187.out)) : gb207 ≠ gb187)); have n19_ := Aside0.mk ((by rw [hg]; exact Nat.ne_of_lt (blk_lt (g := gb188) (o := .cells #[.bool false, .slice none 0 0] 27 (0, 0)) (zk BK188.out)) : gb188 ≠ gb207)); have n20_ := Aside0.mk ((by rw [hg]; exact Nat.ne_of_gt (blk_lt (g := gb188) (o := .cells #[.bool false, .slice none 0 0] 27 (0, 0)) (zk BK188.out)) : gb207 ≠ gb188)); have n21_ := Aside0.mk ((by rw [hg]; exact Nat.ne_of_lt (blk_lt (g := gb201) (o := .cells #[.bool t196, .slice Ao56 t197.length co56] 27 (0, 0)) (zk BK201.out)) : gb201 ≠ gb207)); have n22_ := Aside0.mk ((by rw [hg]; exact Nat.ne_of_gt (blk_lt (g := gb201) (o := .cells #[.bool t196, .slice Ao56 t197.length co56] 27 (0, 0)) (zk BK201.out)) : gb207 ≠ gb201)); clear HO192; clear HO195; clear HO199; clear HO205; clear BK185; clear BK186; clear BK187; clear BK188; clear BK201; clear HB; have HO192 := n0_; have HO195 := n1_; have HO199 := n2_; have HO205 := n3_; have BK185 := n4_; have BK186 := n5_; have BK187 := n6_; have BK188 := n7_; have BK201 := n8_; have HB := n9_; have BK207 := n10_; have GW207 := n11_; have GE207 := n12_; have NB185_207 := n13_; have NB207_185 := n14_; have NB186_207 := n15_; have NB207_186 := n16_; have NB187_207 := n17_; have NB207_187 := n18_; have NB188_207 := n19_; have NB207_188 := n20_; have NB201_207 := n21_; have NB207_201 := n22_; clear n0_ n1_ n2_ n3_ n4_ n5_ n6_ n7_ n8_ n9_ n10_ n11_ n12_ n13_ n14_ n15_ n16_ n17_ n18_ n19_ n20_ n21_ n22_; clear hb hbox hg; have hnb61 := NB207_185.out; have hnc61 := NB185_207.out; have hnb62 := NB207_186.out; have hnc62 := NB186_207.out; have hnb63 := NB207_187.out; have hnc63 := NB187_207.out; have hnb64 := NB207_188.out; have hnc64 := NB188_207.out; have hnb65 := NB207_201.out; have hnc65 := NB201_207.out; have hcz66_0 : w60.cell? ⟨gb207, 0, none⟩ = some (.bool false) := (blk_cell BK207.out 0).trans rfl; have hcz66_1 : w60.cell? ⟨gb207, 1, none⟩ = some (.slice none 0 0) := (blk_cell BK207.out 1).trans rfl; have hfz66_0 := blk_frozen BK207.out 0; have hfz66_1 := blk_frozen BK207.out 1; obtain ⟨Ao67, co67, eo67⟩ := Kd.RW_slice HO205.out; subst eo67))
        have n0_ : Aside0 (Kd.V (Kd.int .i64) 3 ((w60.setCell ⟨gb207, 0, none⟩ (.bool t202)).setCell ⟨gb207, 1, none⟩ (.slice Ao67 t203.length co67)) w.heap.size (fun k_ => some k_ ≠ (.slice Ao56 t197.length co56 : Value).ownBlock ∧ some k_ ≠ (.slice Ao67 t203.length co67 : Value).ownBlock ∧ k_ ≠ gb185 ∧ k_ ≠ gb186 ∧ k_ ≠ gb187 ∧ k_ ≠ gb188 ∧ k_ ≠ gb201 ∧ k_ ≠ gb207) (.slice Ao48 t190.length co48) t190) := ⟨by (with_reducible repeat (first | apply Kd.V_alloc | apply Kd.V_drewN | apply Kd.V_drew)); exact Kd.V_mono (Kd.V_far (p := ⟨gb207, 1, none⟩) (Kd.V_far (p := ⟨gb207, 0, none⟩) (Kd.V_mono HO192.out (fun k_ hk => (⟨hk, hk.2⟩ : _ ∧ k_ ≠ gb207))) (fun _ hk => hk.2) (.bool t202)) (fun _ hk => hk.2) (.slice Ao67 t203.length co67)) (fun _ hk => ⟨hk.1.1.1.1.2, ⟨hk.1.1.2, ⟨hk.1.1.1.1.1.1, ⟨hk.1.1.1.1.1.2.1, ⟨hk.1.1.1.1.1.2.2.1, ⟨hk.1.1.1.1.1.2.2.2, ⟨hk.1.1.1.2, hk.1.2⟩⟩⟩⟩⟩⟩⟩)⟩
        have n1_ : Aside0 (Kd.V (Kd.int .i64) 3 ((w60.setCell ⟨gb207, 0, none⟩ (.bool t202)).setCell ⟨gb207, 1, none⟩ (.slice Ao67 t203.length co67)) w.heap.size (fun k_ => some k_ ≠ (.slice Ao56 t197.length co56 : Value).ownBlock ∧ some k_ ≠ (.slice Ao67 t203.length co67 : Value).ownBlock ∧ k_ ≠ gb185 ∧ k_ ≠ gb186 ∧ k_ ≠ gb187 ∧ k_ ≠ gb188 ∧ k_ ≠ gb201 ∧ k_ ≠ gb207) (.slice Ao58 t193.length co58) t193) := ⟨by (with_reducible repeat (first | apply Kd.V_alloc | apply Kd.V_drewN | apply Kd.V_drew)); exact Kd.V_mono (Kd.V_far (p := ⟨gb207, 1, none⟩) (Kd.V_far (p := ⟨gb207, 0, none⟩) (Kd.V_mono HO195.out (fun k_ hk => (⟨hk, hk.2⟩ : _ ∧ k_ ≠ gb207))) (fun _ hk => hk.2) (.bool t202)) (fun _ hk => hk.2) (.slice Ao67 t203.length co67)) (fun _ hk => ⟨hk.1.1.1.1.2, ⟨hk.1.1.2, ⟨hk.1.1.1.1.1.1, ⟨hk.1.1.1.1.1.2.1, ⟨hk.1.1.1.1.1.2.2.1, ⟨hk.1.1.1.1.1.2.2.2, ⟨hk.1.1.1.2, hk.1.2⟩⟩⟩⟩⟩⟩⟩)⟩
        have n2_ : Aside0 (Kd.RW (Kd.int .i64) 3 ((w60.setCell ⟨gb207, 0, none⟩ (.bool t202)).setCell ⟨gb207, 1, none⟩ (.slice Ao67 t203.length co67)) w.heap.size (fun k_ => some k_ ≠ (.slice Ao67 t203.length co67 : Value).ownBlock) (.slice Ao56 t197.length co56) t197) := ⟨by (with_reducible repeat (first | apply Kd.RW_alloc | apply Kd.RW_drewN | apply Kd.RW_drew)); exact Kd.RW_mono (Kd.RW_far (p := ⟨gb207, 1, none⟩) (Kd.RW_far (p := ⟨gb207, 0, none⟩) (Kd.RW_types HO199.out BK207.out (by decide)) (fun _ hk => hk.2) (.bool t202)) (fun _ hk => hk.2) (.slice Ao67 t203.length co67)) (fun _ hk => hk.1.2)⟩
        have n3_ : Aside0 (Kd.RW (Kd.int .i64) 3 ((w60.setCell ⟨gb207, 0, none⟩ (.bool t202)).setCell ⟨gb207, 1, none⟩ (.slice Ao67 t203.length co67)) w.heap.size (fun k_ => some k_ ≠ (.slice Ao56 t197.length co56 : Value).ownBlock) (.slice Ao67 t203.length co67) t203) := ⟨by (with_reducible repeat (first | apply Kd.RW_alloc | apply Kd.RW_drewN | apply Kd.RW_drew)); exact Kd.RW_mono (Kd.RW_far (p := ⟨gb207, 1, none⟩) (Kd.RW_far (p := ⟨gb207, 0, none⟩) (Kd.RW_types HO205.out BK207.out (by decide)) (fun _ hk => hk.2) (.bool t202)) (fun _ hk => hk.2) (.slice Ao67 t203.length co67)) (fun _ hk => hk.1.2)⟩
        have n4_ : Aside0 (((w60.setCell ⟨gb207, 0, none⟩ (.bool t202)).setCell ⟨gb207, 1, none⟩ (.slice Ao67 t203.length co67)).heap[gb185]? = some (.cells #[.bool a0_0, .slice A0_1 l0_1.length c0_1] 27 (0, 0))) := ⟨by (with_reducible repeat (first | refine blk_drewN ?_ _ | refine blk_drew ?_ | refine blk_alloc ?_ _)); refine blk_far ?_ NB185_207.out _; (with_reducible repeat (first | refine blk_drewN ?_ _ | refine blk_drew ?_ | refine blk_alloc ?_ _)); refine blk_far ?_ NB185_207.out _; (with_reducible repeat (first | refine blk_drewN ?_ _ | refine blk_drew ?_ | refine blk_alloc ?_ _)); exact BK185.out⟩
        have n5_ : Aside0 (((w60.setCell ⟨gb207, 0, none⟩ (.bool t202)).setCell ⟨gb207, 1, none⟩ (.slice Ao67 t203.length co67)).heap[gb186]? = some (.cells #[.bool a1_0, .slice A1_1 l1_1.length c1_1] 27 (0, 0))) := ⟨by (with_reducible repeat (first | refine blk_drewN ?_ _ | refine blk_drew ?_ | refine blk_alloc ?_ _)); refine blk_far ?_ NB186_207.out _; (with_reducible repeat (first | refine blk_drewN ?_ _ | refine blk_drew ?_ | refine blk_alloc ?_ _)); refine blk_far ?_ NB186_207.out _; (with_reducible repeat (first | refine blk_drewN ?_ _ | refine blk_drew ?_ | refine blk_alloc ?_ _)); exact BK186.out⟩
        have n6_ : Aside0 (((w60.setCell ⟨gb207, 0, none⟩ (.bool t202)).setCell ⟨gb207, 1, none⟩ (.slice Ao67 t203.length co67)).heap[gb187]? = some (.cells #[.bool false, .slice none 0 0] 27 (0, 0))) := ⟨by (with_reducible repeat (first | refine blk_drewN ?_ _ | refine blk_drew ?_ | refine blk_alloc ?_ _)); refine blk_far ?_ NB187_207.out _; (with_reducible repeat (first | refine blk_drewN ?_ _ | refine blk_drew ?_ | refine blk_alloc ?_ _)); refine blk_far ?_ NB187_207.out _; (with_reducible repeat (first | refine blk_drewN ?_ _ | refine blk_drew ?_ | refine blk_alloc ?_ _)); exact BK187.out⟩
        have n7_ : Aside0 (((w60.setCell ⟨gb207, 0, none⟩ (.bool t202)).setCell ⟨gb207, 1, none⟩ (.slice Ao67 t203.length co67)).heap[gb188]? = some (.cells #[.bool false, .slice none 0 0] 27 (0, 0))) := ⟨by (with_reducible repeat (first | refine blk_drewN ?_ _ | refine blk_drew ?_ | refine blk_alloc ?_ _)); refine blk_far ?_ NB188_207.out _; (with_reducible repeat (first | refine blk_drewN ?_ _ | refine blk_drew ?_ | refine blk_alloc ?_ _)); refine blk_far ?_ NB188_207.out _; (with_reducible repeat (first | refine blk_drewN ?_ _ | refine blk_drew ?_ | refine blk_alloc ?_ _)); exact BK188.out⟩
        have n8_ : Aside0 (((w60.setCell ⟨gb207, 0, none⟩ (.bool t202)).setCell ⟨gb207, 1, none⟩ (.slice Ao67 t203.length co67)).heap[gb201]? = some (.cells #[.bool t196, .slice Ao56 t197.length co56] 27 (0, 0))) := ⟨by (with_reducible repeat (first | refine blk_drewN ?_ _ | refine blk_drew ?_ | refine blk_alloc ?_ _)); refine blk_far ?_ NB201_207.out _; (with_reducible repeat (first | refine blk_drewN ?_ _ | refine blk_drew ?_ | refine blk_alloc ?_ _)); refine blk_far ?_ NB201_207.out _; (with_reducible repeat (first | refine blk_drewN ?_ _ | refine blk_drew ?_ | refine blk_alloc ?_ _)); exact BK201.out⟩
        have n9_ : Aside0 (((w60.setCell ⟨gb207, 0, none⟩ (.bool t202)).setCell ⟨gb207, 1, none⟩ (.slice Ao67 t203.length co67)).heap[gb207]? = some (.cells #[.bool t202, .slice Ao67 t203.length co67] 27 (0, 0))) := ⟨by (with_reducible repeat (first | refine blk_drewN ?_ _ | refine blk_drew ?_ | refine blk_alloc ?_ _)); refine blk_put (cs := #[.bool t202, .slice none 0 0]) ?_ 1 _ rfl; (with_reducible repeat (first | refine blk_drewN ?_ _ | refine blk_drew ?_ | refine blk_alloc ?_ _)); refine blk_put (cs := #[.bool false, .slice none 0 0]) ?_ 0 _ rfl; (with_reducible repeat (first | refine blk_drewN ?_ _ | refine blk_drew ?_ | refine blk_alloc ?_ _)); exact BK207.out⟩
        have n10_ : Aside0 (Below w.heap.size w ((w60.setCell ⟨gb207, 0, none⟩ (.bool t202)).setCell ⟨gb207, 1, none⟩ (.slice Ao67 t203.length co67))) := ⟨zb⟩
        (try clear HO192)
        (try clear HO195)
        (try clear HO199)
        (try clear HO205)
        (try clear BK185)
        (try clear BK186)
        (try clear BK187)
        (try clear BK188)
        (try clear BK201)
        (try clear BK207)
        (try clear HB)
        generalize ((w60.setCell ⟨gb207, 0, none⟩ (.bool t202)).setCell ⟨gb207, 1, none⟩ (.slice Ao67 t203.length co67)) = w68 at n0_ n1_ n2_ n3_ n4_ n5_ n6_ n7_ n8_ n9_ n10_ ⊢
        have HO192 := n0_
        have HO195 := n1_
        have HO199 := n2_
        have HO205 := n3_
        have BK185 := n4_
        have BK186 := n5_
        have BK187 := n6_
        have BK188 := n7_
        have BK201 := n8_
        have BK207 := n9_
        have HB := n10_
        clear n0_ n1_ n2_ n3_ n4_ n5_ n6_ n7_ n8_ n9_ n10_
        have n0_ := Aside0.mk (Kd.V_drew HO192.out)
        have n1_ := Aside0.mk (Kd.V_drew HO195.out)
        have n2_ := Aside0.mk (Kd.RW_drew HO199.out)
        have n3_ := Aside0.mk (Kd.RW_drew HO205.out)
        have n4_ := Aside0.mk (blk_drew BK185.out)
        have n5_ := Aside0.mk (blk_drew BK186.out)
        have n6_ := Aside0.mk (blk_drew BK187.out)
        have n7_ := Aside0.mk (blk_drew BK188.out)
        have n8_ := Aside0.mk (blk_drew BK201.out)
        have n9_ := Aside0.mk (blk_drew BK207.out)
        have n10_ := Aside0.mk (below_drew1 HB.out)
        clear HO192
        clear HO195
        clear HO199
        clear HO205
        clear BK185
        clear BK186
        clear BK187
        clear BK188
        clear BK201
        clear BK207
        clear HB
        have HO192 := n0_
        have HO195 := n1_
        have HO199 := n2_
        have HO205 := n3_
        have BK185 := n4_
        have BK186 := n5_
        have BK187 := n6_
        have BK188 := n7_
        have BK201 := n8_
        have BK207 := n9_
        have HB := n10_
        clear n0_ n1_ n2_ n3_ n4_ n5_ n6_ n7_ n8_ n9_ n10_
        refine start_ (n := 5) (S := fun w' => w'.cell? ⟨gb201, 0, none⟩ = some (.bool t196) ∧ w'.cell? ⟨gb201, 1, none⟩ = some (.slice Ao56 t197.length co56) ∧ w'.cell? ⟨gb207, 0, none⟩ = some (.bool t202) ∧ w'.cell? ⟨gb207, 1, none⟩ = some (.slice Ao67 t203.length co67)) (ds := []) #[false, false, false, false, false] (by kernel_rfl) rfl rfl ⟨(blk_cell BK201.out 0).trans rfl, (blk_cell BK201.out 1).trans rfl, (blk_cell BK207.out 0).trans rfl, (blk_cell BK207.out 1).trans rfl⟩ (fun hHeld => ?_)
        generalize w68.drew = w69 at HO192 HO195 HO199 HO205 BK185 BK186 BK187 BK188 BK201 BK207 HB hHeld ⊢
        refine take_ (i := 0) (N := some 50) (v := ?_) (a' := ?_) #[true, false, false, false, false] rfl rfl (by kernel_rfl) (fun _ _ _ h => h) (Or.inl ⟨by rfl, ?_⟩) hHeld ?_ ?_
        rotate_left
        · rintro w' ⟨s0, s1, s2, s3⟩
          go_simp
          with_reducible rfl
        rotate_left
        · simp only [Act.put, List.setIfInBounds_toArray, List.set_cons_zero, List.set_cons_succ, i64_w, i32_w]
          rfl
        refine take_ (i := 1) (N := some 51) (v := ?_) (a' := ?_) #[true, true, false, false, false] rfl rfl (by kernel_rfl) (fun _ _ _ h => h) (Or.inl ⟨by rfl, ?_⟩) hHeld ?_ ?_
        rotate_left
        · rintro w' ⟨s0, s1, s2, s3⟩
          go_simp
          with_reducible rfl
        rotate_left
        · simp only [Act.put, List.setIfInBounds_toArray, List.set_cons_zero, List.set_cons_succ, i64_w, i32_w]
          rfl
        refine one_ (i := 2) (N := none) #[true, true, true, false, false] rfl rfl (by kernel_rfl) (by decide) (fun K hK => ?_)
        have hs70 : w69.cell? ⟨gb187, 0, none⟩ = some (.bool false) := (blk_cell BK187.out 0).trans rfl
        have hfs70 := blk_frozen BK187.out 0
        have hns70_0 := NB185_187.out
        have hns70_1 := NB186_187.out
        have hns70_3 := NB188_187.out
        have hns70_4 := NB201_187.out
        have hns70_5 := NB207_187.out
        have hms70_0 := NB187_185.out
        have hms70_1 := NB187_186.out
        have hms70_3 := NB187_188.out
        have hms70_4 := NB187_201.out
        have hms70_5 := NB187_207.out
        have hs71 : w69.cell? ⟨gb187, 1, none⟩ = some (.slice none 0 0) := (blk_cell BK187.out 1).trans rfl
        have hfs71 := blk_frozen BK187.out 1
        have hns71_0 := NB185_187.out
        have hns71_1 := NB186_187.out
        have hns71_3 := NB188_187.out
        have hns71_4 := NB201_187.out
        have hns71_5 := NB207_187.out
        have hms71_0 := NB187_185.out
        have hms71_1 := NB187_186.out
        have hms71_3 := NB187_188.out
        have hms71_4 := NB187_201.out
        have hms71_5 := NB187_207.out
        refine skip_ (w1 := ?_) (by rfl) rfl ?_ ?_
        rotate_left
        · go_simp
          rfl
        refine hK.out _ _ ⟨((cell_far (p := ⟨gb187, _, none⟩) NB201_187.out _).trans (((cell_far (p := ⟨gb187, _, none⟩) NB201_187.out _).trans (hHeld.1)))), ((cell_far (p := ⟨gb187, _, none⟩) NB201_187.out _).trans (((cell_far (p := ⟨gb187, _, none⟩) NB201_187.out _).trans (hHeld.2.1)))), ((cell_far (p := ⟨gb187, _, none⟩) NB207_187.out _).trans (((cell_far (p := ⟨gb187, _, none⟩) NB207_187.out _).trans (hHeld.2.2.1)))), ((cell_far (p := ⟨gb187, _, none⟩) NB207_187.out _).trans (((cell_far (p := ⟨gb187, _, none⟩) NB207_187.out _).trans (hHeld.2.2.2))))⟩ (fun hHeld => ?_)
        clear hK K
        refine one_ (i := 3) (N := none) #[true, true, true, true, false] rfl rfl (by kernel_rfl) (by decide) (fun K hK => ?_)
        have hs72 : w69.cell? ⟨gb188, 0, none⟩ = some (.bool false) := (blk_cell BK188.out 0).trans rfl
        have hfs72 := blk_frozen BK188.out 0
        have hns72_0 := NB185_188.out
        have hns72_1 := NB186_188.out
        have hns72_2 := NB187_188.out
        have hns72_4 := NB201_188.out
        have hns72_5 := NB207_188.out
        have hms72_0 := NB188_185.out
        have hms72_1 := NB188_186.out
        have hms72_2 := NB188_187.out
        have hms72_4 := NB188_201.out
        have hms72_5 := NB188_207.out
        have hs73 : w69.cell? ⟨gb188, 1, none⟩ = some (.slice none 0 0) := (blk_cell BK188.out 1).trans rfl
        have hfs73 := blk_frozen BK188.out 1
        have hns73_0 := NB185_188.out
        have hns73_1 := NB186_188.out
        have hns73_2 := NB187_188.out
        have hns73_4 := NB201_188.out
        have hns73_5 := NB207_188.out
        have hms73_0 := NB188_185.out
        have hms73_1 := NB188_186.out
        have hms73_2 := NB188_187.out
        have hms73_4 := NB188_201.out
        have hms73_5 := NB188_207.out
        refine skip_ (w1 := ?_) (by rfl) rfl ?_ ?_
        rotate_left
        · go_simp
          rfl
        refine hK.out _ _ ⟨((cell_far (p := ⟨gb188, _, none⟩) NB201_188.out _).trans (((cell_far (p := ⟨gb188, _, none⟩) NB201_188.out _).trans (hHeld.1)))), ((cell_far (p := ⟨gb188, _, none⟩) NB201_188.out _).trans (((cell_far (p := ⟨gb188, _, none⟩) NB201_188.out _).trans (hHeld.2.1)))), ((cell_far (p := ⟨gb188, _, none⟩) NB207_188.out _).trans (((cell_far (p := ⟨gb188, _, none⟩) NB207_188.out _).trans (hHeld.2.2.1)))), ((cell_far (p := ⟨gb188, _, none⟩) NB207_188.out _).trans (((cell_far (p := ⟨gb188, _, none⟩) NB207_188.out _).trans (hHeld.2.2.2))))⟩ (fun hHeld => ?_)
        clear hK K
        refine pure_ (i := 4) (N := some 6) (v := ?_) (a' := ?_) #[true, true, true, true, true] rfl rfl (by kernel_rfl) (fun _ _ _ h => h) (Or.inl ⟨by rfl, ?_⟩) ?_ ?_
        rotate_left
        · intro w'
          go_simp
          with_reducible rfl
        rotate_left
        · simp only [Act.put, List.setIfInBounds_toArray, List.set_cons_zero, List.set_cons_succ, i64_w, i32_w]
          rfl
        refine done_ (by kernel_rfl) ?_
        try go_wp2
        refine bodyPost_ret (results_list (rs := [.cell 4 27, .cell 5 27, .tmp 6]) rfl (by simp) (.cell gb187 27 #[.bool t196, .slice Ao56 t197.length co56] (0, 0) _ rfl (by (with_reducible repeat (first | refine blk_drewN ?_ _ | refine blk_drew ?_ | refine blk_alloc ?_ _)); refine blk_far ?_ NB187_188.out _; (with_reducible repeat (first | refine blk_drewN ?_ _ | refine blk_drew ?_ | refine blk_alloc ?_ _)); refine blk_far ?_ NB187_188.out _; (with_reducible repeat (first | refine blk_drewN ?_ _ | refine blk_drew ?_ | refine blk_alloc ?_ _)); refine blk_put (cs := #[.bool t196, .slice none 0 0]) ?_ 1 _ rfl; (with_reducible repeat (first | refine blk_drewN ?_ _ | refine blk_drew ?_ | refine blk_alloc ?_ _)); refine blk_put (cs := #[.bool false, .slice none 0 0]) ?_ 0 _ rfl; (with_reducible repeat (first | refine blk_drewN ?_ _ | refine blk_drew ?_ | refine blk_alloc ?_ _)); exact BK187.out) Try.underlying27 rfl (by kernel_rfl) (.cell gb188 27 #[.bool t202, .slice Ao67 t203.length co67] (0, 0) _ rfl (by (with_reducible repeat (first | refine blk_drewN ?_ _ | refine blk_drew ?_ | refine blk_alloc ?_ _)); refine blk_put (cs := #[.bool t202, .slice none 0 0]) ?_ 1 _ rfl; (with_reducible repeat (first | refine blk_drewN ?_ _ | refine blk_drew ?_ | refine blk_alloc ?_ _)); refine blk_put (cs := #[.bool false, .slice none 0 0]) ?_ 0 _ rfl; (with_reducible repeat (first | refine blk_drewN ?_ _ | refine blk_drew ?_ | refine blk_alloc ?_ _)); refine blk_far ?_ NB188_187.out _; (with_reducible repeat (first | refine blk_drewN ?_ _ | refine blk_drew ?_ | refine blk_alloc ?_ _)); refine blk_far ?_ NB188_187.out _; (with_reducible repeat (first | refine blk_drewN ?_ _ | refine blk_drew ?_ | refine blk_alloc ?_ _)); exact BK188.out) Try.underlying27 rfl (by kernel_rfl) (.tmp .nil)))) rfl ?_
        exact ⟨_, _, by first | rfl | (simp [errW_none, errW_some] <;> rfl) | (simp [*, errW_none, errW_some] <;> rfl), by (with_reducible repeat (first | apply Kd.RW_alloc | apply Kd.RW_drewN | apply Kd.RW_drew)); exact Kd.RW_mono (Kd.RW_far (p := ⟨gb188, 1, none⟩) (Kd.RW_far (p := ⟨gb188, 0, none⟩) (Kd.RW_far (p := ⟨gb187, 1, none⟩) (Kd.RW_far (p := ⟨gb187, 0, none⟩) (Kd.RW_types (Kd.RW_types HO199.out BK187.out (by decide)) BK188.out (by decide)) (fun _ hk => hk.1.2) (.bool t196)) (fun _ hk => hk.1.2) (.slice Ao56 t197.length co56)) (fun _ hk => hk.2) (.bool t202)) (fun _ hk => hk.2) (.slice Ao67 t203.length co67)) (fun _ hk => hk.1.1), by (with_reducible repeat (first | apply Kd.RW_alloc | apply Kd.RW_drewN | apply Kd.RW_drew)); exact Kd.RW_mono (Kd.RW_far (p := ⟨gb188, 1, none⟩) (Kd.RW_far (p := ⟨gb188, 0, none⟩) (Kd.RW_far (p := ⟨gb187, 1, none⟩) (Kd.RW_far (p := ⟨gb187, 0, none⟩) (Kd.RW_types (Kd.RW_types HO205.out BK187.out (by decide)) BK188.out (by decide)) (fun _ hk => hk.1.2) (.bool t196)) (fun _ hk => hk.1.2) (.slice Ao56 t197.length co56)) (fun _ hk => hk.2) (.bool t202)) (fun _ hk => hk.2) (.slice Ao67 t203.length co67)) (fun _ hk => hk.1.1), zb⟩
end Go.Proofs.Ytdemeoncjcbojaa.Pw
end
section
namespace Go.Proofs.Ytdemeoncjcbojaa.Val
open Go.RowKit Go.Proofs.Ytdemeoncjcbojaa.Pr Go.Proofs.Ytdemeoncjcbojaa.Ext Go.Proofs.Ytdemeoncjcbojaa.Jt Go.Proofs.Ytdemeoncjcbojaa.Dv Go.Proofs.YtdemeoncjcbojaaW.PrintWords Go.Proofs.YtdemeoncjcbojaaW.PrintLast Go.Proofs.YtdemeoncjcbojaaW.PrintMore
set_option linter.unusedVariables false
set_option linter.unusedSimpArgs false
theorem len41 {b : List Int} (hd : Dig b) (hl : b.length ≤ 16) {x : Int} (h0 : 0 ≤ x) (h1 : x < 10000 * val b) : (rep x).length ≤ 17 := by
  refine rep_len_le h0 ?_
  have h2 := val_lt hd
  have h3 := pw_mono hl
  rw [pw_succ]
  omega
theorem sFits_l0 {b : List Int} (hd : Dig b) (hl : b.length ≤ 16) {V : Int} (hB : 0 < val b) (hV0 : 0 ≤ V) (hV : V < 10000 * val b) : ∀ (m k : Nat) (lo hi : Int), 0 ≤ lo → lo < hi → hi ≤ 10000 → lo * val b ≤ V → V < hi * val b → hi - lo ≤ m → 6000 + m ≤ k →
    spec_l1Fits.l0 k (rep V) b lo hi = some (V / val b) := by
  intro m
  induction m with
  | zero => intro k lo hi h0 h1 h2 h3 h4 h5 hk; omega
  | succ m ih =>
    intro k lo hi h0 h1 h2 h3 h4 h5 hk
    obtain ⟨k, rfl⟩ : ∃ j, k = j + 1 := ⟨k - 1, by omega⟩
    rw [spec_l1Fits.l0, w64 (by omega) (by omega)]
    by_cases hc : hi - lo > 1
    · rw [if_pos hc, w64 (x := lo + hi) (by omega) (by omega)]
      have ht : Int.tdiv (lo + hi) 2 = (lo + hi) / 2 := Int.tdiv_eq_ediv_of_nonneg (by omega)
      rw [ht, w64 (by omega) (by omega)]
      obtain ⟨c, hcm⟩ : ∃ c, c = (lo + hi) / 2 := ⟨_, rfl⟩
      rw [← hcm]
      have c1 : lo < c := by omega
      have c2 : c < hi := by omega
      have hdc : Dig ([c] : List Int) := Dig.cons (by omega) (by omega) Dig.nil
      have hvc : val ([c] : List Int) = c := by simp [val]
      have hbc : 0 ≤ val b * c := Int.mul_nonneg (by omega) (by omega)
      have hlc : (rep (val b * c)).length ≤ 17 := len41 hd hl hbc (by have h_ := Int.mul_le_mul_of_nonneg_left (show c ≤ 9999 by omega) (Int.le_of_lt hB); omega)
      have hlv := len41 hd hl hV0 hV
      rw [sMul_ge hd hdc (by omega) (by simp) k (by omega), hvc]; simp only [bS]
      rw [sCmpAbs_ge (rep_dig _) (rep_dig _) (rep_nz _) (rep_nz _) (by omega) (by omega) k (by omega), rep_val hbc, rep_val hV0]; simp only [bS]
      by_cases hs : val b * c - V ≤ 0
      · have : sgn (val b * c - V) ≤ 0 := by unfold sgn; split <;> (try split) <;> omega
        rw [if_pos this]
        exact ih k c hi (by omega) c2 h2 (by rw [Int.mul_comm]; omega) h4 (by omega) (by omega)
      · have : ¬ (sgn (val b * c - V) ≤ 0) := by unfold sgn; split <;> (try split) <;> omega
        rw [if_neg this]
        exact ih k lo c h0 c1 (by omega) h3 (by rw [Int.mul_comm]; omega) (by omega) (by omega)
    · rw [if_neg hc]
      obtain rfl : hi = lo + 1 := by omega
      congr 1
      refine Int.le_antisymm ((Int.le_ediv_iff_mul_le hB).2 h3) ?_
      have : V / val b < lo + 1 := Int.ediv_lt_of_lt_mul hB h4
      omega
theorem sFits_ge {b : List Int} (hd : Dig b) (hl : b.length ≤ 16) {V : Int} (hB : 0 < val b) (hV0 : 0 ≤ V) (hV : V < 10000 * val b) (k : Nat) (hk : 17000 ≤ k) : spec_l1Fits.f k (rep V) b = some (V / val b) := by
  unfold spec_l1Fits.f
  exact sFits_l0 hd hl hB hV0 hV 10000 k 0 10000 (by omega) (by omega) (by omega) (by omega) hV (by omega) (by omega)
theorem sDiv_l0 {l b : List Int} (hdl : Dig l) (hll : l.length ≤ 16) (hd : Dig b) (hl : b.length ≤ 16) (hB : 0 < val b) : ∀ (m k : Nat), m ≤ l.length → 18000 + m ≤ k →
    spec_l1DivAbs.l0 k l b (outL l (val b) m) (rep (restV l (val b) m)) ((m : Int) - 1) = some (rep (val l / val b), rep (val l % val b)) := by
  intro m
  induction m with
  | zero =>
    intro k hm hk
    obtain ⟨k, rfl⟩ : ∃ j, k = j + 1 := ⟨k - 1, by omega⟩
    rw [spec_l1DivAbs.l0, if_neg (by omega), sTrim_ge _ (by rw [outL_len]; omega) k (by rw [outL_len]; omega)]; simp only [bS]
    rw [trimL_rep (outL_dig hdl hB 0), outL_all hB, rest_all]
  | succ m ih =>
    intro k hm hk
    obtain ⟨k, rfl⟩ : ∃ j, k = j + 1 := ⟨k - 1, by omega⟩
    have e1 : ((m + 1 : Nat) : Int) - 1 = (m : Int) := by omega
    have hr := rest_bd (l := l) hB (m + 1)
    have ht := top_bd hdl hB m
    have hq := qd_bd hdl hB m
    have hlr := len41 hd hl hr.1 (by omega)
    have hlt := len41 hd hl ht.1 ht.2
    have hx := hdl.getD m
    have hdy : Dig ([l.getD m 0] ++ rep (restV l (val b) (m + 1))) := Dig.cons hx.1 hx.2 (rep_dig _)
    have hty : trimL ([l.getD m 0] ++ rep (restV l (val b) (m + 1))) = rep (topV l (val b) m) := by
      rw [trimL_rep hdy]
      show rep (l.getD m 0 + 10000 * val (rep (restV l (val b) (m + 1)))) = _
      rw [rep_val hr.1]
      rfl
    have hdq : Dig ([qd l (val b) m] : List Int) := Dig.cons hq.1 hq.2 Dig.nil
    have htq : trimL ([qd l (val b) m] : List Int) = rep (qd l (val b) m) := by rw [trimL_rep hdq]; simp [val]
    have hbq : 0 ≤ val b * qd l (val b) m := Int.mul_nonneg (by omega) hq.1
    have hle : val b * qd l (val b) m ≤ topV l (val b) m := by unfold qd; exact Int.mul_ediv_self_le (by omega)
    have hsub : topV l (val b) m - val b * qd l (val b) m = restV l (val b) m := by
      have h_ := Int.mul_ediv_add_emod (topV l (val b) m) (val b)
      rw [top_mod m (by omega)] at h_
      unfold qd
      omega
    have hlq : (rep (qd l (val b) m)).length ≤ 1 := rep_len_le hq.1 (by have h1_ : pw 1 = 10000 := (by decide); omega)
    have hfit : topV l (val b) m / val b = qd l (val b) m := rfl
    rw [spec_l1DivAbs.l0, e1, if_pos (by omega), if_pos (by omega), if_pos (by omega)]; simp only [bS]
    rw [rdN, if_pos (by simp; omega), sTrim_ge _ (by simp; omega) k (by simp; omega), hty]; simp only [bS]
    rw [sFits_ge hd hl hB ht.1 ht.2 k (by omega), hfit]; simp only [bS]
    rw [if_pos (by rw [outL_len]; omega), sTrim_ge _ (by simp) k (by simp; omega), htq]; simp only [bS]
    rw [sMul_ge hd (rep_dig _) (by omega) (by omega) k (by omega), rep_val hq.1]; simp only [bS]
    rw [sSub_ge (rep_dig _) (rep_dig _) (rep_nz _) (by omega) (by rw [rep_val ht.1, rep_val hbq]; exact hle) k (by omega), rep_val ht.1, rep_val hbq, hsub]; simp only [bS]
    rw [Int.toNat_natCast, outL_step (by omega), w64 (by omega) (by omega)]
    exact ih k (by omega) (by omega)
theorem sDivAbs_ge {l b : List Int} (hdl : Dig l) (hll : l.length ≤ 16) (hd : Dig b) (hl : b.length ≤ 16) (hB : 0 < val b) (k : Nat) (hk : 18100 ≤ k) : spec_l1DivAbs.f k l b = some (rep (val l / val b), rep (val l % val b)) := by
  unfold spec_l1DivAbs.f
  have h := sDiv_l0 hdl hll hd hl hB l.length k (Nat.le_refl _) (by omega)
  rw [outL_top, rest_top, rep_zero] at h
  rw [if_pos (by omega), if_pos (by omega), Int.toNat_natCast, w64 (by omega) (by omega)]
  exact h
abbrev NoD : Bool × List Int × Bool × List Int × Bool := (false, [], false, [], false)
def divQ (n : Bool) (l : List Int) (n' : Bool) (l' : List Int) : Int := sv (n != n') (val l / val l')
def divM (n : Bool) (l l' : List Int) : Int := sv n (val l % val l')
def divR (n : Bool) (l : List Int) (n' : Bool) (l' : List Int) : Bool × List Int × Bool × List Int × Bool :=
  if okB n l = true ∧ okB n' l' = true ∧ l'.length ≠ 0 then (mkN (divQ n l n' l'), mkL (divQ n l n' l'), mkN (divM n l l'), mkL (divM n l l'), true) else NoD
theorem sv_bd {q : Bool} {v : Int} (h0 : 0 ≤ v) (h1 : v < pw 16) : -pw 16 < sv q v ∧ sv q v < pw 16 := by unfold sv; split <;> omega
theorem bigR_sv {q : Bool} {v : Int} (h0 : 0 ≤ v) (h1 : v < pw 16) : bigR (sv q v) = (mkN (sv q v), mkL (sv q v), true) := by unfold bigR; rw [if_pos (sv_bd h0 h1)]
theorem div_bd {n n' : Bool} {l l' : List Int} (h1 : BOk n l) (h2 : BOk n' l') (h0 : l'.length ≠ 0) : 0 < val l' ∧ (0 ≤ val l / val l' ∧ val l / val l' < pw 16) ∧ (0 ≤ val l % val l' ∧ val l % val l' < pw 16) := by
  have hB := nz_pos h2.2.1 h2.2.2.1 h0
  have a0 := val_nonneg h1.2.1
  have a1 : val l < pw 16 := Int.lt_of_lt_of_le (val_lt h1.2.1) (pw_mono h1.1)
  have b1 : val l' < pw 16 := Int.lt_of_lt_of_le (val_lt h2.2.1) (pw_mono h2.1)
  have q1 := Int.ediv_le_self (val l') a0
  have m1 := Int.emod_lt_of_pos (val l) hB
  exact ⟨hB, ⟨Int.ediv_nonneg a0 (by omega), by omega⟩, ⟨Int.emod_nonneg _ (by omega), by omega⟩⟩
theorem lenb (x : List Int) : ((x.length : Int) == 0) = decide (x.length = 0) := by by_cases h : x.length = 0 <;> simp [h]
theorem iBigDiv_ge (n : Bool) (l : List Int) (n' : Bool) (l' : List Int) (k : Nat) (hk : 19000 ≤ k) : impl_BigDiv.f k n l n' l' = some (divR n l n' l') := by
  obtain ⟨k, rfl⟩ : ∃ j, k = j + 1 := ⟨k - 1, by omega⟩
  unfold impl_BigDiv.f divR
  rw [bigs_f]; simp only [bS]
  by_cases h1 : okB n l = true
  · by_cases h2 : okB n' l' = true
    · by_cases h0 : l'.length = 0
      · rw [h1, h2, if_pos (by rfl), impl_BigDiv.j0, lenb, if_pos (by simpa using h0), if_neg (fun h => h.2.2 h0)]
      · have b1 := (okB_iff _ _).1 h1
        have b2 := (okB_iff _ _).1 h2
        obtain ⟨hB, ⟨q0, q1⟩, m0, m1⟩ := div_bd b1 b2 h0
        have lq := rep_len_le q0 q1
        have lm := rep_len_le m0 m1
        rw [h1, h2, if_pos (by rfl), impl_BigDiv.j0, lenb, if_neg (by simpa using h0), if_pos ⟨by first | rfl | trivial, by first | rfl | trivial, h0⟩]
        unfold impl_limbs_div.f
        rw [if_pos ⟨b1.2.1, b2.2.1, b2.2.2.1, hB, by have := b1.1; omega, by have := b2.1; omega⟩]; simp only [bS]
        rw [big_ge (rep_dig _) (by omega) _ k (by omega), sv_rep q0, bigR_sv q0 q1]; simp only [bS]
        rw [big_ge (rep_dig _) (by omega) _ k (by omega), sv_rep m0, bigR_sv m0 m1]; simp only [bS]
        rfl
    · rw [h1, Bool.eq_false_iff.mpr h2, if_neg (by decide), impl_BigDiv.j0, if_pos (by first | rfl | trivial), if_neg (fun h => by simpa using h.2.1)]
  · rw [Bool.eq_false_iff.mpr h1, if_neg (by simp), impl_BigDiv.j0, if_pos (by first | rfl | trivial), if_neg (fun h => by simpa using h.1)]
theorem sBigDiv_ge (n : Bool) (l : List Int) (n' : Bool) (l' : List Int) (k : Nat) (hk : 19000 ≤ k) : spec_BigDiv.f k n l n' l' = some (divR n l n' l') := by
  obtain ⟨k, rfl⟩ : ∃ j, k = j + 1 := ⟨k - 1, by omega⟩
  unfold spec_BigDiv.f divR
  rw [l1Ok_ge n l _ (by omega)]; simp only [bS]
  by_cases h1 : okB n l = true
  · rw [h1, if_pos (by first | rfl | trivial), l1Ok_ge n' l' _ (by omega)]; simp only [bS]
    by_cases h2 : okB n' l' = true
    · by_cases h0 : l'.length = 0
      · rw [h2, if_pos (by first | rfl | trivial), spec_BigDiv.j0, lenb, if_pos (by simpa using h0), if_neg (fun h => h.2.2 h0)]
      · have b1 := (okB_iff _ _).1 h1
        have b2 := (okB_iff _ _).1 h2
        obtain ⟨hB, ⟨q0, q1⟩, m0, m1⟩ := div_bd b1 b2 h0
        have lq := rep_len_le q0 q1
        have lm := rep_len_le m0 m1
        rw [h2, if_pos (by first | rfl | trivial), spec_BigDiv.j0, lenb, if_neg (by simpa using h0), if_pos ⟨by first | rfl | trivial, by first | rfl | trivial, h0⟩]
        rw [sDivAbs_ge b1.2.1 b1.1 b2.2.1 b2.1 hB k (by omega)]; simp only [bS]
        rw [l1Big_ge (rep_dig _) (by omega) _ k (by omega), sv_rep q0, bigR_sv q0 q1]; simp only [bS]
        rw [l1Big_ge (rep_dig _) (by omega) _ k (by omega), sv_rep m0, bigR_sv m0 m1]; simp only [bS]
        rfl
    · rw [Bool.eq_false_iff.mpr h2, if_neg (by decide), spec_BigDiv.j0, if_pos (by first | rfl | trivial), if_neg (fun h => by simpa using h.2.1)]
  · rw [Bool.eq_false_iff.mpr h1, if_neg (by decide), spec_BigDiv.j0, if_pos (by first | rfl | trivial), if_neg (fun h => by simpa using h.1)]
theorem mkL_len {x : Int} (h1 : -pw 16 < x) (h2 : x < pw 16) : (mkL x).length ≤ 16 := (mk_ok h1 h2).1
theorem divR_len (n l n' l') : (divR n l n' l').2.1.length ≤ 16 ∧ (divR n l n' l').2.2.2.1.length ≤ 16 := by
  unfold divR
  split
  · rename_i h
    obtain ⟨_, ⟨q0, q1⟩, m0, m1⟩ := div_bd ((okB_iff _ _).1 h.1) ((okB_iff _ _).1 h.2.1) h.2.2
    exact ⟨mkL_len (sv_bd q0 q1).1 (sv_bd q0 q1).2, mkL_len (sv_bd m0 m1).1 (sv_bd m0 m1).2⟩
  · simp
end Go.Proofs.Ytdemeoncjcbojaa.Val
end
section
namespace Go.Proofs.Ytdemeoncjcbojaa.Val
open Go.RowKit Go.Proofs.Ytdemeoncjcbojaa.Pr Go.Proofs.Ytdemeoncjcbojaa.Ext Go.Proofs.Ytdemeoncjcbojaa.Jt Go.Proofs.YtdemeoncjcbojaaW.PrintWords Go.Proofs.YtdemeoncjcbojaaW.PrintLast Go.Proofs.YtdemeoncjcbojaaW.PrintMore
set_option linter.unusedVariables false
set_option linter.unusedSimpArgs false
theorem ext_getD {x l : List Int} (h : x.length = l.length) (hg : ∀ j, j < l.length → x.getD j 0 = l.getD j 0) : x = l := by
  apply List.ext_getElem h
  intro j h1 h2
  have := hg j h2
  rw [getD_lt h1, getD_lt h2] at this
  exact this
theorem toIntS_l0 {l : List Int} (hl : l.length < 100000000) : ∀ (m k i : Nat) (x : List Int), i + m = l.length → x.length = l.length → (∀ j, j < i → x.getD j 0 = l.getD j 0) → m + 1 ≤ k → laws_toIntS.l0 k l x (i : Int) = some l := by
  intro m
  induction m with
  | zero =>
    intro k i x hi hx hj hk
    obtain ⟨k, rfl⟩ : ∃ j, k = j + 1 := ⟨k - 1, by omega⟩
    rw [laws_toIntS.l0, if_neg (by omega), ext_getD hx (fun j h => hj j (by omega))]
  | succ m ih =>
    intro k i x hi hx hj hk
    obtain ⟨k, rfl⟩ : ∃ j, k = j + 1 := ⟨k - 1, by omega⟩
    rw [laws_toIntS.l0, if_pos (by omega), if_pos (by omega), if_pos (by omega), rdN, Int.toNat_natCast, w64 (by omega) (by omega), show ((i : Int) + 1) = ((i + 1 : Nat) : Int) from by omega]
    refine ih k (i + 1) _ (by omega) (by rw [List.length_set]; exact hx) (fun j h => ?_) (by omega)
    by_cases hji : j = i
    · rw [hji, getD_set_eq _ (by omega)]
    · rw [getD_set_ne _ (by omega) hji]; exact hj j (by omega)
theorem toIntS_ge {l : List Int} (hl : l.length < 100000000) (k : Nat) (hk : l.length + 1 ≤ k) : laws_toIntS.f k l = some l := by
  unfold laws_toIntS.f
  rw [if_pos (by omega), if_pos (by omega)]
  exact toIntS_l0 hl l.length k 0 _ (by omega) (by simp) (fun j h => by omega) hk
theorem toBig_ge (n : Bool) {l : List Int} (hl : l.length < 100000000) (k : Nat) (hk : l.length + 1 ≤ k) : laws_toBig.f k n l = some (n, l) := by
  unfold laws_toBig.f
  rw [toIntS_ge hl k hk]; rfl
theorem eqIntS_l0 {a : List Int} (hL : a.length < 100000000) : ∀ (m k i : Nat), i + m = a.length → m + 1 ≤ k → laws_eqIntS.l0 k a a (i : Int) = some true := by
  intro m
  induction m with
  | zero =>
    intro k i hi hk
    obtain ⟨k, rfl⟩ : ∃ j, k = j + 1 := ⟨k - 1, by omega⟩
    rw [laws_eqIntS.l0, if_neg (by omega)]
  | succ m ih =>
    intro k i hi hk
    obtain ⟨k, rfl⟩ : ∃ j, k = j + 1 := ⟨k - 1, by omega⟩
    rw [laws_eqIntS.l0, if_pos (by omega), if_pos (by omega), if_pos (by omega), if_pos rfl, w64 (by omega) (by omega), show ((i : Int) + 1) = ((i + 1 : Nat) : Int) from by omega]
    exact ih k (i + 1) (by omega) (by omega)
theorem eqBig_ge (n : Bool) {l : List Int} (hl : l.length < 100000000) (k : Nat) (hk : l.length + 1 ≤ k) : laws_eqBig.f k n l n l = some true := by
  unfold laws_eqBig.f laws_eqIntS.f
  rw [if_neg (by simp), if_pos rfl]
  rw [show (0 : Int) = ((0 : Nat) : Int) from rfl, eqIntS_l0 hl l.length k 0 (by omega) hk]
  rfl
theorem szBig_f (n : Bool) {l : List Int} (hl : l.length ≤ 9223372036854775807) {a : Int} (h0 : 0 ≤ a) (h1 : a ≤ 1048576) : laws_szBig.f n l a = some (if a - (l.length : Int) < 0 then -1 else a - (l.length : Int)) := by
  unfold laws_szBig.f laws_szIntS.f
  rw [w64 (by omega) (by omega)]
  by_cases h : a - (l.length : Int) < 0
  · rw [if_pos h, if_pos h]; rfl
  · rw [if_neg h, if_neg h, Option.bind_some, if_neg h]
end Go.Proofs.Ytdemeoncjcbojaa.Val
end
section
namespace Go.Proofs.Ytdemeoncjcbojaa.Val
open Go.RowKit Go.Proofs.Ytdemeoncjcbojaa.Pr Go.Proofs.Ytdemeoncjcbojaa.Ext Go.Proofs.Ytdemeoncjcbojaa.Jt Go.Proofs.YtdemeoncjcbojaaW.PrintWords Go.Proofs.YtdemeoncjcbojaaW.PrintLast Go.Proofs.YtdemeoncjcbojaaW.PrintMore
set_option linter.unusedVariables false
set_option linter.unusedSimpArgs false
theorem mark_l0 : ∀ (m i : Nat) (x : List Int) (a : Int), i + m = x.length → x.length ≤ 1000 → 0 ≤ a → a + m ≤ 1000000 →
    ∃ r, (∀ k, m + 1 ≤ k → laws_markIntS.l0 k x a (i : Int) = some (a + m, r)) ∧ r.length = x.length ∧ (∀ j, j < i → r.getD j 0 = x.getD j 0) ∧ (∀ j, i ≤ j → j < x.length → r.getD j 0 = a + ((j - i : Nat) : Int)) := by
  intro m
  induction m with
  | zero =>
    intro i x a hi hl h0 h1
    refine ⟨x, fun k hk => ?_, rfl, fun j _ => rfl, fun j h2 h3 => by omega⟩
    obtain ⟨k, rfl⟩ : ∃ j, k = j + 1 := ⟨k - 1, by omega⟩
    rw [laws_markIntS.l0, if_neg (by omega)]
    simp
  | succ m ih =>
    intro i x a hi hl h0 h1
    have hlt : i < x.length := by omega
    · obtain ⟨r, hr, h2, h3, h4⟩ := ih (i + 1) (x.set i a) (a + 1) (by rw [List.length_set]; omega) (by rw [List.length_set]; omega) (by omega) (by omega)
      refine ⟨r, fun k hk => ?_, by rw [h2, List.length_set], fun j hj => by rw [h3 j (by omega), getD_set_ne _ hlt (by omega)], fun j hj hj2 => ?_⟩
      · obtain ⟨k, rfl⟩ : ∃ j, k = j + 1 := ⟨k - 1, by omega⟩
        rw [laws_markIntS.l0, if_pos (by omega), if_pos (by omega), Int.toNat_natCast, w64 (by omega) (by omega), w64 (by omega) (by omega), show ((i : Int) + 1) = ((i + 1 : Nat) : Int) from by omega, hr k (by omega)]
        rw [show a + 1 + (m : Int) = a + ((m + 1 : Nat) : Int) from by omega]
      · by_cases hji : j = i
        · rw [hji, h3 i (by omega), getD_set_eq _ hlt]; omega
        · rw [h4 j (by omega) (by rw [List.length_set]; exact hj2)]; omega
theorem held_l0 : ∀ (m k i : Nat) (x : List Int) (a : Int), i + m = x.length → x.length ≤ 1000 → 0 ≤ a → a + m ≤ 1000000 → (∀ j, i ≤ j → j < x.length → x.getD j 0 = a + ((j - i : Nat) : Int)) → m + 1 ≤ k →
    laws_heldIntS.l0 k x a (i : Int) = some (a + m) := by
  intro m
  induction m with
  | zero =>
    intro k i x a hi hl h0 h1 hx hk
    obtain ⟨k, rfl⟩ : ∃ j, k = j + 1 := ⟨k - 1, by omega⟩
    rw [laws_heldIntS.l0, if_neg (by omega)]
    simp
  | succ m ih =>
    intro k i x a hi hl h0 h1 hx hk
    obtain ⟨k, rfl⟩ : ∃ j, k = j + 1 := ⟨k - 1, by omega⟩
    have e := hx i (Nat.le_refl _) (by omega)
    rw [laws_heldIntS.l0, if_pos (by omega), if_pos (by omega), rdN, if_pos (by rw [e]; simp), w64 (by omega) (by omega), w64 (by omega) (by omega), show ((i : Int) + 1) = ((i + 1 : Nat) : Int) from by omega,
      ih k (i + 1) x (a + 1) (by omega) hl (by omega) (by omega) (fun j h2 h3 => by rw [hx j (by omega) h3]; omega) (by omega)]
    rw [show a + 1 + (m : Int) = a + ((m + 1 : Nat) : Int) from by omega]
theorem mark_ge (n : Bool) (l : List Int) (hl : l.length ≤ 1000) (a : Int) (h0 : 0 ≤ a) (h1 : a ≤ 900000) : ∃ r, (∀ k, 1010 ≤ k → laws_markBig.f k n l a = some (a + l.length, r)) ∧ r.length = l.length ∧ (∀ n' k, 1010 ≤ k → laws_heldBig.f k n' r a = some (a + l.length)) := by
  obtain ⟨r, hr, h2, _, h4⟩ := mark_l0 l.length 0 l a (by omega) hl h0 (by omega)
  refine ⟨r, fun k hk => ?_, h2, fun n' k hk => ?_⟩
  · unfold laws_markBig.f laws_markIntS.f
    rw [show (0 : Int) = ((0 : Nat) : Int) from rfl, hr k (by omega)]; rfl
  · unfold laws_heldBig.f laws_heldIntS.f
    rw [show (0 : Int) = ((0 : Nat) : Int) from rfl, held_l0 r.length k 0 r a (by omega) (by omega) h0 (by omega) (fun j h5 h6 => h4 j h5 (by omega)) (by omega), Option.bind_some, h2, if_neg (by omega)]
theorem mark_l0' : ∀ (m i : Nat) (x : List Int) (a : Int), i + m = x.length → x.length ≤ 1100000 → 0 ≤ a → a + m ≤ 10000000 →
    ∃ r, ∀ k, m + 1 ≤ k → laws_markIntS.l0 k x a (i : Int) = some (a + m, r) := by
  intro m
  induction m with
  | zero =>
    intro i x a hi hl h0 h1
    refine ⟨x, fun k hk => ?_⟩
    obtain ⟨k, rfl⟩ : ∃ j, k = j + 1 := ⟨k - 1, by omega⟩
    rw [laws_markIntS.l0, if_neg (by omega)]
    simp
  | succ m ih =>
    intro i x a hi hl h0 h1
    obtain ⟨r, hr⟩ := ih (i + 1) (x.set i a) (a + 1) (by rw [List.length_set]; omega) (by rw [List.length_set]; omega) (by omega) (by omega)
    refine ⟨r, fun k hk => ?_⟩
    obtain ⟨k, rfl⟩ : ∃ j, k = j + 1 := ⟨k - 1, by omega⟩
    rw [laws_markIntS.l0, if_pos (by omega), if_pos (by omega), Int.toNat_natCast, w64 (by omega) (by omega), w64 (by omega) (by omega), show ((i : Int) + 1) = ((i + 1 : Nat) : Int) from by omega, hr k (by omega)]
    rw [show a + 1 + (m : Int) = a + ((m + 1 : Nat) : Int) from by omega]
theorem mark_big (n : Bool) (l : List Int) (hl : l.length ≤ 1100000) (a : Int) (h0 : 0 ≤ a) (h1 : a ≤ 8000000) : ∃ r, (∀ k, l.length + 1 ≤ k → laws_markBig.f k n l a = some (a + l.length, r)) ∧ True ∧ True := by
  obtain ⟨r, hr⟩ := mark_l0' l.length 0 l a (by omega) hl h0 (by omega)
  refine ⟨r, fun k hk => ?_, trivial, trivial⟩
  unfold laws_markBig.f laws_markIntS.f
  rw [show (0 : Int) = ((0 : Nat) : Int) from rfl, hr k (by omega)]; rfl
end Go.Proofs.Ytdemeoncjcbojaa.Val
end
section
namespace Go.Proofs.Ytdemeoncjcbojaa.Oc
open Go.RowKit Go.Proofs.Ytdemeoncjcbojaa.Pr Go.Proofs.Ytdemeoncjcbojaa.Ob Go.Proofs.Ytdemeoncjcbojaa.Val Go.Proofs.Ytdemeoncjcbojaa.RWs Go.Proofs.YtdemeoncjcbojaaW.PrintWords Go.Proofs.YtdemeoncjcbojaaW.PrintLast Go.Proofs.YtdemeoncjcbojaaW.PrintMore
set_option linter.unusedVariables false
variable {w W : World} {bs : List Bx} {rs : List Rw}
theorem sz_ob (h : Ob w W bs rs) {n : Bool} {A : Option Addr} {c : Nat} {l : List Int} {a t : Int} (hr : Kd.C (Kd.int .i64) w A l.length l) (hc : l.length ≤ c) (hf : laws_szBig.f n l a = some t) :
    Calls Try.prog 19 #[.agg #[.bool n, .slice A l.length c], .int .i64 a] W fun e W' => e = .returned (.int .i64 t) ∧ Ob w W' bs rs :=
  (laws_szBig.calls n A c l a t W (Kd.C_below hr h.below) hc hf).mono (by rintro e W' ⟨he, hb⟩; exact ⟨he, h.step hb⟩)
theorem toBig_ob (h : Ob w W bs rs) {k : Nat} {n : Bool} {A : Option Addr} {c : Nat} {l : List Int} (hr : Kd.C (Kd.int .i64) w A l.length l) (hc : l.length ≤ c) (hf : laws_toBig.f k n l = some (n, l)) :
    Calls Try.prog 21 #[.agg #[.bool n, .slice A l.length c]] W fun e W' => ∃ A' c', e = .returned (.agg #[.bool n, .slice A' l.length c']) ∧ Ob w W' bs (rs ++ [(.slice A' l.length c', l)]) :=
  (Pw.laws_toBig.calls k n A c l n l W (Kd.C_below hr h.below) hc hf).mono (by
    rintro e W' ⟨v, rfl, ho, hb⟩
    obtain ⟨A', c', rfl⟩ := Kd.RW_slice ho
    exact ⟨A', c', rfl, h.pushRow hb ho⟩)
theorem eq_ob (h : Ob w W bs rs) {k i j : Nat} {n : Bool} {A A' : Option Addr} {c c' : Nat} {l : List Int} (hi : rs[i]? = some (.slice A l.length c, l)) (hj : rs[j]? = some (.slice A' l.length c', l)) (hf : laws_eqBig.f k n l n l = some true) :
    Calls Try.prog 23 #[.agg #[.bool n, .slice A l.length c], .agg #[.bool n, .slice A' l.length c']] W fun e W' => e = .returned (.bool true) ∧ Ob w W' bs rs := by
  obtain ⟨_, h1, h2⟩ := h.rd hi
  obtain ⟨_, h3, h4⟩ := h.rd hj
  exact (laws_eqBig.calls k n A c l n A' c' l true W h2 h1 h4 h3 hf).mono (by rintro e W' ⟨he, hb⟩; exact ⟨he, h.step hb⟩)
theorem Ob.two (h : Ob w W bs rs) {W' : World} {v v' : Value} {xs ys : List Int} (hb : Below W.heap.size W W') (hr : Kd.RW (Kd.int .i64) 3 W' W.heap.size (fun k => some k ≠ v'.ownBlock) v xs) (hs : Kd.RW (Kd.int .i64) 3 W' W.heap.size (fun k => some k ≠ v.ownBlock) v' ys) : Ob w W' bs (rs ++ [(v, xs)] ++ [(v', ys)]) := by
  have k := h.step hb
  have hq : Rt w W' (v, xs) := Rt.of hr h.below.size
  have hq' : Rt w W' (v', ys) := Rt.of hs h.below.size
  have ge : ∀ k, some k = v.ownBlock → W.heap.size ≤ k := fun k hk => Kd.RW_base hr k hk.symm
  have ge' : ∀ k, some k = v'.ownBlock → W.heap.size ≤ k := fun k hk => Kd.RW_base hs k hk.symm
  have ne : ∀ k, some k = v.ownBlock → some k ≠ v'.ownBlock := fun k hk => hr.1 k hk.symm
  have old : ∀ (i : Nat) (r : Rw), rs[i]? = some r → ∀ q, some q = r.1.ownBlock → q < W.heap.size := fun i r hi q hq => (h.row i r hi).lt hq
  have cl : ∀ (i : Nat) (r : Rw), (rs ++ [(v, xs)] ++ [(v', ys)])[i]? = some r → (i < rs.length ∧ rs[i]? = some r) ∨ (i = rs.length ∧ r = (v, xs)) ∨ (i = rs.length + 1 ∧ r = (v', ys)) := fun i r hi => by
    rcases snoc_get hi with ⟨_, h1⟩ | ⟨e1, h1⟩
    · rcases snoc_get h1 with ⟨e2, h2⟩ | ⟨e2, h2⟩
      · exact .inl ⟨e2, h2⟩
      · exact .inr (.inl ⟨e2, h2⟩)
    · exact .inr (.inr ⟨by simpa using e1, h1⟩)
  refine ⟨k.below, k.box, k.bne, fun i r hi => ?_, fun i j r s hi hj hne q hq1 e => ?_⟩
  · rcases cl i r hi with ⟨_, h1⟩ | ⟨_, h1⟩ | ⟨_, h1⟩
    · exact k.row i r h1
    · rw [h1]; exact hq
    · rw [h1]; exact hq'
  · rcases cl i r hi with ⟨_, h1⟩ | ⟨e1, h1⟩ | ⟨e1, h1⟩ <;> rcases cl j s hj with ⟨_, h2⟩ | ⟨e2, h2⟩ | ⟨e2, h2⟩
    · exact k.rne i j r s h1 h2 hne q hq1 e
    · rw [h2] at e; have := old i r h1 q hq1; have := ge q e; omega
    · rw [h2] at e; have := old i r h1 q hq1; have := ge' q e; omega
    · rw [h1] at hq1; have := old j s h2 q e; have := ge q hq1; omega
    · omega
    · rw [h1] at hq1; rw [h2] at e; exact ne q hq1 e
    · rw [h1] at hq1; have := old j s h2 q e; have := ge' q hq1; omega
    · rw [h1] at hq1; rw [h2] at e; exact ne q e hq1
    · omega
theorem div_ob (h : Ob w W bs rs) {k i j : Nat} {n n' : Bool} {A A' : Option Addr} {c c' : Nat} {l l' : List Int} {qn rn ok : Bool} {ql rl : List Int} (hi : rs[i]? = some (.slice A l.length c, l)) (hj : rs[j]? = some (.slice A' l'.length c', l')) (hf : impl_BigDiv.f k n l n' l' = some (qn, ql, rn, rl, ok)) :
    Calls Try.prog 43 #[.agg #[.bool n, .slice A l.length c], .agg #[.bool n', .slice A' l'.length c']] W fun e W' => ∃ Aq cq Ar cr, e = .returned (.tuple #[.agg #[.bool qn, .slice Aq ql.length cq], .agg #[.bool rn, .slice Ar rl.length cr], .bool ok]) ∧ Ob w W' bs (rs ++ [(.slice Aq ql.length cq, ql)] ++ [(.slice Ar rl.length cr, rl)]) := by
  obtain ⟨_, h1, h2⟩ := h.rd hi
  obtain ⟨_, h3, h4⟩ := h.rd hj
  refine (Pw.impl_BigDiv.calls k n A c l n' A' c' l' qn ql rn rl ok W h2 h1 h4 h3 hf).mono ?_
  rintro e W' ⟨v, v', rfl, ho, ho', hb⟩
  obtain ⟨Aq, cq, rfl⟩ := Kd.RW_slice ho
  obtain ⟨Ar, cr, rfl⟩ := Kd.RW_slice ho'
  exact ⟨Aq, cq, Ar, cr, rfl, Ob.two h hb ho ho'⟩
theorem mark_ob (h : Ob w W bs rs) {k i m : Nat} {n : Bool} {A : Option Addr} {c : Nat} {l r : List Int} {a t : Int} (hi : rs[i]? = some (.slice A m c, l)) (hf : laws_markBig.f k n l a = some (t, r)) :
    Calls Try.prog 26 #[.agg #[.bool n, .slice A m c], .int .i64 a] W fun e W' => e = .returned (.int .i64 t) ∧ Ob w W' bs (rs.set i (.slice A m c, r)) :=
  (Pw.laws_markBig.calls k n _ _ l a t r w W h.below (h.row i _ hi) hf).mono (by rintro e W' ⟨he, ho, hb, hk⟩; exact ⟨he, h.mark hi hb hk ho⟩)
theorem held_ob (h : Ob w W bs rs) {k i m : Nat} {n : Bool} {A : Option Addr} {c : Nat} {r : List Int} {a t : Int} (hi : rs[i]? = some (.slice A m c, r)) (hf : laws_heldBig.f k n r a = some t) :
    Calls Try.prog 27 #[.agg #[.bool n, .slice A m c], .int .i64 a] W fun e W' => e = .returned (.int .i64 t) ∧ Ob w W' bs rs := by
  obtain ⟨rfl, h1, h2⟩ := h.rd hi
  exact (laws_heldBig.calls k n A c r a t W h2 h1 hf).mono (by rintro e W' ⟨he, hb⟩; exact ⟨he, h.step hb⟩)
end Go.Proofs.Ytdemeoncjcbojaa.Oc
end
section
namespace Go.Proofs.Ytdemeoncjcbojaa.Xd
open Go.RowKit Go.Proofs.Ytdemeoncjcbojaa.Pr Go.Proofs.Ytdemeoncjcbojaa.Ob Go.Proofs.Ytdemeoncjcbojaa.Oc Go.Proofs.Ytdemeoncjcbojaa.Val Go.Proofs.Ytdemeoncjcbojaa.RWs Go.Proofs.Ytdemeoncjcbojaa.Ext Go.Proofs.YtdemeoncjcbojaaW.PrintWords Go.Proofs.YtdemeoncjcbojaaW.PrintLast Go.Proofs.YtdemeoncjcbojaaW.PrintMore
set_option linter.unusedVariables false
set_option linter.unusedSimpArgs false
def T8 : Bool × List (List Nat × List Nat) := (true, [([], []), ([0], [0]), ([], []), ([2, 1], [2]), ([1, 3, 3], [1, 3]), ([4], [4]), ([5], [5]), ([5], [5]), ([5], [5]), ([], []), ([], []), ([9, 6, 4, 0, 1, 2, 3, 4, 5, 6, 9, 10], [6, 9]), ([10, 7, 11, 0, 1, 2, 3, 4, 5, 6, 7, 9, 10, 11], [7, 10]), ([8, 12, 0, 1, 2, 3, 4, 5, 6, 7, 8, 9, 10, 11, 12], [8])])
def B8 : List Nat := [0, 1, 0, 7, 15, 31, 63, 63, 63, 0, 0, 1663, 3839, 8191]
theorem tab8 : rtab .any (opsOf Try.f15 8) = T8 := by kernel_rfl
theorem bits8 : waitsOk T8.2 B8 = true := by kernel_rfl
theorem tab35 : rtab .any (opsOf Try.f15 35) = T8 := by kernel_rfl
set_option maxRecDepth 100000 in
set_option maxHeartbeats 8000000 in
theorem leaf0 (n : Bool) (A0 : Option Addr) (c0 : Nat) (l : List Int) (n' : Bool) (A1 : Option Addr) (c1 : Nat) (l' : List Int) (w : World) (hr0 : Kd.C (Kd.int .i64) w A0 l.length l) (hc0 : l.length ≤ c0) (hr1 : Kd.C (Kd.int .i64) w A1 l'.length l') (hc1 : l'.length ≤ c1) {a : Int} (fa : laws_szBig.f n l 1048576 = some a) (ha : decide (a < 0) = true) :
    Calls Try.prog 15 #[.agg #[.bool n, .slice A0 l.length c0], .agg #[.bool n', .slice A1 l'.length c1]] w fun e w' => e = .returned (.bool true) ∧ Below w.heap.size w w' := by
  have hu24 := Try.underlying24
  have hu27 := Try.underlying27
  have HR0 := Aside0.mk hr0
  have HC0 := Aside0.mk hc0
  have HR1 := Aside0.mk hr1
  have HC1 := Aside0.mk hc1
  clear hr0 hc0 hr1 hc1
  have Fa := Aside0.mk fa
  clear fa
  have HO : Aside0 (Ob w w [] []) := Aside0.mk ⟨Below.refl _ w, fun i x h => by simp at h, fun i j x y h => by simp at h, fun i r h => by simp at h, fun i j r s h => by simp at h⟩
  go_enter Try.func15, Try.ntmps15
  go_wp2_with ((with_reducible refine gate_dst (N := 2) rfl ?_); refine Aside0.out ?_)
  refine ⟨?_⟩
  refine box_event ?hg (N := 2) ?hd (cs := #[.bool n, .slice A0 l.length c0]) (t := 24) ?hr ?_
  (case hd => rfl)
  (case hg => rfl)
  (case hr => first | (go_simp; done) | (go_simp; rfl))
  intro g2 hg_ w1 hbx_ hb_
  replace HO : Aside0 (Ob w w1 [(g2, 24, n, .slice A0 l.length c0)] []) := Aside0.mk (HO.out.pushBox hb_ (Nat.le_of_eq hg_.symm) hbx_ (by decide))
  clear hb_ hbx_ hg_
  go_wp2_with ((with_reducible refine gate_dst (N := 3) rfl ?_); refine Aside0.out ?_)
  refine ⟨?_⟩
  refine box_event ?hg (N := 3) ?hd (cs := #[.bool n', .slice A1 l'.length c1]) (t := 24) ?hr ?_
  (case hd => rfl)
  (case hg => rfl)
  (case hr => first | (go_simp; done) | (go_simp; rfl))
  intro g3 hg_ w2 hbx_ hb_
  replace HO : Aside0 (Ob w w2 [(g2, 24, n, .slice A0 l.length c0), (g3, 24, n', .slice A1 l'.length c1)] []) := Aside0.mk (HO.out.pushBox hb_ (Nat.le_of_eq hg_.symm) hbx_ (by decide))
  clear hb_ hbx_ hg_
  have q0_0 : w2.cell? ⟨g2, 0, none⟩ = some (.bool n) := HO.out.c0 (i := 0) rfl
  have q0_1 : w2.cell? ⟨g2, 1, none⟩ = some (.slice A0 l.length c0) := HO.out.c1 (i := 0) rfl
  have q1_0 : w2.cell? ⟨g3, 0, none⟩ = some (.bool n') := HO.out.c0 (i := 1) rfl
  have q1_1 : w2.cell? ⟨g3, 1, none⟩ = some (.slice A1 l'.length c1) := HO.out.c1 (i := 1) rfl
  go_wp2_with ((with_reducible refine gate_callee (f := 19) rfl ?_); refine Aside0.out ?_)
  refine ⟨?_⟩
  clear q0_0 q0_1 q1_0 q1_1
  refine goesL_ (some 22) rfl rfl Try.func19 (by kernel_rfl) rfl #[.agg #[.bool n, .slice A0 l.length c0], .int .i64 1048576] rfl (by (try simp only [List.map_toArray, List.map_cons, List.map_nil]); first | done | rfl) ?_
  refine (sz_ob HO.out HR0.out HC0.out Fa.out).mono ?_
  rintro e w3 ⟨rfl, ho_⟩
  refine ⟨_, rfl, ?_⟩
  replace HO : Aside0 (Ob w w3 [(g2, 24, n, .slice A0 l.length c0), (g3, 24, n', .slice A1 l'.length c1)] []) := Aside0.mk (ho_)
  clear ho_
  go_wp2_with (fail)
  go_ret
  exact ⟨rfl, HO.out.below⟩
set_option maxRecDepth 100000 in
set_option maxHeartbeats 8000000 in
theorem leaf1 (n : Bool) (A0 : Option Addr) (c0 : Nat) (l : List Int) (n' : Bool) (A1 : Option Addr) (c1 : Nat) (l' : List Int) (w : World) (hr0 : Kd.C (Kd.int .i64) w A0 l.length l) (hc0 : l.length ≤ c0) (hr1 : Kd.C (Kd.int .i64) w A1 l'.length l') (hc1 : l'.length ≤ c1) {a b : Int} (fa : laws_szBig.f n l 1048576 = some a) (ha : decide (a < 0) = false) (fb : laws_szBig.f n' l' a = some b) (hb : decide (b < 0) = true) :
    Calls Try.prog 15 #[.agg #[.bool n, .slice A0 l.length c0], .agg #[.bool n', .slice A1 l'.length c1]] w fun e w' => e = .returned (.bool true) ∧ Below w.heap.size w w' := by
  have hu24 := Try.underlying24
  have hu27 := Try.underlying27
  have HR0 := Aside0.mk hr0
  have HC0 := Aside0.mk hc0
  have HR1 := Aside0.mk hr1
  have HC1 := Aside0.mk hc1
  clear hr0 hc0 hr1 hc1
  have Fa := Aside0.mk fa
  clear fa
  have Fb := Aside0.mk fb
  clear fb
  have HO : Aside0 (Ob w w [] []) := Aside0.mk ⟨Below.refl _ w, fun i x h => by simp at h, fun i j x y h => by simp at h, fun i r h => by simp at h, fun i j r s h => by simp at h⟩
  go_enter Try.func15, Try.ntmps15
  go_wp2_with ((with_reducible refine gate_dst (N := 2) rfl ?_); refine Aside0.out ?_)
  refine ⟨?_⟩
  refine box_event ?hg (N := 2) ?hd (cs := #[.bool n, .slice A0 l.length c0]) (t := 24) ?hr ?_
  (case hd => rfl)
  (case hg => rfl)
  (case hr => first | (go_simp; done) | (go_simp; rfl))
  intro g2 hg_ w1 hbx_ hb_
  replace HO : Aside0 (Ob w w1 [(g2, 24, n, .slice A0 l.length c0)] []) := Aside0.mk (HO.out.pushBox hb_ (Nat.le_of_eq hg_.symm) hbx_ (by decide))
  clear hb_ hbx_ hg_
  go_wp2_with ((with_reducible refine gate_dst (N := 3) rfl ?_); refine Aside0.out ?_)
  refine ⟨?_⟩
  refine box_event ?hg (N := 3) ?hd (cs := #[.bool n', .slice A1 l'.length c1]) (t := 24) ?hr ?_
  (case hd => rfl)
  (case hg => rfl)
  (case hr => first | (go_simp; done) | (go_simp; rfl))
  intro g3 hg_ w2 hbx_ hb_
  replace HO : Aside0 (Ob w w2 [(g2, 24, n, .slice A0 l.length c0), (g3, 24, n', .slice A1 l'.length c1)] []) := Aside0.mk (HO.out.pushBox hb_ (Nat.le_of_eq hg_.symm) hbx_ (by decide))
  clear hb_ hbx_ hg_
  have q0_0 : w2.cell? ⟨g2, 0, none⟩ = some (.bool n) := HO.out.c0 (i := 0) rfl
  have q0_1 : w2.cell? ⟨g2, 1, none⟩ = some (.slice A0 l.length c0) := HO.out.c1 (i := 0) rfl
  have q1_0 : w2.cell? ⟨g3, 0, none⟩ = some (.bool n') := HO.out.c0 (i := 1) rfl
  have q1_1 : w2.cell? ⟨g3, 1, none⟩ = some (.slice A1 l'.length c1) := HO.out.c1 (i := 1) rfl
  go_wp2_with ((with_reducible refine gate_callee (f := 19) rfl ?_); refine Aside0.out ?_)
  refine ⟨?_⟩
  clear q0_0 q0_1 q1_0 q1_1
  refine goesL_ (some 22) rfl rfl Try.func19 (by kernel_rfl) rfl #[.agg #[.bool n, .slice A0 l.length c0], .int .i64 1048576] rfl (by (try simp only [List.map_toArray, List.map_cons, List.map_nil]); first | done | rfl) ?_
  refine (sz_ob HO.out HR0.out HC0.out Fa.out).mono ?_
  rintro e w3 ⟨rfl, ho_⟩
  refine ⟨_, rfl, ?_⟩
  replace HO : Aside0 (Ob w w3 [(g2, 24, n, .slice A0 l.length c0), (g3, 24, n', .slice A1 l'.length c1)] []) := Aside0.mk (ho_)
  clear ho_
  have q0_0 : w3.cell? ⟨g2, 0, none⟩ = some (.bool n) := HO.out.c0 (i := 0) rfl
  have q0_1 : w3.cell? ⟨g2, 1, none⟩ = some (.slice A0 l.length c0) := HO.out.c1 (i := 0) rfl
  have q1_0 : w3.cell? ⟨g3, 0, none⟩ = some (.bool n') := HO.out.c0 (i := 1) rfl
  have q1_1 : w3.cell? ⟨g3, 1, none⟩ = some (.slice A1 l'.length c1) := HO.out.c1 (i := 1) rfl
  go_wp2_with ((with_reducible refine gate_callee (f := 19) rfl ?_); refine Aside0.out ?_)
  refine ⟨?_⟩
  clear q0_0 q0_1 q1_0 q1_1
  refine goesL_ (some 27) rfl rfl Try.func19 (by kernel_rfl) rfl #[.agg #[.bool n', .slice A1 l'.length c1], .int .i64 a] rfl (by (try simp only [List.map_toArray, List.map_cons, List.map_nil]); first | done | rfl) ?_
  refine (sz_ob HO.out HR1.out HC1.out Fb.out).mono ?_
  rintro e w4 ⟨rfl, ho_⟩
  refine ⟨_, rfl, ?_⟩
  replace HO : Aside0 (Ob w w4 [(g2, 24, n, .slice A0 l.length c0), (g3, 24, n', .slice A1 l'.length c1)] []) := Aside0.mk (ho_)
  clear ho_
  go_wp2_with (fail)
  go_ret
  exact ⟨rfl, HO.out.below⟩
set_option maxRecDepth 100000 in
set_option maxHeartbeats 8000000 in
theorem main (n : Bool) (A0 : Option Addr) (c0 : Nat) (l : List Int) (n' : Bool) (A1 : Option Addr) (c1 : Nat) (l' : List Int) (w : World) (hr0 : Kd.C (Kd.int .i64) w A0 l.length l) (hc0 : l.length ≤ c0) (hr1 : Kd.C (Kd.int .i64) w A1 l'.length l') (hc1 : l'.length ≤ c1) {K : Nat} {a b m1 m2 p1 p2 : Int} {qn rn ok : Bool} {ql rl s0 s1 u0 u1 : List Int} (fa : laws_szBig.f n l 1048576 = some a) (ha : decide (a < 0) = false) (fb : laws_szBig.f n' l' a = some b) (hb : decide (b < 0) = false) (ft0 : laws_toBig.f K n l = some (n, l)) (ft1 : laws_toBig.f K n' l' = some (n', l')) (fS : spec_BigDiv.f K n l n' l' = some (qn, ql, rn, rl, ok)) (fI : impl_BigDiv.f K n l n' l' = some (qn, ql, rn, rl, ok)) (feq : laws_eqBig.f K qn ql qn ql = some true) (fer : laws_eqBig.f K rn rl rn rl = some true) (fe0 : laws_eqBig.f K n l n l = some true) (fe1 : laws_eqBig.f K n' l' n' l' = some true) (fm0 : laws_markBig.f K n l 1 = some (m1, s0)) (fm1 : laws_markBig.f K n' l' m1 = some (m2, s1)) (hm : decide (m2 < 0) = false) (fg0 : laws_markBig.f K qn ql 1 = some (p1, u0)) (fg1 : laws_markBig.f K rn rl p1 = some (p2, u1)) (hp1 : decide (p1 < 0) = false) (hp2 : decide (p2 < 0) = false) (fh0 : laws_heldBig.f K qn u0 1 = some p1) (fh1 : laws_heldBig.f K rn u1 p1 = some p2) :
    Calls Try.prog 15 #[.agg #[.bool n, .slice A0 l.length c0], .agg #[.bool n', .slice A1 l'.length c1]] w fun e w' => e = .returned (.bool true) ∧ Below w.heap.size w w' := by
  have hu24 := Try.underlying24
  have hu27 := Try.underlying27
  have HR0 := Aside0.mk hr0
  have HC0 := Aside0.mk hc0
  have HR1 := Aside0.mk hr1
  have HC1 := Aside0.mk hc1
  clear hr0 hc0 hr1 hc1
  have Fa := Aside0.mk fa
  clear fa
  have Fb := Aside0.mk fb
  clear fb
  have Ft0 := Aside0.mk ft0
  clear ft0
  have Ft1 := Aside0.mk ft1
  clear ft1
  have FS := Aside0.mk fS
  clear fS
  have FI := Aside0.mk fI
  clear fI
  have Feq := Aside0.mk feq
  clear feq
  have Fer := Aside0.mk fer
  clear fer
  have Fe0 := Aside0.mk fe0
  clear fe0
  have Fe1 := Aside0.mk fe1
  clear fe1
  have Fm0 := Aside0.mk fm0
  clear fm0
  have Fm1 := Aside0.mk fm1
  clear fm1
  have Fg0 := Aside0.mk fg0
  clear fg0
  have Fg1 := Aside0.mk fg1
  clear fg1
  have Fh0 := Aside0.mk fh0
  clear fh0
  have Fh1 := Aside0.mk fh1
  clear fh1
  have HO : Aside0 (Ob w w [] []) := Aside0.mk ⟨Below.refl _ w, fun i x h => by simp at h, fun i j x y h => by simp at h, fun i r h => by simp at h, fun i j r s h => by simp at h⟩
  go_enter Try.func15, Try.ntmps15
  go_wp2_with ((with_reducible refine gate_dst (N := 2) rfl ?_); refine Aside0.out ?_)
  refine ⟨?_⟩
  refine box_event ?hg (N := 2) ?hd (cs := #[.bool n, .slice A0 l.length c0]) (t := 24) ?hr ?_
  (case hd => rfl)
  (case hg => rfl)
  (case hr => first | (go_simp; done) | (go_simp; rfl))
  intro g2 hg_ w1 hbx_ hb_
  replace HO : Aside0 (Ob w w1 [(g2, 24, n, .slice A0 l.length c0)] []) := Aside0.mk (HO.out.pushBox hb_ (Nat.le_of_eq hg_.symm) hbx_ (by decide))
  clear hb_ hbx_ hg_
  go_wp2_with ((with_reducible refine gate_dst (N := 3) rfl ?_); refine Aside0.out ?_)
  refine ⟨?_⟩
  refine box_event ?hg (N := 3) ?hd (cs := #[.bool n', .slice A1 l'.length c1]) (t := 24) ?hr ?_
  (case hd => rfl)
  (case hg => rfl)
  (case hr => first | (go_simp; done) | (go_simp; rfl))
  intro g3 hg_ w2 hbx_ hb_
  replace HO : Aside0 (Ob w w2 [(g2, 24, n, .slice A0 l.length c0), (g3, 24, n', .slice A1 l'.length c1)] []) := Aside0.mk (HO.out.pushBox hb_ (Nat.le_of_eq hg_.symm) hbx_ (by decide))
  clear hb_ hbx_ hg_
  have q0_0 : w2.cell? ⟨g2, 0, none⟩ = some (.bool n) := HO.out.c0 (i := 0) rfl
  have q0_1 : w2.cell? ⟨g2, 1, none⟩ = some (.slice A0 l.length c0) := HO.out.c1 (i := 0) rfl
  have q1_0 : w2.cell? ⟨g3, 0, none⟩ = some (.bool n') := HO.out.c0 (i := 1) rfl
  have q1_1 : w2.cell? ⟨g3, 1, none⟩ = some (.slice A1 l'.length c1) := HO.out.c1 (i := 1) rfl
  go_wp2_with ((with_reducible refine gate_callee (f := 19) rfl ?_); refine Aside0.out ?_)
  refine ⟨?_⟩
  clear q0_0 q0_1 q1_0 q1_1
  refine goesL_ (some 22) rfl rfl Try.func19 (by kernel_rfl) rfl #[.agg #[.bool n, .slice A0 l.length c0], .int .i64 1048576] rfl (by (try simp only [List.map_toArray, List.map_cons, List.map_nil]); first | done | rfl) ?_
  refine (sz_ob HO.out HR0.out HC0.out Fa.out).mono ?_
  rintro e w3 ⟨rfl, ho_⟩
  refine ⟨_, rfl, ?_⟩
  replace HO : Aside0 (Ob w w3 [(g2, 24, n, .slice A0 l.length c0), (g3, 24, n', .slice A1 l'.length c1)] []) := Aside0.mk (ho_)
  clear ho_
  have hpp : (p2 != p2) = false := by simp
  have hok : (ok != ok) = false := by simp
  have hok2 : (ok == ok) = true := by simp
  have q0_0 : w3.cell? ⟨g2, 0, none⟩ = some (.bool n) := HO.out.c0 (i := 0) rfl
  have q0_1 : w3.cell? ⟨g2, 1, none⟩ = some (.slice A0 l.length c0) := HO.out.c1 (i := 0) rfl
  have q1_0 : w3.cell? ⟨g3, 0, none⟩ = some (.bool n') := HO.out.c0 (i := 1) rfl
  have q1_1 : w3.cell? ⟨g3, 1, none⟩ = some (.slice A1 l'.length c1) := HO.out.c1 (i := 1) rfl
  go_wp2_with ((with_reducible refine gate_callee (f := 19) rfl ?_); refine Aside0.out ?_)
  refine ⟨?_⟩
  clear q0_0 q0_1 q1_0 q1_1
  refine goesL_ (some 27) rfl rfl Try.func19 (by kernel_rfl) rfl #[.agg #[.bool n', .slice A1 l'.length c1], .int .i64 a] rfl (by (try simp only [List.map_toArray, List.map_cons, List.map_nil]); first | done | rfl) ?_
  refine (sz_ob HO.out HR1.out HC1.out Fb.out).mono ?_
  rintro e w4 ⟨rfl, ho_⟩
  refine ⟨_, rfl, ?_⟩
  replace HO : Aside0 (Ob w w4 [(g2, 24, n, .slice A0 l.length c0), (g3, 24, n', .slice A1 l'.length c1)] []) := Aside0.mk (ho_)
  clear ho_
  go_wp2_with (fail)
  replace HO := Aside0.mk HO.out.drew
  refine start_ (n := 14) (S := fun w' => True) (ds := []) #[false, false, false, false, false, false, false, false, false, false, false, false, false, false] (by kernel_rfl) rfl rfl trivial (fun hHeld => ?_)
  refine with_tabW tab8 bits8 (fun HT_ HW_ => ?_)
  generalize w4.drew = w5 at HO hHeld ⊢
  refine inv_at [0, 1, 2, 3, 4, 5, 6, 7, 8, 9, 10, 11, 12, 13] (fun a0_ b a w' => ∃ (v1 v3 : Value) (Aq : Option Addr) (cq : Nat) (Ar : Option Addr) (cr : Nat) (g9 g10 : Nat), a = putSel a0_ b [(0, 31, .agg #[.bool n, .slice A0 l.length c0]), (1, 32, .agg #[.bool n, v1]), (2, 33, .agg #[.bool n', .slice A1 l'.length c1]), (3, 34, .agg #[.bool n', v3]), (4, 35, .tuple #[.agg #[.bool qn, .slice Aq ql.length cq], .agg #[.bool rn, .slice Ar rl.length cr], .bool ok]), (5, 30, .tuple #[.agg #[.bool qn, .slice Aq ql.length cq], .agg #[.bool rn, .slice Ar rl.length cr], .bool ok]), (6, 36, .agg #[.bool qn, .slice Aq ql.length cq]), (7, 37, .agg #[.bool rn, .slice Ar rl.length cr]), (8, 38, .bool ok), (9, 6, .pointer (some ⟨g9, 0, none⟩)), (10, 7, .pointer (some ⟨g10, 0, none⟩)), (13, 8, .bool ok)] ∧ Rg w w5 w' l l' ql rl qn rn b v1 v3 (.slice Aq ql.length cq) (.slice Ar rl.length cr) g9 g10) HT_.out HW_.out (by kernel_rfl) (by kernel_rfl) ?_ ?_ ?_
  · exact ⟨.bool false, .bool false, none, 0, none, 0, 0, 0, by simp only [putSel, Bool.false_eq_true, if_false], Rg.start HO.out.below⟩
  · skip
    refine steps_cons ?_ ?_
    · rintro b a w' ⟨v1, v3, Aq, cq, Ar, cr, g9, g10, ha, hR⟩ hb_ hon hoff
      refine ⟨_, rfl, fun K_ hK => ?_⟩
      have e2 : a.tmps[2]? = some (.pointer (some ⟨g2, 0, none⟩)) := by rw [ha]; exact (putSel_off rfl).trans rfl
      have hO_ := HO.out.keep hR.below hR.kd
      have hc0_ : w'.cell? ⟨g2, 0, none⟩ = some (.bool n) := hO_.c0 (i := 0) rfl
      have hc1_ : w'.cell? ⟨g2, 1, none⟩ = some (.slice A0 l.length c0) := hO_.c1 (i := 0) rfl
      replace ha := Aside0.mk ha
      replace hR := Aside0.mk hR
      clear hO_
      refine value_ (w1 := w') (v := .agg #[.bool n, .slice A0 l.length c0]) (by rfl) rfl ?_ ?_
      · go_simp
        (try simp only [i64_w])
        try rfl
      exact hK.out _ _ ⟨v1, v3, Aq, cq, Ar, cr, g9, g10, (by rw [ha.out]; exact putSel_upk 0 hb_ rfl rfl rfl), hR.out.same 0 rfl⟩
    refine steps_cons ?_ ?_
    · rintro b a w' ⟨v1, v3, Aq, cq, Ar, cr, g9, g10, ha, hR⟩ hb_ hon hoff
      refine ⟨_, rfl, fun K_ hK => ?_⟩
      have e31 : a.tmps[31]? = some (.agg #[.bool n, .slice A0 l.length c0]) := by rw [ha]; exact putSel_on (e := (0, 31, .agg #[.bool n, .slice A0 l.length c0])) 0 rfl rfl (hon 0 (by kernel_rfl)) rfl
      replace ha := Aside0.mk ha
      replace hR := Aside0.mk hR
      refine goes_ Try.func21 (by kernel_rfl) rfl #[.agg #[.bool n, .slice A0 l.length c0]] (by rfl) rfl rfl (by first | (simp only [List.map_toArray, List.map_cons, List.map_nil, Act.eval, Array.getD_eq_getD_getElem?, Option.getD_some, e31]; done) | (simp only [List.map_toArray, List.map_cons, List.map_nil, Act.eval, Array.getD_eq_getD_getElem?, Option.getD_some, e31]; rfl)) ?_
      refine (Pw.laws_toBig.calls K _ _ _ _ _ _ w' (Kd.C_below HR0.out hR.out.below) HC0.out Ft0.out).mono ?_
      rintro e w1_ ⟨u_, rfl, ho_, hbb_⟩
      refine ⟨_, rfl, ?_⟩
      exact hK.out _ _ ⟨u_, v3, Aq, cq, Ar, cr, g9, g10, (by rw [ha.out]; exact putSel_upk 1 hb_ rfl rfl rfl), hR.out.call1 hbb_ ho_⟩
    refine steps_cons ?_ ?_
    · rintro b a w' ⟨v1, v3, Aq, cq, Ar, cr, g9, g10, ha, hR⟩ hb_ hon hoff
      refine ⟨_, rfl, fun K_ hK => ?_⟩
      have e3 : a.tmps[3]? = some (.pointer (some ⟨g3, 0, none⟩)) := by rw [ha]; exact (putSel_off rfl).trans rfl
      have hO_ := HO.out.keep hR.below hR.kd
      have hc0_ : w'.cell? ⟨g3, 0, none⟩ = some (.bool n') := hO_.c0 (i := 1) rfl
      have hc1_ : w'.cell? ⟨g3, 1, none⟩ = some (.slice A1 l'.length c1) := hO_.c1 (i := 1) rfl
      replace ha := Aside0.mk ha
      replace hR := Aside0.mk hR
      clear hO_
      refine value_ (w1 := w') (v := .agg #[.bool n', .slice A1 l'.length c1]) (by rfl) rfl ?_ ?_
      · go_simp
        (try simp only [i64_w])
        try rfl
      exact hK.out _ _ ⟨v1, v3, Aq, cq, Ar, cr, g9, g10, (by rw [ha.out]; exact putSel_upk 2 hb_ rfl rfl rfl), hR.out.same 2 rfl⟩
    refine steps_cons ?_ ?_
    · rintro b a w' ⟨v1, v3, Aq, cq, Ar, cr, g9, g10, ha, hR⟩ hb_ hon hoff
      refine ⟨_, rfl, fun K_ hK => ?_⟩
      have e33 : a.tmps[33]? = some (.agg #[.bool n', .slice A1 l'.length c1]) := by rw [ha]; exact putSel_on (e := (2, 33, .agg #[.bool n', .slice A1 l'.length c1])) 2 rfl rfl (hon 2 (by kernel_rfl)) rfl
      replace ha := Aside0.mk ha
      replace hR := Aside0.mk hR
      refine goes_ Try.func21 (by kernel_rfl) rfl #[.agg #[.bool n', .slice A1 l'.length c1]] (by rfl) rfl rfl (by first | (simp only [List.map_toArray, List.map_cons, List.map_nil, Act.eval, Array.getD_eq_getD_getElem?, Option.getD_some, e33]; done) | (simp only [List.map_toArray, List.map_cons, List.map_nil, Act.eval, Array.getD_eq_getD_getElem?, Option.getD_some, e33]; rfl)) ?_
      refine (Pw.laws_toBig.calls K _ _ _ _ _ _ w' (Kd.C_below HR1.out hR.out.below) HC1.out Ft1.out).mono ?_
      rintro e w1_ ⟨u_, rfl, ho_, hbb_⟩
      refine ⟨_, rfl, ?_⟩
      exact hK.out _ _ ⟨v1, u_, Aq, cq, Ar, cr, g9, g10, (by rw [ha.out]; exact putSel_upk 3 hb_ rfl rfl rfl), hR.out.call3 hbb_ ho_⟩
    refine steps_cons ?_ ?_
    · rintro b a w' ⟨v1, v3, Aq, cq, Ar, cr, g9, g10, ha, hR⟩ hb_ hon hoff
      refine ⟨_, rfl, fun K_ hK => ?_⟩
      have e32 : a.tmps[32]? = some (.agg #[.bool n, v1]) := by rw [ha]; exact putSel_on (e := (1, 32, .agg #[.bool n, v1])) 1 rfl rfl (hon 1 (by kernel_rfl)) rfl
      have e34 : a.tmps[34]? = some (.agg #[.bool n', v3]) := by rw [ha]; exact putSel_on (e := (3, 34, .agg #[.bool n', v3])) 3 rfl rfl (hon 3 (by kernel_rfl)) rfl
      replace ha := Aside0.mk ha
      have r1_ := hR.r1 (hon 1 (by kernel_rfl))
      have r3_ := hR.r3 (hon 3 (by kernel_rfl))
      replace hR := Aside0.mk hR
      obtain ⟨P_, p_, hP⟩ := Kd.RW_slice r1_
      obtain ⟨S_, s_, hS⟩ := Kd.RW_slice r3_
      have hP' : v1 = .slice P_ l.length p_ := hP
      have hS' : v3 = .slice S_ l'.length s_ := hS
      subst hP'
      subst hS'
      clear hP hS
      obtain ⟨_, x1_, x2_⟩ := Kd.RW_reads' r1_
      obtain ⟨_, x3_, x4_⟩ := Kd.RW_reads' r3_
      clear r1_ r3_
      have x_ := Aside0.mk (And.intro x1_ (And.intro x2_ (And.intro x3_ x4_)))
      clear x1_ x2_ x3_ x4_
      refine goes_ Try.func44 (by kernel_rfl) rfl #[.agg #[.bool n, .slice P_ l.length p_], .agg #[.bool n', .slice S_ l'.length s_]] (by rfl) rfl rfl (by first | (simp only [List.map_toArray, List.map_cons, List.map_nil, Act.eval, Array.getD_eq_getD_getElem?, Option.getD_some, e32, e34]; done) | (simp only [List.map_toArray, List.map_cons, List.map_nil, Act.eval, Array.getD_eq_getD_getElem?, Option.getD_some, e32, e34]; rfl)) ?_
      refine (Pw.spec_BigDiv.calls K _ _ _ _ _ _ _ _ _ _ _ _ _ w' x_.out.2.1 x_.out.1 x_.out.2.2.2 x_.out.2.2.1 FS.out).mono ?_
      rintro e w1_ ⟨u_, y_, rfl, ho_, hp_, hbb_⟩
      refine ⟨_, rfl, ?_⟩
      obtain ⟨Au, cu, rfl⟩ := Kd.RW_slice ho_
      obtain ⟨Ay, cy, rfl⟩ := Kd.RW_slice hp_
      exact hK.out _ _ ⟨_, _, Au, cu, Ay, cy, g9, g10, (by rw [ha.out, putSel_free (v := .tuple #[.agg #[.bool qn, .slice Au ql.length cu], .agg #[.bool rn, .slice Ay rl.length cy], .bool ok]) (hoff 5 (by kernel_rfl)) 5 rfl, putSel_free (v := .agg #[.bool qn, .slice Au ql.length cu]) (hoff 6 (by kernel_rfl)) 6 rfl, putSel_free (v := .agg #[.bool rn, .slice Ay rl.length cy]) (hoff 7 (by kernel_rfl)) 7 rfl]; exact putSel_upk 4 hb_ rfl rfl rfl), hR.out.call4 (hoff 11 (by kernel_rfl)) (hoff 12 (by kernel_rfl)) hbb_ ho_ hp_ (fun k hk => ho_.1 k hk.symm)⟩
    refine steps_cons ?_ ?_
    · rintro b a w' ⟨v1, v3, Aq, cq, Ar, cr, g9, g10, ha, hR⟩ hb_ hon hoff
      refine ⟨_, rfl, fun K_ hK => ?_⟩
      have e35 : a.tmps[35]? = some (.tuple #[.agg #[.bool qn, .slice Aq ql.length cq], .agg #[.bool rn, .slice Ar rl.length cr], .bool ok]) := by rw [ha]; exact putSel_on (e := (4, 35, .tuple #[.agg #[.bool qn, .slice Aq ql.length cq], .agg #[.bool rn, .slice Ar rl.length cr], .bool ok])) 4 rfl rfl (hon 4 (by kernel_rfl)) rfl
      replace ha := Aside0.mk ha
      replace hR := Aside0.mk hR
      refine value_ (w1 := w') (v := .tuple #[.agg #[.bool qn, .slice Aq ql.length cq], .agg #[.bool rn, .slice Ar rl.length cr], .bool ok]) (by rfl) rfl ?_ ?_
      · go_simp
        (try simp only [i64_w])
        try rfl
      exact hK.out _ _ ⟨v1, v3, Aq, cq, Ar, cr, g9, g10, (by rw [ha.out]; exact putSel_upk 5 hb_ rfl rfl rfl), hR.out.same 5 rfl⟩
    refine steps_cons ?_ ?_
    · rintro b a w' ⟨v1, v3, Aq, cq, Ar, cr, g9, g10, ha, hR⟩ hb_ hon hoff
      refine ⟨_, rfl, fun K_ hK => ?_⟩
      have e30 : a.tmps[30]? = some (.tuple #[.agg #[.bool qn, .slice Aq ql.length cq], .agg #[.bool rn, .slice Ar rl.length cr], .bool ok]) := by rw [ha]; exact putSel_on (e := (5, 30, .tuple #[.agg #[.bool qn, .slice Aq ql.length cq], .agg #[.bool rn, .slice Ar rl.length cr], .bool ok])) 5 rfl rfl (hon 5 (by kernel_rfl)) rfl
      replace ha := Aside0.mk ha
      replace hR := Aside0.mk hR
      refine value_ (w1 := w') (v := .agg #[.bool qn, .slice Aq ql.length cq]) (by rfl) rfl ?_ ?_
      · go_simp
        (try simp only [i64_w])
        try rfl
      exact hK.out _ _ ⟨v1, v3, Aq, cq, Ar, cr, g9, g10, (by rw [ha.out]; exact putSel_upk 6 hb_ rfl rfl rfl), hR.out.same 6 rfl⟩
    refine steps_cons ?_ ?_
    · rintro b a w' ⟨v1, v3, Aq, cq, Ar, cr, g9, g10, ha, hR⟩ hb_ hon hoff
      refine ⟨_, rfl, fun K_ hK => ?_⟩
      have e30 : a.tmps[30]? = some (.tuple #[.agg #[.bool qn, .slice Aq ql.length cq], .agg #[.bool rn, .slice Ar rl.length cr], .bool ok]) := by rw [ha]; exact putSel_on (e := (5, 30, .tuple #[.agg #[.bool qn, .slice Aq ql.length cq], .agg #[.bool rn, .slice Ar rl.length cr], .bool ok])) 5 rfl rfl (hon 5 (by kernel_rfl)) rfl
      replace ha := Aside0.mk ha
      replace hR := Aside0.mk hR
      refine value_ (w1 := w') (v := .agg #[.bool rn, .slice Ar rl.length cr]) (by rfl) rfl ?_ ?_
      · go_simp
        (try simp only [i64_w])
        try rfl
      exact hK.out _ _ ⟨v1, v3, Aq, cq, Ar, cr, g9, g10, (by rw [ha.out]; exact putSel_upk 7 hb_ rfl rfl rfl), hR.out.same 7 rfl⟩
    refine steps_cons ?_ ?_
    · rintro b a w' ⟨v1, v3, Aq, cq, Ar, cr, g9, g10, ha, hR⟩ hb_ hon hoff
      refine ⟨_, rfl, fun K_ hK => ?_⟩
      have e30 : a.tmps[30]? = some (.tuple #[.agg #[.bool qn, .slice Aq ql.length cq], .agg #[.bool rn, .slice Ar rl.length cr], .bool ok]) := by rw [ha]; exact putSel_on (e := (5, 30, .tuple #[.agg #[.bool qn, .slice Aq ql.length cq], .agg #[.bool rn, .slice Ar rl.length cr], .bool ok])) 5 rfl rfl (hon 5 (by kernel_rfl)) rfl
      replace ha := Aside0.mk ha
      replace hR := Aside0.mk hR
      refine value_ (w1 := w') (v := .bool ok) (by rfl) rfl ?_ ?_
      · go_simp
        (try simp only [i64_w])
        try rfl
      exact hK.out _ _ ⟨v1, v3, Aq, cq, Ar, cr, g9, g10, (by rw [ha.out]; exact putSel_upk 8 hb_ rfl rfl rfl), hR.out.same 8 rfl⟩
    refine steps_cons ?_ ?_
    · rintro b a w' ⟨v1, v3, Aq, cq, Ar, cr, g9, g10, ha, hR⟩ hb_ hon hoff
      refine ⟨_, rfl, fun K_ hK => ?_⟩
      replace ha := Aside0.mk ha
      replace hR := Aside0.mk hR
      refine box_step ?hg (N := 6) ?hd (cs := #[.bool false, .slice none 0 0]) (t := 27) ?hr ?_
      (case hd => rfl)
      (case hg => rfl)
      (case hr => first | (go_simp; done) | (go_simp; rfl))
      intro gg_ hg_ w1_ hbx_ hbb_
      exact hK.out _ _ ⟨v1, v3, Aq, cq, Ar, cr, gg_, g10, (by rw [ha.out]; exact putSel_upk 9 hb_ rfl rfl rfl), hR.out.alloc9 (hoff 11 (by kernel_rfl)) hbb_ (Nat.le_of_eq hg_.symm) hbx_⟩
    refine steps_cons ?_ ?_
    · rintro b a w' ⟨v1, v3, Aq, cq, Ar, cr, g9, g10, ha, hR⟩ hb_ hon hoff
      refine ⟨_, rfl, fun K_ hK => ?_⟩
      replace ha := Aside0.mk ha
      replace hR := Aside0.mk hR
      refine box_step ?hg (N := 7) ?hd (cs := #[.bool false, .slice none 0 0]) (t := 27) ?hr ?_
      (case hd => rfl)
      (case hg => rfl)
      (case hr => first | (go_simp; done) | (go_simp; rfl))
      intro gg_ hg_ w1_ hbx_ hbb_
      exact hK.out _ _ ⟨v1, v3, Aq, cq, Ar, cr, g9, gg_, (by rw [ha.out]; exact putSel_upk 10 hb_ rfl rfl rfl), hR.out.alloc10 (hoff 12 (by kernel_rfl)) hbb_ (Nat.le_of_eq hg_.symm) hbx_⟩
    refine steps_cons ?_ ?_
    · rintro b a w' ⟨v1, v3, Aq, cq, Ar, cr, g9, g10, ha, hR⟩ hb_ hon hoff
      refine ⟨_, rfl, fun K_ hK => ?_⟩
      have e6 : a.tmps[6]? = some (.pointer (some ⟨g9, 0, none⟩)) := by rw [ha]; exact putSel_on (e := (9, 6, .pointer (some ⟨g9, 0, none⟩))) 9 rfl rfl (hon 9 (by kernel_rfl)) rfl
      have e36 : a.tmps[36]? = some (.agg #[.bool qn, .slice Aq ql.length cq]) := by rw [ha]; exact putSel_on (e := (6, 36, .agg #[.bool qn, .slice Aq ql.length cq])) 6 rfl rfl (hon 6 (by kernel_rfl)) rfl
      have x_ := (hR.x9 (hon 9 (by kernel_rfl))).2
      rw [if_neg (by rw [hb_]; decide)] at x_
      have hc0_ : w'.cell? ⟨g9, 0, none⟩ = some (.bool false) := (blk_cell x_ 0).trans rfl
      have hc1_ : w'.cell? ⟨g9, 1, none⟩ = some (.slice none 0 0) := (blk_cell x_ 1).trans rfl
      have hf0_ := blk_frozen x_ 0
      have hf1_ := blk_frozen x_ 1
      clear x_
      have h_ := hR.store11 HO.out.below.size (hon 9 (by kernel_rfl)) hb_
      replace ha := Aside0.mk ha
      replace hR := Aside0.mk hR
      replace h_ := Aside0.mk h_
      refine skip_ (w1 := ?_) (by rfl) rfl ?_ ?_
      rotate_left
      · go_simp
        rfl
      exact hK.out _ _ ⟨v1, v3, Aq, cq, Ar, cr, g9, g10, (by rw [ha.out]; exact putSel_none (v := undef) rfl), h_.out⟩
    refine steps_cons ?_ ?_
    · rintro b a w' ⟨v1, v3, Aq, cq, Ar, cr, g9, g10, ha, hR⟩ hb_ hon hoff
      refine ⟨_, rfl, fun K_ hK => ?_⟩
      have e7 : a.tmps[7]? = some (.pointer (some ⟨g10, 0, none⟩)) := by rw [ha]; exact putSel_on (e := (10, 7, .pointer (some ⟨g10, 0, none⟩))) 10 rfl rfl (hon 10 (by kernel_rfl)) rfl
      have e37 : a.tmps[37]? = some (.agg #[.bool rn, .slice Ar rl.length cr]) := by rw [ha]; exact putSel_on (e := (7, 37, .agg #[.bool rn, .slice Ar rl.length cr])) 7 rfl rfl (hon 7 (by kernel_rfl)) rfl
      have x_ := (hR.x10 (hon 10 (by kernel_rfl))).2
      rw [if_neg (by rw [hb_]; decide)] at x_
      have hc0_ : w'.cell? ⟨g10, 0, none⟩ = some (.bool false) := (blk_cell x_ 0).trans rfl
      have hc1_ : w'.cell? ⟨g10, 1, none⟩ = some (.slice none 0 0) := (blk_cell x_ 1).trans rfl
      have hf0_ := blk_frozen x_ 0
      have hf1_ := blk_frozen x_ 1
      clear x_
      have h_ := hR.store12 HO.out.below.size (hon 10 (by kernel_rfl)) hb_
      replace ha := Aside0.mk ha
      replace hR := Aside0.mk hR
      replace h_ := Aside0.mk h_
      refine skip_ (w1 := ?_) (by rfl) rfl ?_ ?_
      rotate_left
      · go_simp
        rfl
      exact hK.out _ _ ⟨v1, v3, Aq, cq, Ar, cr, g9, g10, (by rw [ha.out]; exact putSel_none (v := undef) rfl), h_.out⟩
    refine steps_cons ?_ ?_
    · rintro b a w' ⟨v1, v3, Aq, cq, Ar, cr, g9, g10, ha, hR⟩ hb_ hon hoff
      refine ⟨_, rfl, fun K_ hK => ?_⟩
      have e38 : a.tmps[38]? = some (.bool ok) := by rw [ha]; exact putSel_on (e := (8, 38, .bool ok)) 8 rfl rfl (hon 8 (by kernel_rfl)) rfl
      replace ha := Aside0.mk ha
      replace hR := Aside0.mk hR
      refine value_ (w1 := w') (v := .bool ok) (by rfl) rfl ?_ ?_
      · go_simp
        (try simp only [i64_w])
        try rfl
      exact hK.out _ _ ⟨v1, v3, Aq, cq, Ar, cr, g9, g10, (by rw [ha.out]; exact putSel_upk 11 hb_ rfl rfl rfl), hR.out.same 13 rfl⟩
    exact steps_nil
  rintro b a w6 hall ⟨v1, v3, Q8, q8, R8, r8, g6, g7, ha, hR⟩
  have hb0_ := hall 0 (by kernel_rfl)
  have hb1_ := hall 1 (by kernel_rfl)
  have hb2_ := hall 2 (by kernel_rfl)
  have hb3_ := hall 3 (by kernel_rfl)
  have hb4_ := hall 4 (by kernel_rfl)
  have hb5_ := hall 5 (by kernel_rfl)
  have hb6_ := hall 6 (by kernel_rfl)
  have hb7_ := hall 7 (by kernel_rfl)
  have hb8_ := hall 8 (by kernel_rfl)
  have hb9_ := hall 9 (by kernel_rfl)
  have hb10_ := hall 10 (by kernel_rfl)
  have hb11_ := hall 11 (by kernel_rfl)
  have hb12_ := hall 12 (by kernel_rfl)
  have hb13_ := hall 13 (by kernel_rfl)
  subst ha
  simp only [putSel, hb0_, hb1_, hb2_, hb3_, hb4_, hb5_, hb6_, hb7_, hb8_, hb9_, hb10_, hb11_, hb12_, hb13_, if_true, Act.put, List.setIfInBounds_toArray, List.set_cons_zero, List.set_cons_succ]
  have hO_ := hR.done HO.out hb4_ hb9_ hb10_ hb11_ hb12_
  clear hR hHeld HT_ HW_ hb0_ hb1_ hb2_ hb3_ hb4_ hb5_ hb6_ hb7_ hb8_ hb9_ hb10_ hb11_ hb12_ hb13_ hall
  replace HO : Aside0 (Ob w w6 [(g2, 24, n, .slice A0 l.length c0), (g3, 24, n', .slice A1 l'.length c1), (g6, 27, qn, .slice Q8 ql.length q8), (g7, 27, rn, .slice R8 rl.length r8)] [(.slice Q8 ql.length q8, ql), (.slice R8 rl.length r8, rl)]) := Aside0.mk (hO_)
  clear hO_
  have q0_0 : w6.cell? ⟨g2, 0, none⟩ = some (.bool n) := HO.out.c0 (i := 0) rfl
  have q0_1 : w6.cell? ⟨g2, 1, none⟩ = some (.slice A0 l.length c0) := HO.out.c1 (i := 0) rfl
  go_wp2_with ((with_reducible refine gate_callee (f := 21) rfl ?_); refine Aside0.out ?_)
  refine ⟨?_⟩
  clear q0_0 q0_1
  refine goesL_ (some 40) rfl rfl Try.func21 (by kernel_rfl) rfl #[.agg #[.bool n, .slice A0 l.length c0]] rfl (by (try simp only [List.map_toArray, List.map_cons, List.map_nil]); first | done | rfl) ?_
  refine (toBig_ob HO.out HR0.out HC0.out Ft0.out).mono ?_
  rintro e w7 ⟨X0, x0, rfl, ho_⟩
  refine ⟨_, rfl, ?_⟩
  replace HO : Aside0 (Ob w w7 [(g2, 24, n, .slice A0 l.length c0), (g3, 24, n', .slice A1 l'.length c1), (g6, 27, qn, .slice Q8 ql.length q8), (g7, 27, rn, .slice R8 rl.length r8)] [(.slice Q8 ql.length q8, ql), (.slice R8 rl.length r8, rl), (.slice X0 l.length x0, l)]) := Aside0.mk (ho_)
  clear ho_
  go_wp2_with ((with_reducible refine gate_dst (N := 9) rfl ?_); refine Aside0.out ?_)
  refine ⟨?_⟩
  refine box_event ?hg (N := 9) ?hd (cs := #[.bool false, .slice none 0 0]) (t := 27) ?hr ?_
  (case hd => rfl)
  (case hg => rfl)
  (case hr => first | (go_simp; done) | (go_simp; rfl))
  intro g9 hg_ w8 hbx_ hb_
  replace HO : Aside0 (Ob w w8 [(g2, 24, n, .slice A0 l.length c0), (g3, 24, n', .slice A1 l'.length c1), (g6, 27, qn, .slice Q8 ql.length q8), (g7, 27, rn, .slice R8 rl.length r8), (g9, 27, false, .slice none 0 0)] [(.slice Q8 ql.length q8, ql), (.slice R8 rl.length r8, rl), (.slice X0 l.length x0, l)]) := Aside0.mk (HO.out.pushBox hb_ (Nat.le_of_eq hg_.symm) hbx_ (by decide))
  clear hb_ hbx_ hg_
  have q1_0 : w8.cell? ⟨g3, 0, none⟩ = some (.bool n') := HO.out.c0 (i := 1) rfl
  have q1_1 : w8.cell? ⟨g3, 1, none⟩ = some (.slice A1 l'.length c1) := HO.out.c1 (i := 1) rfl
  have q4_0 : w8.cell? ⟨g9, 0, none⟩ = some (.bool false) := HO.out.c0 (i := 4) rfl
  have q4_1 : w8.cell? ⟨g9, 1, none⟩ = some (.slice none 0 0) := HO.out.c1 (i := 4) rfl
  have z4_0 := HO.out.fz (i := 4) (g := g9) (t := 27) (n := false) (v := .slice none 0 0) rfl 0
  have z4_1 := HO.out.fz (i := 4) (g := g9) (t := 27) (n := false) (v := .slice none 0 0) rfl 1
  have d1_4 : g3 ≠ g9 := HO.out.bne 1 4 _ _ rfl rfl (by decide)
  have d4_1 := d1_4.symm
  go_wp2_with ((with_reducible refine gate_callee (f := 21) rfl ?_); refine Aside0.out ?_)
  refine ⟨?_⟩
  clear q1_0 q1_1 q4_0 q4_1 z4_0 z4_1 d1_4 d4_1
  replace HO : Aside0 (Ob w ((w8.setCell ⟨g9, 0, none⟩ (.bool n)).setCell ⟨g9, 1, none⟩ (.slice X0 l.length x0)) [(g2, 24, n, .slice A0 l.length c0), (g3, 24, n', .slice A1 l'.length c1), (g6, 27, qn, .slice Q8 ql.length q8), (g7, 27, rn, .slice R8 rl.length r8), (g9, 27, n, .slice X0 l.length x0)] [(.slice Q8 ql.length q8, ql), (.slice R8 rl.length r8, rl), (.slice X0 l.length x0, l)]) := Aside0.mk ((HO.out).setBox (i := 4) (n' := n) (v' := .slice X0 l.length x0) rfl)
  generalize (w8.setCell ⟨g9, 0, none⟩ (.bool n)).setCell ⟨g9, 1, none⟩ (.slice X0 l.length x0) = w9 at HO ⊢
  refine goesL_ (some 42) rfl rfl Try.func21 (by kernel_rfl) rfl #[.agg #[.bool n', .slice A1 l'.length c1]] rfl (by (try simp only [List.map_toArray, List.map_cons, List.map_nil]); first | done | rfl) ?_
  refine (toBig_ob HO.out HR1.out HC1.out Ft1.out).mono ?_
  rintro e w10 ⟨X1, x1, rfl, ho_⟩
  refine ⟨_, rfl, ?_⟩
  replace HO : Aside0 (Ob w w10 [(g2, 24, n, .slice A0 l.length c0), (g3, 24, n', .slice A1 l'.length c1), (g6, 27, qn, .slice Q8 ql.length q8), (g7, 27, rn, .slice R8 rl.length r8), (g9, 27, n, .slice X0 l.length x0)] [(.slice Q8 ql.length q8, ql), (.slice R8 rl.length r8, rl), (.slice X0 l.length x0, l), (.slice X1 l'.length x1, l')]) := Aside0.mk (ho_)
  clear ho_
  go_wp2_with ((with_reducible refine gate_dst (N := 10) rfl ?_); refine Aside0.out ?_)
  refine ⟨?_⟩
  refine box_event ?hg (N := 10) ?hd (cs := #[.bool false, .slice none 0 0]) (t := 27) ?hr ?_
  (case hd => rfl)
  (case hg => rfl)
  (case hr => first | (go_simp; done) | (go_simp; rfl))
  intro g10 hg_ w11 hbx_ hb_
  replace HO : Aside0 (Ob w w11 [(g2, 24, n, .slice A0 l.length c0), (g3, 24, n', .slice A1 l'.length c1), (g6, 27, qn, .slice Q8 ql.length q8), (g7, 27, rn, .slice R8 rl.length r8), (g9, 27, n, .slice X0 l.length x0), (g10, 27, false, .slice none 0 0)] [(.slice Q8 ql.length q8, ql), (.slice R8 rl.length r8, rl), (.slice X0 l.length x0, l), (.slice X1 l'.length x1, l')]) := Aside0.mk (HO.out.pushBox hb_ (Nat.le_of_eq hg_.symm) hbx_ (by decide))
  clear hb_ hbx_ hg_
  have q4_0 : w11.cell? ⟨g9, 0, none⟩ = some (.bool n) := HO.out.c0 (i := 4) rfl
  have q4_1 : w11.cell? ⟨g9, 1, none⟩ = some (.slice X0 l.length x0) := HO.out.c1 (i := 4) rfl
  have q5_0 : w11.cell? ⟨g10, 0, none⟩ = some (.bool false) := HO.out.c0 (i := 5) rfl
  have q5_1 : w11.cell? ⟨g10, 1, none⟩ = some (.slice none 0 0) := HO.out.c1 (i := 5) rfl
  have z5_0 := HO.out.fz (i := 5) (g := g10) (t := 27) (n := false) (v := .slice none 0 0) rfl 0
  have z5_1 := HO.out.fz (i := 5) (g := g10) (t := 27) (n := false) (v := .slice none 0 0) rfl 1
  have d4_5 : g9 ≠ g10 := HO.out.bne 4 5 _ _ rfl rfl (by decide)
  have d5_4 := d4_5.symm
  go_wp2_with ((with_reducible refine gate_callee (f := 43) rfl ?_); refine Aside0.out ?_)
  refine ⟨?_⟩
  clear q4_0 q4_1 q5_0 q5_1 z5_0 z5_1 d4_5 d5_4
  replace HO : Aside0 (Ob w ((w11.setCell ⟨g10, 0, none⟩ (.bool n')).setCell ⟨g10, 1, none⟩ (.slice X1 l'.length x1)) [(g2, 24, n, .slice A0 l.length c0), (g3, 24, n', .slice A1 l'.length c1), (g6, 27, qn, .slice Q8 ql.length q8), (g7, 27, rn, .slice R8 rl.length r8), (g9, 27, n, .slice X0 l.length x0), (g10, 27, n', .slice X1 l'.length x1)] [(.slice Q8 ql.length q8, ql), (.slice R8 rl.length r8, rl), (.slice X0 l.length x0, l), (.slice X1 l'.length x1, l')]) := Aside0.mk ((HO.out).setBox (i := 5) (n' := n') (v' := .slice X1 l'.length x1) rfl)
  generalize (w11.setCell ⟨g10, 0, none⟩ (.bool n')).setCell ⟨g10, 1, none⟩ (.slice X1 l'.length x1) = w12 at HO ⊢
  refine goesL_ (some 46) rfl rfl Try.func43 (by kernel_rfl) rfl #[.agg #[.bool n, .slice X0 l.length x0], .agg #[.bool n', .slice X1 l'.length x1]] rfl (by (try simp only [List.map_toArray, List.map_cons, List.map_nil]); first | done | rfl) ?_
  refine (div_ob HO.out (i := 2) (j := 3) rfl rfl FI.out).mono ?_
  rintro e w13 ⟨Q1, q1, R1, r1, rfl, ho_⟩
  refine ⟨_, rfl, ?_⟩
  replace HO : Aside0 (Ob w w13 [(g2, 24, n, .slice A0 l.length c0), (g3, 24, n', .slice A1 l'.length c1), (g6, 27, qn, .slice Q8 ql.length q8), (g7, 27, rn, .slice R8 rl.length r8), (g9, 27, n, .slice X0 l.length x0), (g10, 27, n', .slice X1 l'.length x1)] [(.slice Q8 ql.length q8, ql), (.slice R8 rl.length r8, rl), (.slice X0 l.length x0, l), (.slice X1 l'.length x1, l'), (.slice Q1 ql.length q1, ql), (.slice R1 rl.length r1, rl)]) := Aside0.mk (ho_)
  clear ho_
  go_wp2_with ((with_reducible refine gate_dst (N := 11) rfl ?_); refine Aside0.out ?_)
  refine ⟨?_⟩
  refine box_event ?hg (N := 11) ?hd (cs := #[.bool false, .slice none 0 0]) (t := 27) ?hr ?_
  (case hd => rfl)
  (case hg => rfl)
  (case hr => first | (go_simp; done) | (go_simp; rfl))
  intro g11 hg_ w14 hbx_ hb_
  replace HO : Aside0 (Ob w w14 [(g2, 24, n, .slice A0 l.length c0), (g3, 24, n', .slice A1 l'.length c1), (g6, 27, qn, .slice Q8 ql.length q8), (g7, 27, rn, .slice R8 rl.length r8), (g9, 27, n, .slice X0 l.length x0), (g10, 27, n', .slice X1 l'.length x1), (g11, 27, false, .slice none 0 0)] [(.slice Q8 ql.length q8, ql), (.slice R8 rl.length r8, rl), (.slice X0 l.length x0, l), (.slice X1 l'.length x1, l'), (.slice Q1 ql.length q1, ql), (.slice R1 rl.length r1, rl)]) := Aside0.mk (HO.out.pushBox hb_ (Nat.le_of_eq hg_.symm) hbx_ (by decide))
  clear hb_ hbx_ hg_
  go_wp2_with ((with_reducible refine gate_dst (N := 12) rfl ?_); refine Aside0.out ?_)
  refine ⟨?_⟩
  refine box_event ?hg (N := 12) ?hd (cs := #[.bool false, .slice none 0 0]) (t := 27) ?hr ?_
  (case hd => rfl)
  (case hg => rfl)
  (case hr => first | (go_simp; done) | (go_simp; rfl))
  intro g12 hg_ w15 hbx_ hb_
  replace HO : Aside0 (Ob w w15 [(g2, 24, n, .slice A0 l.length c0), (g3, 24, n', .slice A1 l'.length c1), (g6, 27, qn, .slice Q8 ql.length q8), (g7, 27, rn, .slice R8 rl.length r8), (g9, 27, n, .slice X0 l.length x0), (g10, 27, n', .slice X1 l'.length x1), (g11, 27, false, .slice none 0 0), (g12, 27, false, .slice none 0 0)] [(.slice Q8 ql.length q8, ql), (.slice R8 rl.length r8, rl), (.slice X0 l.length x0, l), (.slice X1 l'.length x1, l'), (.slice Q1 ql.length q1, ql), (.slice R1 rl.length r1, rl)]) := Aside0.mk (HO.out.pushBox hb_ (Nat.le_of_eq hg_.symm) hbx_ (by decide))
  clear hb_ hbx_ hg_
  have q2_0 : w15.cell? ⟨g6, 0, none⟩ = some (.bool qn) := HO.out.c0 (i := 2) rfl
  have q2_1 : w15.cell? ⟨g6, 1, none⟩ = some (.slice Q8 ql.length q8) := HO.out.c1 (i := 2) rfl
  have q6_0 : w15.cell? ⟨g11, 0, none⟩ = some (.bool false) := HO.out.c0 (i := 6) rfl
  have q6_1 : w15.cell? ⟨g11, 1, none⟩ = some (.slice none 0 0) := HO.out.c1 (i := 6) rfl
  have q7_0 : w15.cell? ⟨g12, 0, none⟩ = some (.bool false) := HO.out.c0 (i := 7) rfl
  have q7_1 : w15.cell? ⟨g12, 1, none⟩ = some (.slice none 0 0) := HO.out.c1 (i := 7) rfl
  have z6_0 := HO.out.fz (i := 6) (g := g11) (t := 27) (n := false) (v := .slice none 0 0) rfl 0
  have z6_1 := HO.out.fz (i := 6) (g := g11) (t := 27) (n := false) (v := .slice none 0 0) rfl 1
  have z7_0 := HO.out.fz (i := 7) (g := g12) (t := 27) (n := false) (v := .slice none 0 0) rfl 0
  have z7_1 := HO.out.fz (i := 7) (g := g12) (t := 27) (n := false) (v := .slice none 0 0) rfl 1
  have d2_6 : g6 ≠ g11 := HO.out.bne 2 6 _ _ rfl rfl (by decide)
  have d6_2 := d2_6.symm
  have d2_7 : g6 ≠ g12 := HO.out.bne 2 7 _ _ rfl rfl (by decide)
  have d7_2 := d2_7.symm
  have d6_7 : g11 ≠ g12 := HO.out.bne 6 7 _ _ rfl rfl (by decide)
  have d7_6 := d6_7.symm
  go_wp2_with ((with_reducible refine gate_callee (f := 23) rfl ?_); refine Aside0.out ?_)
  refine ⟨?_⟩
  clear q2_0 q2_1 q6_0 q6_1 q7_0 q7_1 z6_0 z6_1 z7_0 z7_1 d2_6 d6_2 d2_7 d7_2 d6_7 d7_6
  replace HO : Aside0 (Ob w ((((w15.setCell ⟨g11, 0, none⟩ (.bool qn)).setCell ⟨g11, 1, none⟩ (.slice Q1 ql.length q1)).setCell ⟨g12, 0, none⟩ (.bool rn)).setCell ⟨g12, 1, none⟩ (.slice R1 rl.length r1)) [(g2, 24, n, .slice A0 l.length c0), (g3, 24, n', .slice A1 l'.length c1), (g6, 27, qn, .slice Q8 ql.length q8), (g7, 27, rn, .slice R8 rl.length r8), (g9, 27, n, .slice X0 l.length x0), (g10, 27, n', .slice X1 l'.length x1), (g11, 27, qn, .slice Q1 ql.length q1), (g12, 27, rn, .slice R1 rl.length r1)] [(.slice Q8 ql.length q8, ql), (.slice R8 rl.length r8, rl), (.slice X0 l.length x0, l), (.slice X1 l'.length x1, l'), (.slice Q1 ql.length q1, ql), (.slice R1 rl.length r1, rl)]) := Aside0.mk (((HO.out).setBox (i := 6) (n' := qn) (v' := .slice Q1 ql.length q1) rfl).setBox (i := 7) (n' := rn) (v' := .slice R1 rl.length r1) rfl)
  generalize (((w15.setCell ⟨g11, 0, none⟩ (.bool qn)).setCell ⟨g11, 1, none⟩ (.slice Q1 ql.length q1)).setCell ⟨g12, 0, none⟩ (.bool rn)).setCell ⟨g12, 1, none⟩ (.slice R1 rl.length r1) = w16 at HO ⊢
  refine goesL_ (some 52) rfl rfl Try.func23 (by kernel_rfl) rfl #[.agg #[.bool qn, .slice Q1 ql.length q1], .agg #[.bool qn, .slice Q8 ql.length q8]] rfl (by (try simp only [List.map_toArray, List.map_cons, List.map_nil]); first | done | rfl) ?_
  refine (eq_ob HO.out (i := 4) (j := 0) rfl rfl Feq.out).mono ?_
  rintro e w17 ⟨rfl, ho_⟩
  refine ⟨_, rfl, ?_⟩
  replace HO : Aside0 (Ob w w17 [(g2, 24, n, .slice A0 l.length c0), (g3, 24, n', .slice A1 l'.length c1), (g6, 27, qn, .slice Q8 ql.length q8), (g7, 27, rn, .slice R8 rl.length r8), (g9, 27, n, .slice X0 l.length x0), (g10, 27, n', .slice X1 l'.length x1), (g11, 27, qn, .slice Q1 ql.length q1), (g12, 27, rn, .slice R1 rl.length r1)] [(.slice Q8 ql.length q8, ql), (.slice R8 rl.length r8, rl), (.slice X0 l.length x0, l), (.slice X1 l'.length x1, l'), (.slice Q1 ql.length q1, ql), (.slice R1 rl.length r1, rl)]) := Aside0.mk (ho_)
  clear ho_
  have q7_0 : w17.cell? ⟨g12, 0, none⟩ = some (.bool rn) := HO.out.c0 (i := 7) rfl
  have q7_1 : w17.cell? ⟨g12, 1, none⟩ = some (.slice R1 rl.length r1) := HO.out.c1 (i := 7) rfl
  have q3_0 : w17.cell? ⟨g7, 0, none⟩ = some (.bool rn) := HO.out.c0 (i := 3) rfl
  have q3_1 : w17.cell? ⟨g7, 1, none⟩ = some (.slice R8 rl.length r8) := HO.out.c1 (i := 3) rfl
  go_wp2_with ((with_reducible refine gate_callee (f := 23) rfl ?_); refine Aside0.out ?_)
  refine ⟨?_⟩
  clear q7_0 q7_1 q3_0 q3_1
  refine gate_guard rfl ?_
  refine goesL_ (some 57) rfl rfl Try.func23 (by kernel_rfl) rfl #[.agg #[.bool rn, .slice R1 rl.length r1], .agg #[.bool rn, .slice R8 rl.length r8]] rfl (by (try simp only [List.map_toArray, List.map_cons, List.map_nil]); first | done | rfl) ?_
  refine (eq_ob HO.out (i := 5) (j := 1) rfl rfl Fer.out).mono ?_
  rintro e w18 ⟨rfl, ho_⟩
  refine ⟨_, rfl, ?_⟩
  replace HO : Aside0 (Ob w w18 [(g2, 24, n, .slice A0 l.length c0), (g3, 24, n', .slice A1 l'.length c1), (g6, 27, qn, .slice Q8 ql.length q8), (g7, 27, rn, .slice R8 rl.length r8), (g9, 27, n, .slice X0 l.length x0), (g10, 27, n', .slice X1 l'.length x1), (g11, 27, qn, .slice Q1 ql.length q1), (g12, 27, rn, .slice R1 rl.length r1)] [(.slice Q8 ql.length q8, ql), (.slice R8 rl.length r8, rl), (.slice X0 l.length x0, l), (.slice X1 l'.length x1, l'), (.slice Q1 ql.length q1, ql), (.slice R1 rl.length r1, rl)]) := Aside0.mk (ho_)
  clear ho_
  go_wp2_with (fail)
  refine start_ (n := 5) (S := fun w' => w'.cell? ⟨g9, 0, none⟩ = some (.bool n) ∧ w'.cell? ⟨g9, 1, none⟩ = some (.slice X0 l.length x0) ∧ w'.cell? ⟨g2, 0, none⟩ = some (.bool n) ∧ w'.cell? ⟨g2, 1, none⟩ = some (.slice A0 l.length c0)) (ds := []) #[false, false, false, false, false] (by kernel_rfl) rfl rfl ⟨HO.out.c0 (i := 4) rfl, HO.out.c1 (i := 4) rfl, HO.out.c0 (i := 0) rfl, HO.out.c1 (i := 0) rfl⟩ (fun hHeld => ?_)
  replace HO := Aside0.mk HO.out.drew
  generalize w18.drew = w19 at HO hHeld ⊢
  refine take_ (i := 0) (N := some 65) (v := ?_) (a' := ?_) #[true, false, false, false, false] rfl rfl (by kernel_rfl) (fun _ _ _ h => h) (Or.inl ⟨by rfl, ?_⟩) hHeld ?_ ?_
  rotate_left
  · rintro w' ⟨s0, s1, s2, s3⟩
    go_simp
    with_reducible rfl
  rotate_left
  · simp only [Act.put, List.setIfInBounds_toArray, List.set_cons_zero, List.set_cons_succ, i64_w, i32_w]
    rfl
  refine take_ (i := 1) (N := some 66) (v := ?_) (a' := ?_) #[true, true, false, false, false] rfl rfl (by kernel_rfl) (fun _ _ _ h => h) (Or.inl ⟨by rfl, ?_⟩) hHeld ?_ ?_
  rotate_left
  · rintro w' ⟨s0, s1, s2, s3⟩
    go_simp
    with_reducible rfl
  rotate_left
  · simp only [Act.put, List.setIfInBounds_toArray, List.set_cons_zero, List.set_cons_succ, i64_w, i32_w]
    rfl
  refine one_ (i := 2) (N := some 67) #[true, true, true, false, false] rfl rfl (by kernel_rfl) (by decide) (fun K_ hK_ => ?_)
  clear hHeld
  refine goes_ Try.func21 (by kernel_rfl) rfl #[.agg #[.bool n, .slice A0 l.length c0]] (by rfl) rfl rfl (by (try simp only [List.map_toArray, List.map_cons, List.map_nil]); first | done | rfl) ?_
  refine (toBig_ob HO.out HR0.out HC0.out Ft0.out).mono ?_
  rintro e w20 ⟨Y0, y0, rfl, ho_⟩
  refine ⟨_, rfl, ?_⟩
  replace HO : Aside0 (Ob w w20 [(g2, 24, n, .slice A0 l.length c0), (g3, 24, n', .slice A1 l'.length c1), (g6, 27, qn, .slice Q8 ql.length q8), (g7, 27, rn, .slice R8 rl.length r8), (g9, 27, n, .slice X0 l.length x0), (g10, 27, n', .slice X1 l'.length x1), (g11, 27, qn, .slice Q1 ql.length q1), (g12, 27, rn, .slice R1 rl.length r1)] [(.slice Q8 ql.length q8, ql), (.slice R8 rl.length r8, rl), (.slice X0 l.length x0, l), (.slice X1 l'.length x1, l'), (.slice Q1 ql.length q1, ql), (.slice R1 rl.length r1, rl), (.slice Y0 l.length y0, l)]) := Aside0.mk (ho_)
  clear ho_
  refine hK_.out _ _ ⟨HO.out.c0 (i := 4) rfl, HO.out.c1 (i := 4) rfl, HO.out.c0 (i := 0) rfl, HO.out.c1 (i := 0) rfl⟩ (fun hHeld => ?_)
  clear hK_ K_
  refine norm_ (a' := ?_) ?_ ?_
  rotate_left
  · show Act.put _ (some 67) _ = _
    simp only [Act.put, List.setIfInBounds_toArray, List.set_cons_zero, List.set_cons_succ, i64_w, i32_w]
    rfl
  refine one_ (i := 3) (N := some 68) #[true, true, true, true, false] rfl rfl (by kernel_rfl) (by decide) (fun K_ hK_ => ?_)
  clear hHeld
  refine goes_ Try.func23 (by kernel_rfl) rfl #[.agg #[.bool n, .slice X0 l.length x0], .agg #[.bool n, .slice Y0 l.length y0]] (by rfl) rfl rfl (by (try simp only [List.map_toArray, List.map_cons, List.map_nil]); first | done | rfl) ?_
  refine (eq_ob HO.out (i := 2) (j := 6) rfl rfl Fe0.out).mono ?_
  rintro e w21 ⟨rfl, ho_⟩
  refine ⟨_, rfl, ?_⟩
  replace HO : Aside0 (Ob w w21 [(g2, 24, n, .slice A0 l.length c0), (g3, 24, n', .slice A1 l'.length c1), (g6, 27, qn, .slice Q8 ql.length q8), (g7, 27, rn, .slice R8 rl.length r8), (g9, 27, n, .slice X0 l.length x0), (g10, 27, n', .slice X1 l'.length x1), (g11, 27, qn, .slice Q1 ql.length q1), (g12, 27, rn, .slice R1 rl.length r1)] [(.slice Q8 ql.length q8, ql), (.slice R8 rl.length r8, rl), (.slice X0 l.length x0, l), (.slice X1 l'.length x1, l'), (.slice Q1 ql.length q1, ql), (.slice R1 rl.length r1, rl), (.slice Y0 l.length y0, l)]) := Aside0.mk (ho_)
  clear ho_
  refine hK_.out _ _ ⟨HO.out.c0 (i := 4) rfl, HO.out.c1 (i := 4) rfl, HO.out.c0 (i := 0) rfl, HO.out.c1 (i := 0) rfl⟩ (fun hHeld => ?_)
  clear hK_ K_
  refine norm_ (a' := ?_) ?_ ?_
  rotate_left
  · show Act.put _ (some 68) _ = _
    simp only [Act.put, List.setIfInBounds_toArray, List.set_cons_zero, List.set_cons_succ, i64_w, i32_w]
    rfl
  refine pure_ (i := 4) (N := some 69) (v := ?_) (a' := ?_) #[true, true, true, true, true] rfl rfl (by kernel_rfl) (fun _ _ _ h => h) (Or.inl ⟨by rfl, ?_⟩) ?_ ?_
  rotate_left
  · intro w'
    go_simp
    with_reducible rfl
  rotate_left
  · simp only [Act.put, List.setIfInBounds_toArray, List.set_cons_zero, List.set_cons_succ, i64_w, i32_w]
    rfl
  refine done_ (by kernel_rfl) ?_
  clear hHeld
  go_wp2_with (fail)
  refine start_ (n := 5) (S := fun w' => w'.cell? ⟨g10, 0, none⟩ = some (.bool n') ∧ w'.cell? ⟨g10, 1, none⟩ = some (.slice X1 l'.length x1) ∧ w'.cell? ⟨g3, 0, none⟩ = some (.bool n') ∧ w'.cell? ⟨g3, 1, none⟩ = some (.slice A1 l'.length c1)) (ds := []) #[false, false, false, false, false] (by kernel_rfl) rfl rfl ⟨HO.out.c0 (i := 5) rfl, HO.out.c1 (i := 5) rfl, HO.out.c0 (i := 1) rfl, HO.out.c1 (i := 1) rfl⟩ (fun hHeld => ?_)
  replace HO := Aside0.mk HO.out.drew
  generalize w21.drew = w22 at HO hHeld ⊢
  refine take_ (i := 0) (N := some 70) (v := ?_) (a' := ?_) #[true, false, false, false, false] rfl rfl (by kernel_rfl) (fun _ _ _ h => h) (Or.inl ⟨by rfl, ?_⟩) hHeld ?_ ?_
  rotate_left
  · rintro w' ⟨s0, s1, s2, s3⟩
    go_simp
    with_reducible rfl
  rotate_left
  · simp only [Act.put, List.setIfInBounds_toArray, List.set_cons_zero, List.set_cons_succ, i64_w, i32_w]
    rfl
  refine take_ (i := 1) (N := some 71) (v := ?_) (a' := ?_) #[true, true, false, false, false] rfl rfl (by kernel_rfl) (fun _ _ _ h => h) (Or.inl ⟨by rfl, ?_⟩) hHeld ?_ ?_
  rotate_left
  · rintro w' ⟨s0, s1, s2, s3⟩
    go_simp
    with_reducible rfl
  rotate_left
  · simp only [Act.put, List.setIfInBounds_toArray, List.set_cons_zero, List.set_cons_succ, i64_w, i32_w]
    rfl
  refine one_ (i := 2) (N := some 72) #[true, true, true, false, false] rfl rfl (by kernel_rfl) (by decide) (fun K_ hK_ => ?_)
  clear hHeld
  refine goes_ Try.func21 (by kernel_rfl) rfl #[.agg #[.bool n', .slice A1 l'.length c1]] (by rfl) rfl rfl (by (try simp only [List.map_toArray, List.map_cons, List.map_nil]); first | done | rfl) ?_
  refine (toBig_ob HO.out HR1.out HC1.out Ft1.out).mono ?_
  rintro e w23 ⟨Y1, y1, rfl, ho_⟩
  refine ⟨_, rfl, ?_⟩
  replace HO : Aside0 (Ob w w23 [(g2, 24, n, .slice A0 l.length c0), (g3, 24, n', .slice A1 l'.length c1), (g6, 27, qn, .slice Q8 ql.length q8), (g7, 27, rn, .slice R8 rl.length r8), (g9, 27, n, .slice X0 l.length x0), (g10, 27, n', .slice X1 l'.length x1), (g11, 27, qn, .slice Q1 ql.length q1), (g12, 27, rn, .slice R1 rl.length r1)] [(.slice Q8 ql.length q8, ql), (.slice R8 rl.length r8, rl), (.slice X0 l.length x0, l), (.slice X1 l'.length x1, l'), (.slice Q1 ql.length q1, ql), (.slice R1 rl.length r1, rl), (.slice Y0 l.length y0, l), (.slice Y1 l'.length y1, l')]) := Aside0.mk (ho_)
  clear ho_
  refine hK_.out _ _ ⟨HO.out.c0 (i := 5) rfl, HO.out.c1 (i := 5) rfl, HO.out.c0 (i := 1) rfl, HO.out.c1 (i := 1) rfl⟩ (fun hHeld => ?_)
  clear hK_ K_
  refine norm_ (a' := ?_) ?_ ?_
  rotate_left
  · show Act.put _ (some 72) _ = _
    simp only [Act.put, List.setIfInBounds_toArray, List.set_cons_zero, List.set_cons_succ, i64_w, i32_w]
    rfl
  refine one_ (i := 3) (N := some 73) #[true, true, true, true, false] rfl rfl (by kernel_rfl) (by decide) (fun K_ hK_ => ?_)
  clear hHeld
  refine goes_ Try.func23 (by kernel_rfl) rfl #[.agg #[.bool n', .slice X1 l'.length x1], .agg #[.bool n', .slice Y1 l'.length y1]] (by rfl) rfl rfl (by (try simp only [List.map_toArray, List.map_cons, List.map_nil]); first | done | rfl) ?_
  refine (eq_ob HO.out (i := 3) (j := 7) rfl rfl Fe1.out).mono ?_
  rintro e w24 ⟨rfl, ho_⟩
  refine ⟨_, rfl, ?_⟩
  replace HO : Aside0 (Ob w w24 [(g2, 24, n, .slice A0 l.length c0), (g3, 24, n', .slice A1 l'.length c1), (g6, 27, qn, .slice Q8 ql.length q8), (g7, 27, rn, .slice R8 rl.length r8), (g9, 27, n, .slice X0 l.length x0), (g10, 27, n', .slice X1 l'.length x1), (g11, 27, qn, .slice Q1 ql.length q1), (g12, 27, rn, .slice R1 rl.length r1)] [(.slice Q8 ql.length q8, ql), (.slice R8 rl.length r8, rl), (.slice X0 l.length x0, l), (.slice X1 l'.length x1, l'), (.slice Q1 ql.length q1, ql), (.slice R1 rl.length r1, rl), (.slice Y0 l.length y0, l), (.slice Y1 l'.length y1, l')]) := Aside0.mk (ho_)
  clear ho_
  refine hK_.out _ _ ⟨HO.out.c0 (i := 5) rfl, HO.out.c1 (i := 5) rfl, HO.out.c0 (i := 1) rfl, HO.out.c1 (i := 1) rfl⟩ (fun hHeld => ?_)
  clear hK_ K_
  refine norm_ (a' := ?_) ?_ ?_
  rotate_left
  · show Act.put _ (some 73) _ = _
    simp only [Act.put, List.setIfInBounds_toArray, List.set_cons_zero, List.set_cons_succ, i64_w, i32_w]
    rfl
  refine pure_ (i := 4) (N := some 74) (v := ?_) (a' := ?_) #[true, true, true, true, true] rfl rfl (by kernel_rfl) (fun _ _ _ h => h) (Or.inl ⟨by rfl, ?_⟩) ?_ ?_
  rotate_left
  · intro w'
    go_simp
    with_reducible rfl
  rotate_left
  · simp only [Act.put, List.setIfInBounds_toArray, List.set_cons_zero, List.set_cons_succ, i64_w, i32_w]
    rfl
  refine done_ (by kernel_rfl) ?_
  clear hHeld
  have q4_0 : w24.cell? ⟨g9, 0, none⟩ = some (.bool n) := HO.out.c0 (i := 4) rfl
  have q4_1 : w24.cell? ⟨g9, 1, none⟩ = some (.slice X0 l.length x0) := HO.out.c1 (i := 4) rfl
  go_wp2_with ((with_reducible refine gate_callee (f := 26) rfl ?_); refine Aside0.out ?_)
  refine ⟨?_⟩
  clear q4_0 q4_1
  refine goesL_ (some 77) rfl rfl Try.func26 (by kernel_rfl) rfl #[.agg #[.bool n, .slice X0 l.length x0], .int .i64 1] rfl (by (try simp only [List.map_toArray, List.map_cons, List.map_nil]); first | done | rfl) ?_
  refine (mark_ob HO.out (i := 2) rfl Fm0.out).mono ?_
  rintro e w25 ⟨rfl, ho_⟩
  refine ⟨_, rfl, ?_⟩
  replace HO : Aside0 (Ob w w25 [(g2, 24, n, .slice A0 l.length c0), (g3, 24, n', .slice A1 l'.length c1), (g6, 27, qn, .slice Q8 ql.length q8), (g7, 27, rn, .slice R8 rl.length r8), (g9, 27, n, .slice X0 l.length x0), (g10, 27, n', .slice X1 l'.length x1), (g11, 27, qn, .slice Q1 ql.length q1), (g12, 27, rn, .slice R1 rl.length r1)] [(.slice Q8 ql.length q8, ql), (.slice R8 rl.length r8, rl), (.slice X0 l.length x0, s0), (.slice X1 l'.length x1, l'), (.slice Q1 ql.length q1, ql), (.slice R1 rl.length r1, rl), (.slice Y0 l.length y0, l), (.slice Y1 l'.length y1, l')]) := Aside0.mk (ho_)
  clear ho_
  have q5_0 : w25.cell? ⟨g10, 0, none⟩ = some (.bool n') := HO.out.c0 (i := 5) rfl
  have q5_1 : w25.cell? ⟨g10, 1, none⟩ = some (.slice X1 l'.length x1) := HO.out.c1 (i := 5) rfl
  go_wp2_with ((with_reducible refine gate_callee (f := 26) rfl ?_); refine Aside0.out ?_)
  refine ⟨?_⟩
  clear q5_0 q5_1
  refine goesL_ (some 80) rfl rfl Try.func26 (by kernel_rfl) rfl #[.agg #[.bool n', .slice X1 l'.length x1], .int .i64 m1] rfl (by (try simp only [List.map_toArray, List.map_cons, List.map_nil]); first | done | rfl) ?_
  refine (mark_ob HO.out (i := 3) rfl Fm1.out).mono ?_
  rintro e w26 ⟨rfl, ho_⟩
  refine ⟨_, rfl, ?_⟩
  replace HO : Aside0 (Ob w w26 [(g2, 24, n, .slice A0 l.length c0), (g3, 24, n', .slice A1 l'.length c1), (g6, 27, qn, .slice Q8 ql.length q8), (g7, 27, rn, .slice R8 rl.length r8), (g9, 27, n, .slice X0 l.length x0), (g10, 27, n', .slice X1 l'.length x1), (g11, 27, qn, .slice Q1 ql.length q1), (g12, 27, rn, .slice R1 rl.length r1)] [(.slice Q8 ql.length q8, ql), (.slice R8 rl.length r8, rl), (.slice X0 l.length x0, s0), (.slice X1 l'.length x1, s1), (.slice Q1 ql.length q1, ql), (.slice R1 rl.length r1, rl), (.slice Y0 l.length y0, l), (.slice Y1 l'.length y1, l')]) := Aside0.mk (ho_)
  clear ho_
  have q6_0 : w26.cell? ⟨g11, 0, none⟩ = some (.bool qn) := HO.out.c0 (i := 6) rfl
  have q6_1 : w26.cell? ⟨g11, 1, none⟩ = some (.slice Q1 ql.length q1) := HO.out.c1 (i := 6) rfl
  have q2_0 : w26.cell? ⟨g6, 0, none⟩ = some (.bool qn) := HO.out.c0 (i := 2) rfl
  have q2_1 : w26.cell? ⟨g6, 1, none⟩ = some (.slice Q8 ql.length q8) := HO.out.c1 (i := 2) rfl
  go_wp2_with ((with_reducible refine gate_callee (f := 23) rfl ?_); refine Aside0.out ?_)
  refine ⟨?_⟩
  clear q6_0 q6_1 q2_0 q2_1
  refine gate_guard rfl ?_
  refine goesL_ (some 86) rfl rfl Try.func23 (by kernel_rfl) rfl #[.agg #[.bool qn, .slice Q1 ql.length q1], .agg #[.bool qn, .slice Q8 ql.length q8]] rfl (by (try simp only [List.map_toArray, List.map_cons, List.map_nil]); first | done | rfl) ?_
  refine (eq_ob HO.out (i := 4) (j := 0) rfl rfl Feq.out).mono ?_
  rintro e w27 ⟨rfl, ho_⟩
  refine ⟨_, rfl, ?_⟩
  replace HO : Aside0 (Ob w w27 [(g2, 24, n, .slice A0 l.length c0), (g3, 24, n', .slice A1 l'.length c1), (g6, 27, qn, .slice Q8 ql.length q8), (g7, 27, rn, .slice R8 rl.length r8), (g9, 27, n, .slice X0 l.length x0), (g10, 27, n', .slice X1 l'.length x1), (g11, 27, qn, .slice Q1 ql.length q1), (g12, 27, rn, .slice R1 rl.length r1)] [(.slice Q8 ql.length q8, ql), (.slice R8 rl.length r8, rl), (.slice X0 l.length x0, s0), (.slice X1 l'.length x1, s1), (.slice Q1 ql.length q1, ql), (.slice R1 rl.length r1, rl), (.slice Y0 l.length y0, l), (.slice Y1 l'.length y1, l')]) := Aside0.mk (ho_)
  clear ho_
  have q7_0 : w27.cell? ⟨g12, 0, none⟩ = some (.bool rn) := HO.out.c0 (i := 7) rfl
  have q7_1 : w27.cell? ⟨g12, 1, none⟩ = some (.slice R1 rl.length r1) := HO.out.c1 (i := 7) rfl
  have q3_0 : w27.cell? ⟨g7, 0, none⟩ = some (.bool rn) := HO.out.c0 (i := 3) rfl
  have q3_1 : w27.cell? ⟨g7, 1, none⟩ = some (.slice R8 rl.length r8) := HO.out.c1 (i := 3) rfl
  go_wp2_with ((with_reducible refine gate_callee (f := 23) rfl ?_); refine Aside0.out ?_)
  refine ⟨?_⟩
  clear q7_0 q7_1 q3_0 q3_1
  refine gate_guard rfl ?_
  refine goesL_ (some 92) rfl rfl Try.func23 (by kernel_rfl) rfl #[.agg #[.bool rn, .slice R1 rl.length r1], .agg #[.bool rn, .slice R8 rl.length r8]] rfl (by (try simp only [List.map_toArray, List.map_cons, List.map_nil]); first | done | rfl) ?_
  refine (eq_ob HO.out (i := 5) (j := 1) rfl rfl Fer.out).mono ?_
  rintro e w28 ⟨rfl, ho_⟩
  refine ⟨_, rfl, ?_⟩
  replace HO : Aside0 (Ob w w28 [(g2, 24, n, .slice A0 l.length c0), (g3, 24, n', .slice A1 l'.length c1), (g6, 27, qn, .slice Q8 ql.length q8), (g7, 27, rn, .slice R8 rl.length r8), (g9, 27, n, .slice X0 l.length x0), (g10, 27, n', .slice X1 l'.length x1), (g11, 27, qn, .slice Q1 ql.length q1), (g12, 27, rn, .slice R1 rl.length r1)] [(.slice Q8 ql.length q8, ql), (.slice R8 rl.length r8, rl), (.slice X0 l.length x0, s0), (.slice X1 l'.length x1, s1), (.slice Q1 ql.length q1, ql), (.slice R1 rl.length r1, rl), (.slice Y0 l.length y0, l), (.slice Y1 l'.length y1, l')]) := Aside0.mk (ho_)
  clear ho_
  have q6_0 : w28.cell? ⟨g11, 0, none⟩ = some (.bool qn) := HO.out.c0 (i := 6) rfl
  have q6_1 : w28.cell? ⟨g11, 1, none⟩ = some (.slice Q1 ql.length q1) := HO.out.c1 (i := 6) rfl
  go_wp2_with ((with_reducible refine gate_callee (f := 26) rfl ?_); refine Aside0.out ?_)
  refine ⟨?_⟩
  clear q6_0 q6_1
  refine goesL_ (some 102) rfl rfl Try.func26 (by kernel_rfl) rfl #[.agg #[.bool qn, .slice Q1 ql.length q1], .int .i64 1] rfl (by (try simp only [List.map_toArray, List.map_cons, List.map_nil]); first | done | rfl) ?_
  refine (mark_ob HO.out (i := 4) rfl Fg0.out).mono ?_
  rintro e w29 ⟨rfl, ho_⟩
  refine ⟨_, rfl, ?_⟩
  replace HO : Aside0 (Ob w w29 [(g2, 24, n, .slice A0 l.length c0), (g3, 24, n', .slice A1 l'.length c1), (g6, 27, qn, .slice Q8 ql.length q8), (g7, 27, rn, .slice R8 rl.length r8), (g9, 27, n, .slice X0 l.length x0), (g10, 27, n', .slice X1 l'.length x1), (g11, 27, qn, .slice Q1 ql.length q1), (g12, 27, rn, .slice R1 rl.length r1)] [(.slice Q8 ql.length q8, ql), (.slice R8 rl.length r8, rl), (.slice X0 l.length x0, s0), (.slice X1 l'.length x1, s1), (.slice Q1 ql.length q1, u0), (.slice R1 rl.length r1, rl), (.slice Y0 l.length y0, l), (.slice Y1 l'.length y1, l')]) := Aside0.mk (ho_)
  clear ho_
  have q7_0 : w29.cell? ⟨g12, 0, none⟩ = some (.bool rn) := HO.out.c0 (i := 7) rfl
  have q7_1 : w29.cell? ⟨g12, 1, none⟩ = some (.slice R1 rl.length r1) := HO.out.c1 (i := 7) rfl
  go_wp2_with ((with_reducible refine gate_callee (f := 26) rfl ?_); refine Aside0.out ?_)
  refine ⟨?_⟩
  clear q7_0 q7_1
  refine goesL_ (some 105) rfl rfl Try.func26 (by kernel_rfl) rfl #[.agg #[.bool rn, .slice R1 rl.length r1], .int .i64 p1] rfl (by (try simp only [List.map_toArray, List.map_cons, List.map_nil]); first | done | rfl) ?_
  refine (mark_ob HO.out (i := 5) rfl Fg1.out).mono ?_
  rintro e w30 ⟨rfl, ho_⟩
  refine ⟨_, rfl, ?_⟩
  replace HO : Aside0 (Ob w w30 [(g2, 24, n, .slice A0 l.length c0), (g3, 24, n', .slice A1 l'.length c1), (g6, 27, qn, .slice Q8 ql.length q8), (g7, 27, rn, .slice R8 rl.length r8), (g9, 27, n, .slice X0 l.length x0), (g10, 27, n', .slice X1 l'.length x1), (g11, 27, qn, .slice Q1 ql.length q1), (g12, 27, rn, .slice R1 rl.length r1)] [(.slice Q8 ql.length q8, ql), (.slice R8 rl.length r8, rl), (.slice X0 l.length x0, s0), (.slice X1 l'.length x1, s1), (.slice Q1 ql.length q1, u0), (.slice R1 rl.length r1, u1), (.slice Y0 l.length y0, l), (.slice Y1 l'.length y1, l')]) := Aside0.mk (ho_)
  clear ho_
  have q6_0 : w30.cell? ⟨g11, 0, none⟩ = some (.bool qn) := HO.out.c0 (i := 6) rfl
  have q6_1 : w30.cell? ⟨g11, 1, none⟩ = some (.slice Q1 ql.length q1) := HO.out.c1 (i := 6) rfl
  go_wp2_with ((with_reducible refine gate_callee (f := 27) rfl ?_); refine Aside0.out ?_)
  refine ⟨?_⟩
  clear q6_0 q6_1
  refine goesL_ (some 108) rfl rfl Try.func27 (by kernel_rfl) rfl #[.agg #[.bool qn, .slice Q1 ql.length q1], .int .i64 1] rfl (by (try simp only [List.map_toArray, List.map_cons, List.map_nil]); first | done | rfl) ?_
  refine (held_ob HO.out (i := 4) rfl Fh0.out).mono ?_
  rintro e w31 ⟨rfl, ho_⟩
  refine ⟨_, rfl, ?_⟩
  replace HO : Aside0 (Ob w w31 [(g2, 24, n, .slice A0 l.length c0), (g3, 24, n', .slice A1 l'.length c1), (g6, 27, qn, .slice Q8 ql.length q8), (g7, 27, rn, .slice R8 rl.length r8), (g9, 27, n, .slice X0 l.length x0), (g10, 27, n', .slice X1 l'.length x1), (g11, 27, qn, .slice Q1 ql.length q1), (g12, 27, rn, .slice R1 rl.length r1)] [(.slice Q8 ql.length q8, ql), (.slice R8 rl.length r8, rl), (.slice X0 l.length x0, s0), (.slice X1 l'.length x1, s1), (.slice Q1 ql.length q1, u0), (.slice R1 rl.length r1, u1), (.slice Y0 l.length y0, l), (.slice Y1 l'.length y1, l')]) := Aside0.mk (ho_)
  clear ho_
  have q7_0 : w31.cell? ⟨g12, 0, none⟩ = some (.bool rn) := HO.out.c0 (i := 7) rfl
  have q7_1 : w31.cell? ⟨g12, 1, none⟩ = some (.slice R1 rl.length r1) := HO.out.c1 (i := 7) rfl
  go_wp2_with ((with_reducible refine gate_callee (f := 27) rfl ?_); refine Aside0.out ?_)
  refine ⟨?_⟩
  clear q7_0 q7_1
  refine goesL_ (some 113) rfl rfl Try.func27 (by kernel_rfl) rfl #[.agg #[.bool rn, .slice R1 rl.length r1], .int .i64 p1] rfl (by (try simp only [List.map_toArray, List.map_cons, List.map_nil]); first | done | rfl) ?_
  refine (held_ob HO.out (i := 5) rfl Fh1.out).mono ?_
  rintro e w32 ⟨rfl, ho_⟩
  refine ⟨_, rfl, ?_⟩
  replace HO : Aside0 (Ob w w32 [(g2, 24, n, .slice A0 l.length c0), (g3, 24, n', .slice A1 l'.length c1), (g6, 27, qn, .slice Q8 ql.length q8), (g7, 27, rn, .slice R8 rl.length r8), (g9, 27, n, .slice X0 l.length x0), (g10, 27, n', .slice X1 l'.length x1), (g11, 27, qn, .slice Q1 ql.length q1), (g12, 27, rn, .slice R1 rl.length r1)] [(.slice Q8 ql.length q8, ql), (.slice R8 rl.length r8, rl), (.slice X0 l.length x0, s0), (.slice X1 l'.length x1, s1), (.slice Q1 ql.length q1, u0), (.slice R1 rl.length r1, u1), (.slice Y0 l.length y0, l), (.slice Y1 l'.length y1, l')]) := Aside0.mk (ho_)
  clear ho_
  go_wp2_with (fail)
  replace HO := Aside0.mk HO.out.drew
  refine start_ (n := 14) (S := fun w' => True) (ds := []) #[false, false, false, false, false, false, false, false, false, false, false, false, false, false] (by kernel_rfl) rfl rfl trivial (fun hHeld => ?_)
  refine with_tabW tab35 bits8 (fun HT_ HW_ => ?_)
  generalize w32.drew = w33 at HO hHeld ⊢
  refine inv_at [0, 1, 2, 3, 4, 5, 6, 7, 8, 9, 10, 11, 12, 13] (fun a0_ b a w' => ∃ (v1 v3 : Value) (Aq : Option Addr) (cq : Nat) (Ar : Option Addr) (cr : Nat) (g9 g10 : Nat), a = putSel a0_ b [(0, 120, .agg #[.bool n, .slice A0 l.length c0]), (1, 121, .agg #[.bool n, v1]), (2, 122, .agg #[.bool n', .slice A1 l'.length c1]), (3, 123, .agg #[.bool n', v3]), (4, 124, .tuple #[.agg #[.bool qn, .slice Aq ql.length cq], .agg #[.bool rn, .slice Ar rl.length cr], .bool ok]), (5, 119, .tuple #[.agg #[.bool qn, .slice Aq ql.length cq], .agg #[.bool rn, .slice Ar rl.length cr], .bool ok]), (6, 125, .agg #[.bool qn, .slice Aq ql.length cq]), (7, 126, .agg #[.bool rn, .slice Ar rl.length cr]), (8, 127, .bool ok), (9, 17, .pointer (some ⟨g9, 0, none⟩)), (10, 18, .pointer (some ⟨g10, 0, none⟩)), (13, 19, .bool ok)] ∧ Rg w w33 w' l l' ql rl qn rn b v1 v3 (.slice Aq ql.length cq) (.slice Ar rl.length cr) g9 g10) HT_.out HW_.out (by kernel_rfl) (by kernel_rfl) ?_ ?_ ?_
  · exact ⟨.bool false, .bool false, none, 0, none, 0, 0, 0, by simp only [putSel, Bool.false_eq_true, if_false], Rg.start HO.out.below⟩
  · skip
    refine steps_cons ?_ ?_
    · rintro b a w' ⟨v1, v3, Aq, cq, Ar, cr, g9, g10, ha, hR⟩ hb_ hon hoff
      refine ⟨_, rfl, fun K_ hK => ?_⟩
      have e2 : a.tmps[2]? = some (.pointer (some ⟨g2, 0, none⟩)) := by rw [ha]; exact (putSel_off rfl).trans rfl
      have hO_ := HO.out.keep hR.below hR.kd
      have hc0_ : w'.cell? ⟨g2, 0, none⟩ = some (.bool n) := hO_.c0 (i := 0) rfl
      have hc1_ : w'.cell? ⟨g2, 1, none⟩ = some (.slice A0 l.length c0) := hO_.c1 (i := 0) rfl
      replace ha := Aside0.mk ha
      replace hR := Aside0.mk hR
      clear hO_
      refine value_ (w1 := w') (v := .agg #[.bool n, .slice A0 l.length c0]) (by rfl) rfl ?_ ?_
      · go_simp
        (try simp only [i64_w])
        try rfl
      exact hK.out _ _ ⟨v1, v3, Aq, cq, Ar, cr, g9, g10, (by rw [ha.out]; exact putSel_upk 0 hb_ rfl rfl rfl), hR.out.same 0 rfl⟩
    refine steps_cons ?_ ?_
    · rintro b a w' ⟨v1, v3, Aq, cq, Ar, cr, g9, g10, ha, hR⟩ hb_ hon hoff
      refine ⟨_, rfl, fun K_ hK => ?_⟩
      have e120 : a.tmps[120]? = some (.agg #[.bool n, .slice A0 l.length c0]) := by rw [ha]; exact putSel_on (e := (0, 120, .agg #[.bool n, .slice A0 l.length c0])) 0 rfl rfl (hon 0 (by kernel_rfl)) rfl
      replace ha := Aside0.mk ha
      replace hR := Aside0.mk hR
      refine goes_ Try.func21 (by kernel_rfl) rfl #[.agg #[.bool n, .slice A0 l.length c0]] (by rfl) rfl rfl (by first | (simp only [List.map_toArray, List.map_cons, List.map_nil, Act.eval, Array.getD_eq_getD_getElem?, Option.getD_some, e120]; done) | (simp only [List.map_toArray, List.map_cons, List.map_nil, Act.eval, Array.getD_eq_getD_getElem?, Option.getD_some, e120]; rfl)) ?_
      refine (Pw.laws_toBig.calls K _ _ _ _ _ _ w' (Kd.C_below HR0.out hR.out.below) HC0.out Ft0.out).mono ?_
      rintro e w1_ ⟨u_, rfl, ho_, hbb_⟩
      refine ⟨_, rfl, ?_⟩
      exact hK.out _ _ ⟨u_, v3, Aq, cq, Ar, cr, g9, g10, (by rw [ha.out]; exact putSel_upk 1 hb_ rfl rfl rfl), hR.out.call1 hbb_ ho_⟩
    refine steps_cons ?_ ?_
    · rintro b a w' ⟨v1, v3, Aq, cq, Ar, cr, g9, g10, ha, hR⟩ hb_ hon hoff
      refine ⟨_, rfl, fun K_ hK => ?_⟩
      have e3 : a.tmps[3]? = some (.pointer (some ⟨g3, 0, none⟩)) := by rw [ha]; exact (putSel_off rfl).trans rfl
      have hO_ := HO.out.keep hR.below hR.kd
      have hc0_ : w'.cell? ⟨g3, 0, none⟩ = some (.bool n') := hO_.c0 (i := 1) rfl
      have hc1_ : w'.cell? ⟨g3, 1, none⟩ = some (.slice A1 l'.length c1) := hO_.c1 (i := 1) rfl
      replace ha := Aside0.mk ha
      replace hR := Aside0.mk hR
      clear hO_
      refine value_ (w1 := w') (v := .agg #[.bool n', .slice A1 l'.length c1]) (by rfl) rfl ?_ ?_
      · go_simp
        (try simp only [i64_w])
        try rfl
      exact hK.out _ _ ⟨v1, v3, Aq, cq, Ar, cr, g9, g10, (by rw [ha.out]; exact putSel_upk 2 hb_ rfl rfl rfl), hR.out.same 2 rfl⟩
    refine steps_cons ?_ ?_
    · rintro b a w' ⟨v1, v3, Aq, cq, Ar, cr, g9, g10, ha, hR⟩ hb_ hon hoff
      refine ⟨_, rfl, fun K_ hK => ?_⟩
      have e122 : a.tmps[122]? = some (.agg #[.bool n', .slice A1 l'.length c1]) := by rw [ha]; exact putSel_on (e := (2, 122, .agg #[.bool n', .slice A1 l'.length c1])) 2 rfl rfl (hon 2 (by kernel_rfl)) rfl
      replace ha := Aside0.mk ha
      replace hR := Aside0.mk hR
      refine goes_ Try.func21 (by kernel_rfl) rfl #[.agg #[.bool n', .slice A1 l'.length c1]] (by rfl) rfl rfl (by first | (simp only [List.map_toArray, List.map_cons, List.map_nil, Act.eval, Array.getD_eq_getD_getElem?, Option.getD_some, e122]; done) | (simp only [List.map_toArray, List.map_cons, List.map_nil, Act.eval, Array.getD_eq_getD_getElem?, Option.getD_some, e122]; rfl)) ?_
      refine (Pw.laws_toBig.calls K _ _ _ _ _ _ w' (Kd.C_below HR1.out hR.out.below) HC1.out Ft1.out).mono ?_
      rintro e w1_ ⟨u_, rfl, ho_, hbb_⟩
      refine ⟨_, rfl, ?_⟩
      exact hK.out _ _ ⟨v1, u_, Aq, cq, Ar, cr, g9, g10, (by rw [ha.out]; exact putSel_upk 3 hb_ rfl rfl rfl), hR.out.call3 hbb_ ho_⟩
    refine steps_cons ?_ ?_
    · rintro b a w' ⟨v1, v3, Aq, cq, Ar, cr, g9, g10, ha, hR⟩ hb_ hon hoff
      refine ⟨_, rfl, fun K_ hK => ?_⟩
      have e121 : a.tmps[121]? = some (.agg #[.bool n, v1]) := by rw [ha]; exact putSel_on (e := (1, 121, .agg #[.bool n, v1])) 1 rfl rfl (hon 1 (by kernel_rfl)) rfl
      have e123 : a.tmps[123]? = some (.agg #[.bool n', v3]) := by rw [ha]; exact putSel_on (e := (3, 123, .agg #[.bool n', v3])) 3 rfl rfl (hon 3 (by kernel_rfl)) rfl
      replace ha := Aside0.mk ha
      have r1_ := hR.r1 (hon 1 (by kernel_rfl))
      have r3_ := hR.r3 (hon 3 (by kernel_rfl))
      replace hR := Aside0.mk hR
      obtain ⟨P_, p_, hP⟩ := Kd.RW_slice r1_
      obtain ⟨S_, s_, hS⟩ := Kd.RW_slice r3_
      have hP' : v1 = .slice P_ l.length p_ := hP
      have hS' : v3 = .slice S_ l'.length s_ := hS
      subst hP'
      subst hS'
      clear hP hS
      obtain ⟨_, x1_, x2_⟩ := Kd.RW_reads' r1_
      obtain ⟨_, x3_, x4_⟩ := Kd.RW_reads' r3_
      clear r1_ r3_
      have x_ := Aside0.mk (And.intro x1_ (And.intro x2_ (And.intro x3_ x4_)))
      clear x1_ x2_ x3_ x4_
      refine goes_ Try.func43 (by kernel_rfl) rfl #[.agg #[.bool n, .slice P_ l.length p_], .agg #[.bool n', .slice S_ l'.length s_]] (by rfl) rfl rfl (by first | (simp only [List.map_toArray, List.map_cons, List.map_nil, Act.eval, Array.getD_eq_getD_getElem?, Option.getD_some, e121, e123]; done) | (simp only [List.map_toArray, List.map_cons, List.map_nil, Act.eval, Array.getD_eq_getD_getElem?, Option.getD_some, e121, e123]; rfl)) ?_
      refine (Pw.impl_BigDiv.calls K _ _ _ _ _ _ _ _ _ _ _ _ _ w' x_.out.2.1 x_.out.1 x_.out.2.2.2 x_.out.2.2.1 FI.out).mono ?_
      rintro e w1_ ⟨u_, y_, rfl, ho_, hp_, hbb_⟩
      refine ⟨_, rfl, ?_⟩
      obtain ⟨Au, cu, rfl⟩ := Kd.RW_slice ho_
      obtain ⟨Ay, cy, rfl⟩ := Kd.RW_slice hp_
      exact hK.out _ _ ⟨_, _, Au, cu, Ay, cy, g9, g10, (by rw [ha.out, putSel_free (v := .tuple #[.agg #[.bool qn, .slice Au ql.length cu], .agg #[.bool rn, .slice Ay rl.length cy], .bool ok]) (hoff 5 (by kernel_rfl)) 5 rfl, putSel_free (v := .agg #[.bool qn, .slice Au ql.length cu]) (hoff 6 (by kernel_rfl)) 6 rfl, putSel_free (v := .agg #[.bool rn, .slice Ay rl.length cy]) (hoff 7 (by kernel_rfl)) 7 rfl]; exact putSel_upk 4 hb_ rfl rfl rfl), hR.out.call4 (hoff 11 (by kernel_rfl)) (hoff 12 (by kernel_rfl)) hbb_ ho_ hp_ (fun k hk => ho_.1 k hk.symm)⟩
    refine steps_cons ?_ ?_
    · rintro b a w' ⟨v1, v3, Aq, cq, Ar, cr, g9, g10, ha, hR⟩ hb_ hon hoff
      refine ⟨_, rfl, fun K_ hK => ?_⟩
      have e124 : a.tmps[124]? = some (.tuple #[.agg #[.bool qn, .slice Aq ql.length cq], .agg #[.bool rn, .slice Ar rl.length cr], .bool ok]) := by rw [ha]; exact putSel_on (e := (4, 124, .tuple #[.agg #[.bool qn, .slice Aq ql.length cq], .agg #[.bool rn, .slice Ar rl.length cr], .bool ok])) 4 rfl rfl (hon 4 (by kernel_rfl)) rfl
      replace ha := Aside0.mk ha
      replace hR := Aside0.mk hR
      refine value_ (w1 := w') (v := .tuple #[.agg #[.bool qn, .slice Aq ql.length cq], .agg #[.bool rn, .slice Ar rl.length cr], .bool ok]) (by rfl) rfl ?_ ?_
      · go_simp
        (try simp only [i64_w])
        try rfl
      exact hK.out _ _ ⟨v1, v3, Aq, cq, Ar, cr, g9, g10, (by rw [ha.out]; exact putSel_upk 5 hb_ rfl rfl rfl), hR.out.same 5 rfl⟩
    refine steps_cons ?_ ?_
    · rintro b a w' ⟨v1, v3, Aq, cq, Ar, cr, g9, g10, ha, hR⟩ hb_ hon hoff
      refine ⟨_, rfl, fun K_ hK => ?_⟩
      have e119 : a.tmps[119]? = some (.tuple #[.agg #[.bool qn, .slice Aq ql.length cq], .agg #[.bool rn, .slice Ar rl.length cr], .bool ok]) := by rw [ha]; exact putSel_on (e := (5, 119, .tuple #[.agg #[.bool qn, .slice Aq ql.length cq], .agg #[.bool rn, .slice Ar rl.length cr], .bool ok])) 5 rfl rfl (hon 5 (by kernel_rfl)) rfl
      replace ha := Aside0.mk ha
      replace hR := Aside0.mk hR
      refine value_ (w1 := w') (v := .agg #[.bool qn, .slice Aq ql.length cq]) (by rfl) rfl ?_ ?_
      · go_simp
        (try simp only [i64_w])
        try rfl
      exact hK.out _ _ ⟨v1, v3, Aq, cq, Ar, cr, g9, g10, (by rw [ha.out]; exact putSel_upk 6 hb_ rfl rfl rfl), hR.out.same 6 rfl⟩
    refine steps_cons ?_ ?_
    · rintro b a w' ⟨v1, v3, Aq, cq, Ar, cr, g9, g10, ha, hR⟩ hb_ hon hoff
      refine ⟨_, rfl, fun K_ hK => ?_⟩
      have e119 : a.tmps[119]? = some (.tuple #[.agg #[.bool qn, .slice Aq ql.length cq], .agg #[.bool rn, .slice Ar rl.length cr], .bool ok]) := by rw [ha]; exact putSel_on (e := (5, 119, .tuple #[.agg #[.bool qn, .slice Aq ql.length cq], .agg #[.bool rn, .slice Ar rl.length cr], .bool ok])) 5 rfl rfl (hon 5 (by kernel_rfl)) rfl
      replace ha := Aside0.mk ha
      replace hR := Aside0.mk hR
      refine value_ (w1 := w') (v := .agg #[.bool rn, .slice Ar rl.length cr]) (by rfl) rfl ?_ ?_
      · go_simp
        (try simp only [i64_w])
        try rfl
      exact hK.out _ _ ⟨v1, v3, Aq, cq, Ar, cr, g9, g10, (by rw [ha.out]; exact putSel_upk 7 hb_ rfl rfl rfl), hR.out.same 7 rfl⟩
    refine steps_cons ?_ ?_
    · rintro b a w' ⟨v1, v3, Aq, cq, Ar, cr, g9, g10, ha, hR⟩ hb_ hon hoff
      refine ⟨_, rfl, fun K_ hK => ?_⟩
      have e119 : a.tmps[119]? = some (.tuple #[.agg #[.bool qn, .slice Aq ql.length cq], .agg #[.bool rn, .slice Ar rl.length cr], .bool ok]) := by rw [ha]; exact putSel_on (e := (5, 119, .tuple #[.agg #[.bool qn, .slice Aq ql.length cq], .agg #[.bool rn, .slice Ar rl.length cr], .bool ok])) 5 rfl rfl (hon 5 (by kernel_rfl)) rfl
      replace ha := Aside0.mk ha
      replace hR := Aside0.mk hR
      refine value_ (w1 := w') (v := .bool ok) (by rfl) rfl ?_ ?_
      · go_simp
        (try simp only [i64_w])
        try rfl
      exact hK.out _ _ ⟨v1, v3, Aq, cq, Ar, cr, g9, g10, (by rw [ha.out]; exact putSel_upk 8 hb_ rfl rfl rfl), hR.out.same 8 rfl⟩
    refine steps_cons ?_ ?_
    · rintro b a w' ⟨v1, v3, Aq, cq, Ar, cr, g9, g10, ha, hR⟩ hb_ hon hoff
      refine ⟨_, rfl, fun K_ hK => ?_⟩
      replace ha := Aside0.mk ha
      replace hR := Aside0.mk hR
      refine box_step ?hg (N := 17) ?hd (cs := #[.bool false, .slice none 0 0]) (t := 27) ?hr ?_
      (case hd => rfl)
      (case hg => rfl)
      (case hr => first | (go_simp; done) | (go_simp; rfl))
      intro gg_ hg_ w1_ hbx_ hbb_
      exact hK.out _ _ ⟨v1, v3, Aq, cq, Ar, cr, gg_, g10, (by rw [ha.out]; exact putSel_upk 9 hb_ rfl rfl rfl), hR.out.alloc9 (hoff 11 (by kernel_rfl)) hbb_ (Nat.le_of_eq hg_.symm) hbx_⟩
    refine steps_cons ?_ ?_
    · rintro b a w' ⟨v1, v3, Aq, cq, Ar, cr, g9, g10, ha, hR⟩ hb_ hon hoff
      refine ⟨_, rfl, fun K_ hK => ?_⟩
      replace ha := Aside0.mk ha
      replace hR := Aside0.mk hR
      refine box_step ?hg (N := 18) ?hd (cs := #[.bool false, .slice none 0 0]) (t := 27) ?hr ?_
      (case hd => rfl)
      (case hg => rfl)
      (case hr => first | (go_simp; done) | (go_simp; rfl))
      intro gg_ hg_ w1_ hbx_ hbb_
      exact hK.out _ _ ⟨v1, v3, Aq, cq, Ar, cr, g9, gg_, (by rw [ha.out]; exact putSel_upk 10 hb_ rfl rfl rfl), hR.out.alloc10 (hoff 12 (by kernel_rfl)) hbb_ (Nat.le_of_eq hg_.symm) hbx_⟩
    refine steps_cons ?_ ?_
    · rintro b a w' ⟨v1, v3, Aq, cq, Ar, cr, g9, g10, ha, hR⟩ hb_ hon hoff
      refine ⟨_, rfl, fun K_ hK => ?_⟩
      have e17 : a.tmps[17]? = some (.pointer (some ⟨g9, 0, none⟩)) := by rw [ha]; exact putSel_on (e := (9, 17, .pointer (some ⟨g9, 0, none⟩))) 9 rfl rfl (hon 9 (by kernel_rfl)) rfl
      have e125 : a.tmps[125]? = some (.agg #[.bool qn, .slice Aq ql.length cq]) := by rw [ha]; exact putSel_on (e := (6, 125, .agg #[.bool qn, .slice Aq ql.length cq])) 6 rfl rfl (hon 6 (by kernel_rfl)) rfl
      have x_ := (hR.x9 (hon 9 (by kernel_rfl))).2
      rw [if_neg (by rw [hb_]; decide)] at x_
      have hc0_ : w'.cell? ⟨g9, 0, none⟩ = some (.bool false) := (blk_cell x_ 0).trans rfl
      have hc1_ : w'.cell? ⟨g9, 1, none⟩ = some (.slice none 0 0) := (blk_cell x_ 1).trans rfl
      have hf0_ := blk_frozen x_ 0
      have hf1_ := blk_frozen x_ 1
      clear x_
      have h_ := hR.store11 HO.out.below.size (hon 9 (by kernel_rfl)) hb_
      replace ha := Aside0.mk ha
      replace hR := Aside0.mk hR
      replace h_ := Aside0.mk h_
      refine skip_ (w1 := ?_) (by rfl) rfl ?_ ?_
      rotate_left
      · go_simp
        rfl
      exact hK.out _ _ ⟨v1, v3, Aq, cq, Ar, cr, g9, g10, (by rw [ha.out]; exact putSel_none (v := undef) rfl), h_.out⟩
    refine steps_cons ?_ ?_
    · rintro b a w' ⟨v1, v3, Aq, cq, Ar, cr, g9, g10, ha, hR⟩ hb_ hon hoff
      refine ⟨_, rfl, fun K_ hK => ?_⟩
      have e18 : a.tmps[18]? = some (.pointer (some ⟨g10, 0, none⟩)) := by rw [ha]; exact putSel_on (e := (10, 18, .pointer (some ⟨g10, 0, none⟩))) 10 rfl rfl (hon 10 (by kernel_rfl)) rfl
      have e126 : a.tmps[126]? = some (.agg #[.bool rn, .slice Ar rl.length cr]) := by rw [ha]; exact putSel_on (e := (7, 126, .agg #[.bool rn, .slice Ar rl.length cr])) 7 rfl rfl (hon 7 (by kernel_rfl)) rfl
      have x_ := (hR.x10 (hon 10 (by kernel_rfl))).2
      rw [if_neg (by rw [hb_]; decide)] at x_
      have hc0_ : w'.cell? ⟨g10, 0, none⟩ = some (.bool false) := (blk_cell x_ 0).trans rfl
      have hc1_ : w'.cell? ⟨g10, 1, none⟩ = some (.slice none 0 0) := (blk_cell x_ 1).trans rfl
      have hf0_ := blk_frozen x_ 0
      have hf1_ := blk_frozen x_ 1
      clear x_
      have h_ := hR.store12 HO.out.below.size (hon 10 (by kernel_rfl)) hb_
      replace ha := Aside0.mk ha
      replace hR := Aside0.mk hR
      replace h_ := Aside0.mk h_
      refine skip_ (w1 := ?_) (by rfl) rfl ?_ ?_
      rotate_left
      · go_simp
        rfl
      exact hK.out _ _ ⟨v1, v3, Aq, cq, Ar, cr, g9, g10, (by rw [ha.out]; exact putSel_none (v := undef) rfl), h_.out⟩
    refine steps_cons ?_ ?_
    · rintro b a w' ⟨v1, v3, Aq, cq, Ar, cr, g9, g10, ha, hR⟩ hb_ hon hoff
      refine ⟨_, rfl, fun K_ hK => ?_⟩
      have e127 : a.tmps[127]? = some (.bool ok) := by rw [ha]; exact putSel_on (e := (8, 127, .bool ok)) 8 rfl rfl (hon 8 (by kernel_rfl)) rfl
      replace ha := Aside0.mk ha
      replace hR := Aside0.mk hR
      refine value_ (w1 := w') (v := .bool ok) (by rfl) rfl ?_ ?_
      · go_simp
        (try simp only [i64_w])
        try rfl
      exact hK.out _ _ ⟨v1, v3, Aq, cq, Ar, cr, g9, g10, (by rw [ha.out]; exact putSel_upk 11 hb_ rfl rfl rfl), hR.out.same 13 rfl⟩
    exact steps_nil
  rintro b a w34 hall ⟨v1, v3, Q35, q35, R35, r35, g17, g18, ha, hR⟩
  have hb0_ := hall 0 (by kernel_rfl)
  have hb1_ := hall 1 (by kernel_rfl)
  have hb2_ := hall 2 (by kernel_rfl)
  have hb3_ := hall 3 (by kernel_rfl)
  have hb4_ := hall 4 (by kernel_rfl)
  have hb5_ := hall 5 (by kernel_rfl)
  have hb6_ := hall 6 (by kernel_rfl)
  have hb7_ := hall 7 (by kernel_rfl)
  have hb8_ := hall 8 (by kernel_rfl)
  have hb9_ := hall 9 (by kernel_rfl)
  have hb10_ := hall 10 (by kernel_rfl)
  have hb11_ := hall 11 (by kernel_rfl)
  have hb12_ := hall 12 (by kernel_rfl)
  have hb13_ := hall 13 (by kernel_rfl)
  subst ha
  simp only [putSel, hb0_, hb1_, hb2_, hb3_, hb4_, hb5_, hb6_, hb7_, hb8_, hb9_, hb10_, hb11_, hb12_, hb13_, if_true, Act.put, List.setIfInBounds_toArray, List.set_cons_zero, List.set_cons_succ]
  have hO_ := hR.done HO.out hb4_ hb9_ hb10_ hb11_ hb12_
  clear hR hHeld HT_ HW_ hb0_ hb1_ hb2_ hb3_ hb4_ hb5_ hb6_ hb7_ hb8_ hb9_ hb10_ hb11_ hb12_ hb13_ hall
  replace HO : Aside0 (Ob w w34 [(g2, 24, n, .slice A0 l.length c0), (g3, 24, n', .slice A1 l'.length c1), (g6, 27, qn, .slice Q8 ql.length q8), (g7, 27, rn, .slice R8 rl.length r8), (g9, 27, n, .slice X0 l.length x0), (g10, 27, n', .slice X1 l'.length x1), (g11, 27, qn, .slice Q1 ql.length q1), (g12, 27, rn, .slice R1 rl.length r1), (g17, 27, qn, .slice Q35 ql.length q35), (g18, 27, rn, .slice R35 rl.length r35)] [(.slice Q8 ql.length q8, ql), (.slice R8 rl.length r8, rl), (.slice X0 l.length x0, s0), (.slice X1 l'.length x1, s1), (.slice Q1 ql.length q1, u0), (.slice R1 rl.length r1, u1), (.slice Y0 l.length y0, l), (.slice Y1 l'.length y1, l'), (.slice Q35 ql.length q35, ql), (.slice R35 rl.length r35, rl)]) := Aside0.mk (hO_)
  clear hO_
  have q8_0 : w34.cell? ⟨g17, 0, none⟩ = some (.bool qn) := HO.out.c0 (i := 8) rfl
  have q8_1 : w34.cell? ⟨g17, 1, none⟩ = some (.slice Q35 ql.length q35) := HO.out.c1 (i := 8) rfl
  have q2_0 : w34.cell? ⟨g6, 0, none⟩ = some (.bool qn) := HO.out.c0 (i := 2) rfl
  have q2_1 : w34.cell? ⟨g6, 1, none⟩ = some (.slice Q8 ql.length q8) := HO.out.c1 (i := 2) rfl
  go_wp2_with ((with_reducible refine gate_callee (f := 23) rfl ?_); refine Aside0.out ?_)
  refine ⟨?_⟩
  clear q8_0 q8_1 q2_0 q2_1
  refine goesL_ (some 130) rfl rfl Try.func23 (by kernel_rfl) rfl #[.agg #[.bool qn, .slice Q35 ql.length q35], .agg #[.bool qn, .slice Q8 ql.length q8]] rfl (by (try simp only [List.map_toArray, List.map_cons, List.map_nil]); first | done | rfl) ?_
  refine (eq_ob HO.out (i := 8) (j := 0) rfl rfl Feq.out).mono ?_
  rintro e w35 ⟨rfl, ho_⟩
  refine ⟨_, rfl, ?_⟩
  replace HO : Aside0 (Ob w w35 [(g2, 24, n, .slice A0 l.length c0), (g3, 24, n', .slice A1 l'.length c1), (g6, 27, qn, .slice Q8 ql.length q8), (g7, 27, rn, .slice R8 rl.length r8), (g9, 27, n, .slice X0 l.length x0), (g10, 27, n', .slice X1 l'.length x1), (g11, 27, qn, .slice Q1 ql.length q1), (g12, 27, rn, .slice R1 rl.length r1), (g17, 27, qn, .slice Q35 ql.length q35), (g18, 27, rn, .slice R35 rl.length r35)] [(.slice Q8 ql.length q8, ql), (.slice R8 rl.length r8, rl), (.slice X0 l.length x0, s0), (.slice X1 l'.length x1, s1), (.slice Q1 ql.length q1, u0), (.slice R1 rl.length r1, u1), (.slice Y0 l.length y0, l), (.slice Y1 l'.length y1, l'), (.slice Q35 ql.length q35, ql), (.slice R35 rl.length r35, rl)]) := Aside0.mk (ho_)
  clear ho_
  have q9_0 : w35.cell? ⟨g18, 0, none⟩ = some (.bool rn) := HO.out.c0 (i := 9) rfl
  have q9_1 : w35.cell? ⟨g18, 1, none⟩ = some (.slice R35 rl.length r35) := HO.out.c1 (i := 9) rfl
  have q3_0 : w35.cell? ⟨g7, 0, none⟩ = some (.bool rn) := HO.out.c0 (i := 3) rfl
  have q3_1 : w35.cell? ⟨g7, 1, none⟩ = some (.slice R8 rl.length r8) := HO.out.c1 (i := 3) rfl
  go_wp2_with ((with_reducible refine gate_callee (f := 23) rfl ?_); refine Aside0.out ?_)
  refine ⟨?_⟩
  clear q9_0 q9_1 q3_0 q3_1
  refine gate_guard rfl ?_
  refine goesL_ (some 135) rfl rfl Try.func23 (by kernel_rfl) rfl #[.agg #[.bool rn, .slice R35 rl.length r35], .agg #[.bool rn, .slice R8 rl.length r8]] rfl (by (try simp only [List.map_toArray, List.map_cons, List.map_nil]); first | done | rfl) ?_
  refine (eq_ob HO.out (i := 9) (j := 1) rfl rfl Fer.out).mono ?_
  rintro e w36 ⟨rfl, ho_⟩
  refine ⟨_, rfl, ?_⟩
  replace HO : Aside0 (Ob w w36 [(g2, 24, n, .slice A0 l.length c0), (g3, 24, n', .slice A1 l'.length c1), (g6, 27, qn, .slice Q8 ql.length q8), (g7, 27, rn, .slice R8 rl.length r8), (g9, 27, n, .slice X0 l.length x0), (g10, 27, n', .slice X1 l'.length x1), (g11, 27, qn, .slice Q1 ql.length q1), (g12, 27, rn, .slice R1 rl.length r1), (g17, 27, qn, .slice Q35 ql.length q35), (g18, 27, rn, .slice R35 rl.length r35)] [(.slice Q8 ql.length q8, ql), (.slice R8 rl.length r8, rl), (.slice X0 l.length x0, s0), (.slice X1 l'.length x1, s1), (.slice Q1 ql.length q1, u0), (.slice R1 rl.length r1, u1), (.slice Y0 l.length y0, l), (.slice Y1 l'.length y1, l'), (.slice Q35 ql.length q35, ql), (.slice R35 rl.length r35, rl)]) := Aside0.mk (ho_)
  clear ho_
  have q6_0 : w36.cell? ⟨g11, 0, none⟩ = some (.bool qn) := HO.out.c0 (i := 6) rfl
  have q6_1 : w36.cell? ⟨g11, 1, none⟩ = some (.slice Q1 ql.length q1) := HO.out.c1 (i := 6) rfl
  go_wp2_with ((with_reducible refine gate_callee (f := 27) rfl ?_); refine Aside0.out ?_)
  refine ⟨?_⟩
  clear q6_0 q6_1
  refine goesL_ (some 145) rfl rfl Try.func27 (by kernel_rfl) rfl #[.agg #[.bool qn, .slice Q1 ql.length q1], .int .i64 1] rfl (by (try simp only [List.map_toArray, List.map_cons, List.map_nil]); first | done | rfl) ?_
  refine (held_ob HO.out (i := 4) rfl Fh0.out).mono ?_
  rintro e w37 ⟨rfl, ho_⟩
  refine ⟨_, rfl, ?_⟩
  replace HO : Aside0 (Ob w w37 [(g2, 24, n, .slice A0 l.length c0), (g3, 24, n', .slice A1 l'.length c1), (g6, 27, qn, .slice Q8 ql.length q8), (g7, 27, rn, .slice R8 rl.length r8), (g9, 27, n, .slice X0 l.length x0), (g10, 27, n', .slice X1 l'.length x1), (g11, 27, qn, .slice Q1 ql.length q1), (g12, 27, rn, .slice R1 rl.length r1), (g17, 27, qn, .slice Q35 ql.length q35), (g18, 27, rn, .slice R35 rl.length r35)] [(.slice Q8 ql.length q8, ql), (.slice R8 rl.length r8, rl), (.slice X0 l.length x0, s0), (.slice X1 l'.length x1, s1), (.slice Q1 ql.length q1, u0), (.slice R1 rl.length r1, u1), (.slice Y0 l.length y0, l), (.slice Y1 l'.length y1, l'), (.slice Q35 ql.length q35, ql), (.slice R35 rl.length r35, rl)]) := Aside0.mk (ho_)
  clear ho_
  have q7_0 : w37.cell? ⟨g12, 0, none⟩ = some (.bool rn) := HO.out.c0 (i := 7) rfl
  have q7_1 : w37.cell? ⟨g12, 1, none⟩ = some (.slice R1 rl.length r1) := HO.out.c1 (i := 7) rfl
  go_wp2_with ((with_reducible refine gate_callee (f := 27) rfl ?_); refine Aside0.out ?_)
  refine ⟨?_⟩
  clear q7_0 q7_1
  refine goesL_ (some 150) rfl rfl Try.func27 (by kernel_rfl) rfl #[.agg #[.bool rn, .slice R1 rl.length r1], .int .i64 p1] rfl (by (try simp only [List.map_toArray, List.map_cons, List.map_nil]); first | done | rfl) ?_
  refine (held_ob HO.out (i := 5) rfl Fh1.out).mono ?_
  rintro e w38 ⟨rfl, ho_⟩
  refine ⟨_, rfl, ?_⟩
  replace HO : Aside0 (Ob w w38 [(g2, 24, n, .slice A0 l.length c0), (g3, 24, n', .slice A1 l'.length c1), (g6, 27, qn, .slice Q8 ql.length q8), (g7, 27, rn, .slice R8 rl.length r8), (g9, 27, n, .slice X0 l.length x0), (g10, 27, n', .slice X1 l'.length x1), (g11, 27, qn, .slice Q1 ql.length q1), (g12, 27, rn, .slice R1 rl.length r1), (g17, 27, qn, .slice Q35 ql.length q35), (g18, 27, rn, .slice R35 rl.length r35)] [(.slice Q8 ql.length q8, ql), (.slice R8 rl.length r8, rl), (.slice X0 l.length x0, s0), (.slice X1 l'.length x1, s1), (.slice Q1 ql.length q1, u0), (.slice R1 rl.length r1, u1), (.slice Y0 l.length y0, l), (.slice Y1 l'.length y1, l'), (.slice Q35 ql.length q35, ql), (.slice R35 rl.length r35, rl)]) := Aside0.mk (ho_)
  clear ho_
  go_wp2_with (fail)
  go_ret
  exact ⟨rfl, HO.out.below⟩
end Go.Proofs.Ytdemeoncjcbojaa.Xd
end
