/- What the claim's row needs of the contracts and words below it, and no more. -/
import Derived.Test.YtdemeoncjcbojaaQDi4
import Derived.OpenShut
import Derived.ShutString
import Derived.WalkKit
section
namespace Go.Proofs.Ytdemeoncjcbojaa.Pr
open Go.RowKit Go.Proofs.YtdemeoncjcbojaaW.PrintWords Go.Proofs.YtdemeoncjcbojaaW.PrintLast Go.Proofs.Ytdemeoncjcbojaa.Ext Go.Proofs.YtdemeoncjcbojaaW.PrintMore
attribute [local go_sem] max2_int min2_int max_two min_two max_three min_three max_four min_four
set_option linter.unusedVariables false
set_option linter.unusedSimpArgs false
def spec_l1Fits.l0 : Nat → List Int → List Int → Int → Int → Option (Int)
  | 0, _, _, _, _ => none
  | k + 1, x0, x1, x5, x6 => if (wrap64 (x6 - x5)) > 1 then ((spec_l1MulAbs.f k x1 (([wrap64 (Int.tdiv (wrap64 (x5 + x6)) 2)] : List Int))).bind fun t0n => ((spec_l1CmpAbs.f k t0n x0).bind fun t0q => (if t0q ≤ 0 then (spec_l1Fits.l0 k x0 x1 (wrap64 (Int.tdiv (wrap64 (x5 + x6)) 2)) x6) else (spec_l1Fits.l0 k x0 x1 x5 (wrap64 (Int.tdiv (wrap64 (x5 + x6)) 2)))))) else (some x5)
def spec_l1Fits.f (k : Nat) (l0 : List Int) (l1 : List Int) : Option (Int) := spec_l1Fits.l0 k l0 l1 0 10000
set_option maxHeartbeats 8000000 in
set_option maxRecDepth 100000 in
theorem spec_l1Fits.calls (k : Nat) (A0 : Option Addr) (c0 : Nat) (l0 : List Int) (A1 : Option Addr) (c1 : Nat) (l1 : List Int) (r : Int) (w : World) (hr0 : Kd.C (Kd.int .i64) w A0 l0.length l0) (hc0 : l0.length ≤ c0) (hr1 : Kd.C (Kd.int .i64) w A1 l1.length l1) (hc1 : l1.length ≤ c1) (h : spec_l1Fits.f k l0 l1 = some r) :
    Calls Try.prog 97 #[.slice A0 l0.length c0, .slice A1 l1.length c1] w fun e w' => e = .returned (.int .i64 r) ∧ Below w.heap.size w w' := by
  have HR0 := zm hr0; have HC0 := zm hc0; clear hr0 hc0; have HR1 := zm hr1; have HC1 := zm hc1; clear hr1 hc1; have HB := zm (Below.refl w.heap.size w); have H : (spec_l1Fits.l0 k l0 l1 0 10000) = some r := h; clear h; have H' := zm H; clear H; go_enter Try.func97, Try.ntmps97
  go_wp2
  go_loopg [5, 6] k (fun kq v5 v6 w' => ∃ (x5_1 : Int) (x6_1 : Int), v5 = .int .i64 x5_1 ∧ v6 = .int .i64 x6_1 ∧ Aside0 (spec_l1Fits.l0 kq l0 l1 x5_1 x6_1 = some r) ∧ Aside0 (kq ≤ k) ∧ Aside0 (Below w.heap.size w w'))
  case atStart => exact ⟨(0), (10000), (by first | rfl | (simp; done) | (simp [*]; done)), (by first | rfl | (simp; done) | (simp [*]; done)), H', ⟨Nat.le_refl _⟩, ⟨zb⟩⟩
  case round =>
    clear H'; (try clear c1); (try clear p2); obtain ⟨x5_1, x6_1, rfl, rfl, HA, HK1, HB⟩ := hrel
    cases gk with
    | zero => exact absurd HA.out (by simp [spec_l1Fits.l0])
    | succ k1 =>
      have H := HA.out; clear HA; simp only [spec_l1Fits.l0] at H
      by_cases c3 : (wrap64 (x6_1 - x5_1)) > 1
      · rw [if_pos c3] at H
        have c3b0 : decide (1 < (wrap64 (x6_1 - x5_1))) = true := decide_eq_true c3; clear c3
        obtain ⟨y0k, hy505⟩ : ∃ y_ : List Int, y_ = (([wrap64 (Int.tdiv (wrap64 (x5_1 + x6_1)) 2)] : List Int)) := ⟨_, rfl⟩
        (replace H : ((spec_l1MulAbs.f k1 l1 y0k).bind fun t0n => ((spec_l1CmpAbs.f k1 t0n l0).bind fun t0q => (if t0q ≤ 0 then (spec_l1Fits.l0 k1 l0 l1 (wrap64 (Int.tdiv (wrap64 (x5_1 + x6_1)) 2)) x6_1) else (spec_l1Fits.l0 k1 l0 l1 x5_1 (wrap64 (Int.tdiv (wrap64 (x5_1 + x6_1)) 2)))))) = some r := by first | (rw [hy505]; with_reducible exact H) | (have H2_ := (Option.bind_some _ _).symm.trans H; rw [hy505]; with_reducible exact H2_) | (have H2_ := (Option.bind_some _ _).symm.trans H; with_reducible exact H2_) | with_reducible exact H | (rw [hy505]; exact H) | exact H); have Ny505 := zm hy505; clear hy505; replace H := Option.bind_eq_some_iff.mp H; obtain ⟨t0n, A40, H⟩ := H; replace H : ((spec_l1CmpAbs.f k1 t0n l0).bind fun t0q => (if t0q ≤ 0 then (spec_l1Fits.l0 k1 l0 l1 (wrap64 (Int.tdiv (wrap64 (x5_1 + x6_1)) 2)) x6_1) else (spec_l1Fits.l0 k1 l0 l1 x5_1 (wrap64 (Int.tdiv (wrap64 (x5_1 + x6_1)) 2))))) = some r := H; have A4 := zm A40; clear A40; replace H := Option.bind_eq_some_iff.mp H; obtain ⟨t0q, A50, H⟩ := H; replace H : (if t0q ≤ 0 then (spec_l1Fits.l0 k1 l0 l1 (wrap64 (Int.tdiv (wrap64 (x5_1 + x6_1)) 2)) x6_1) else (spec_l1Fits.l0 k1 l0 l1 x5_1 (wrap64 (Int.tdiv (wrap64 (x5_1 + x6_1)) 2)))) = some r := H; have A5 := zm A50; clear A50
        by_cases c6 : t0q ≤ 0
        · rw [if_pos c6] at H
          have c6b0 : decide (t0q ≤ 0) = true := decide_eq_true c6; clear c6; have H' := zm H; clear H
          go_wp2_with (first | ((with_reducible refine gate_dst (N := 18) rfl ?_); refine Kd.R_lit (Kd.int .i64) _ 3 ?hg (N := 18) ?hd (xs := ([wrap64 (Int.tdiv (wrap64 (x5_1 + x6_1)) 2)] : List Int)) (inner := [.int .i64 (wrap64 (Int.tdiv (wrap64 (x5_1 + x6_1)) 2))]) (ok := fun _ => True) (okp := fun _ => True) ?hr ?hp (fun _ hk => hk) trivial (Below.refl _ _) (Nat.le_refl _) (by simp) ?_; (case hd => rfl); (case hg => rfl); (case hr => first | (go_simp; done) | (go_simp; rfl)); (case hp => exact (Reps.one (show Kd.M (Kd.int .i64) _ _ _ (wrap64 (Int.tdiv (wrap64 (x5_1 + x6_1)) 2)) [.int .i64 (wrap64 (Int.tdiv (wrap64 (x5_1 + x6_1)) 2))] from rfl) (Reps.none _ _))); intro v0l w7 ho8 hb hg_ hnew_; clear hg_ hnew_; (first | rw [← Ny505.out] at ho8 | (simp only [Int.reduceToNat] at ho8; rw [← Ny505.out] at ho8)); have n0_ := zm (Kd.R_lower ho8 (below_size zb)); have n1_ := zm (below_step zb hb); clear HB; have HO0m := n0_; have HB := n1_; clear n0_ n1_; clear hb ho8; obtain ⟨Ao9, co9, eo9⟩ := Kd.R_slice HO0m.out; subst eo9) | ((with_reducible refine gate_callee (f := 74) rfl ?_); refine goesL_ (some 19) rfl rfl Try.func74 (by kernel_rfl) rfl #[.slice A1 l1.length c1, .slice Ao9 y0k.length co9] rfl za ?_; (with_reducible refine (spec_l1MulAbs.calls k1 _ _ l1 _ _ y0k t0n _ ?side1 ?side2 ?side3 ?side4 A4.out).mono ?_); (case side1 => exact zc (Kd.C_below HR1.out HB.out)); (case side2 => exact HC1.out); (case side3 => exact zc (Kd.R_reads' HO0m.out).2.2); (case side4 => exact (Kd.R_reads' HO0m.out).2.1); rintro e w10 ⟨v0o, rfl, ho0, hb⟩; refine ⟨_, rfl, ?_⟩; have n0_ := zm (Kd.R_elder' (zR HO0m.out) (Kd.R_base ho0) hb); have n1_ := zm (Kd.R_lower (Kd.R_new' ho0 (Kd.R_lt (zR HO0m.out))) (below_size zb)); have n2_ := zm (below_step zb hb); clear HO0m; clear HB; have HO0m := n0_; have HO0p := n1_; have HB := n2_; clear n0_ n1_ n2_; (try clear hb); (try clear hb2); (try clear hk); (try clear hi); (try clear ho0); obtain ⟨Ao11, co11, eo11⟩ := Kd.R_slice HO0p.out; subst eo11) | ((with_reducible refine gate_callee (f := 89) rfl ?_); refine goesL_ (some 21) rfl rfl Try.func89 (by kernel_rfl) rfl #[.slice Ao11 t0n.length co11, .slice A0 l0.length c0] rfl za ?_; (with_reducible refine (spec_l1CmpAbs.calls k1 _ _ t0n _ _ l0 t0q _ ?side1 ?side2 ?side3 ?side4 A5.out).mono ?_); (case side1 => exact zc (Kd.R_reads' HO0p.out).2.2); (case side2 => exact (Kd.R_reads' HO0p.out).2.1); (case side3 => exact zc (Kd.C_below HR0.out HB.out)); (case side4 => exact HC0.out); rintro e w' ⟨rfl, ⟨nd, rfl⟩⟩; refine ⟨_, rfl, ?_⟩))
          go_roundg k1
          case measure => have := HK1.out; omega
          case rel => exact ⟨(wrap64 (Int.tdiv (wrap64 (x5_1 + x6_1)) 2)), (x6_1), (by first | rfl | (simp; done) | (simp [*]; done)), (by first | rfl | (simp; done) | (simp [*]; done)), H', ⟨by have := HK1.out; omega⟩, ⟨zb⟩⟩
        · rw [if_neg c6] at H
          have c6b0 : decide (t0q ≤ 0) = false := decide_eq_false c6; clear c6; have H' := zm H; clear H
          go_wp2_with (first | ((with_reducible refine gate_dst (N := 18) rfl ?_); refine Kd.R_lit (Kd.int .i64) _ 3 ?hg (N := 18) ?hd (xs := ([wrap64 (Int.tdiv (wrap64 (x5_1 + x6_1)) 2)] : List Int)) (inner := [.int .i64 (wrap64 (Int.tdiv (wrap64 (x5_1 + x6_1)) 2))]) (ok := fun _ => True) (okp := fun _ => True) ?hr ?hp (fun _ hk => hk) trivial (Below.refl _ _) (Nat.le_refl _) (by simp) ?_; (case hd => rfl); (case hg => rfl); (case hr => first | (go_simp; done) | (go_simp; rfl)); (case hp => exact (Reps.one (show Kd.M (Kd.int .i64) _ _ _ (wrap64 (Int.tdiv (wrap64 (x5_1 + x6_1)) 2)) [.int .i64 (wrap64 (Int.tdiv (wrap64 (x5_1 + x6_1)) 2))] from rfl) (Reps.none _ _))); intro v0l w12 ho13 hb hg_ hnew_; clear hg_ hnew_; (first | rw [← Ny505.out] at ho13 | (simp only [Int.reduceToNat] at ho13; rw [← Ny505.out] at ho13)); have n0_ := zm (Kd.R_lower ho13 (below_size zb)); have n1_ := zm (below_step zb hb); clear HB; have HO0m := n0_; have HB := n1_; clear n0_ n1_; clear hb ho13; obtain ⟨Ao14, co14, eo14⟩ := Kd.R_slice HO0m.out; subst eo14) | ((with_reducible refine gate_callee (f := 74) rfl ?_); refine goesL_ (some 19) rfl rfl Try.func74 (by kernel_rfl) rfl #[.slice A1 l1.length c1, .slice Ao14 y0k.length co14] rfl za ?_; (with_reducible refine (spec_l1MulAbs.calls k1 _ _ l1 _ _ y0k t0n _ ?side1 ?side2 ?side3 ?side4 A4.out).mono ?_); (case side1 => exact zc (Kd.C_below HR1.out HB.out)); (case side2 => exact HC1.out); (case side3 => exact zc (Kd.R_reads' HO0m.out).2.2); (case side4 => exact (Kd.R_reads' HO0m.out).2.1); rintro e w15 ⟨v0o, rfl, ho0, hb⟩; refine ⟨_, rfl, ?_⟩; have n0_ := zm (Kd.R_elder' (zR HO0m.out) (Kd.R_base ho0) hb); have n1_ := zm (Kd.R_lower (Kd.R_new' ho0 (Kd.R_lt (zR HO0m.out))) (below_size zb)); have n2_ := zm (below_step zb hb); clear HO0m; clear HB; have HO0m := n0_; have HO0p := n1_; have HB := n2_; clear n0_ n1_ n2_; (try clear hb); (try clear hb2); (try clear hk); (try clear hi); (try clear ho0); obtain ⟨Ao16, co16, eo16⟩ := Kd.R_slice HO0p.out; subst eo16) | ((with_reducible refine gate_callee (f := 89) rfl ?_); refine goesL_ (some 21) rfl rfl Try.func89 (by kernel_rfl) rfl #[.slice Ao16 t0n.length co16, .slice A0 l0.length c0] rfl za ?_; (with_reducible refine (spec_l1CmpAbs.calls k1 _ _ t0n _ _ l0 t0q _ ?side1 ?side2 ?side3 ?side4 A5.out).mono ?_); (case side1 => exact zc (Kd.R_reads' HO0p.out).2.2); (case side2 => exact (Kd.R_reads' HO0p.out).2.1); (case side3 => exact zc (Kd.C_below HR0.out HB.out)); (case side4 => exact HC0.out); rintro e w' ⟨rfl, ⟨nd, rfl⟩⟩; refine ⟨_, rfl, ?_⟩))
          go_roundg k1
          case measure => have := HK1.out; omega
          case rel => exact ⟨(x5_1), (wrap64 (Int.tdiv (wrap64 (x5_1 + x6_1)) 2)), (by first | rfl | (simp; done) | (simp [*]; done)), (by first | rfl | (simp; done) | (simp [*]; done)), H', ⟨by have := HK1.out; omega⟩, ⟨zb⟩⟩
      · rw [if_neg c3] at H
        have c3b0 : decide (1 < (wrap64 (x6_1 - x5_1))) = false := decide_eq_false c3; clear c3; obtain rfl := Option.some.inj H
        go_wp2
        go_ret
        exact ⟨by first | rfl | (simp [errW_none, errW_some] <;> rfl) | (simp [*, errW_none, errW_some] <;> rfl), zb⟩
def spec_l1DivAbs.l0 : Nat → List Int → List Int → List Int → List Int → Int → Option (List Int × List Int)
  | 0, _, _, _, _, _ => none
  | k + 1, x0, x1, x6, x7, x8 => if x8 ≥ 0 then (if 0 ≤ x8 then (if x8 < (x0.length : Int) then ((some (([rd x0 x8] : List Int) : List Int)).bind fun y1a => (if y1a.length + x7.length < 17592186044416 then ((spec_l1Trim.f k (y1a ++ x7)).bind fun t1g => ((spec_l1Fits.f k t1g x1).bind fun t1j => (if x8 < (x6.length : Int) then ((spec_l1Trim.f k (([t1j] : List Int))).bind fun t1o => ((spec_l1MulAbs.f k x1 t1o).bind fun t1r => ((spec_l1SubAbs.f k t1g t1r).bind fun t1u => (spec_l1DivAbs.l0 k x0 x1 (x6.set (x8 : Int).toNat t1j) t1u (wrap64 (x8 - 1)))))) else (none)))) else (none))) else (none)) else (none)) else ((spec_l1Trim.f k x6).bind fun t0x => (some (t0x, x7)))
def spec_l1DivAbs.f (k : Nat) (l0 : List Int) (l1 : List Int) : Option (List Int × List Int) := if 0 ≤ (l0.length : Int) then (if ((l0.length : Int) : Int).toNat ≤ 35184372088832 then (spec_l1DivAbs.l0 k l0 l1 (List.replicate ((l0.length : Int) : Int).toNat 0) (([] : List Int)) (wrap64 ((l0.length : Int) - 1))) else (none)) else (none)
set_option maxHeartbeats 8000000 in
set_option maxRecDepth 100000 in
theorem spec_l1DivAbs.calls (k : Nat) (A0 : Option Addr) (c0 : Nat) (l0 : List Int) (A1 : Option Addr) (c1 : Nat) (l1 : List Int) (r1 : List Int) (r2 : List Int) (w : World) (hr0 : Kd.C (Kd.int .i64) w A0 l0.length l0) (hc0 : l0.length ≤ c0) (hr1 : Kd.C (Kd.int .i64) w A1 l1.length l1) (hc1 : l1.length ≤ c1) (h : spec_l1DivAbs.f k l0 l1 = some (r1, r2)) :
    Calls Try.prog 79 #[.slice A0 l0.length c0, .slice A1 l1.length c1] w fun e w' => ∃ v0_ v1_ : Value, e = .returned (.tuple #[v0_, v1_]) ∧ Kd.R (Kd.int .i64) 3 w' w.heap.size (fun k_ => some k_ ≠ (v1_ : Value).ownBlock) v0_ r1 ∧ Kd.R (Kd.int .i64) 3 w' w.heap.size (fun k_ => some k_ ≠ (v0_ : Value).ownBlock) v1_ r2 ∧ Below w.heap.size w w' := by
  have HR0 := zm hr0; have HC0 := zm hc0; clear hr0 hc0; have HR1 := zm hr1; have HC1 := zm hc1; clear hr1 hc1; have HB := zm (Below.refl w.heap.size w); have H : (if 0 ≤ (l0.length : Int) then (if ((l0.length : Int) : Int).toNat ≤ 35184372088832 then (spec_l1DivAbs.l0 k l0 l1 (List.replicate ((l0.length : Int) : Int).toNat 0) (([] : List Int)) (wrap64 ((l0.length : Int) - 1))) else (none)) else (none)) = some (r1, r2) := h; clear h
  by_cases c3 : 0 ≤ (l0.length : Int)
  · rw [if_pos c3] at H
    have c3b0 := eq_true c3; have c3b1 : decide (0 ≤ (l0.length : Int)) = true := decide_eq_true c3; clear c3
    by_cases c4 : ((l0.length : Int) : Int).toNat ≤ 35184372088832
    · rw [if_pos c4] at H
      have c4b0 := eq_true c4; have c4b1 : decide (((l0.length : Int) : Int).toNat ≤ 35184372088832) = true := decide_eq_true c4; clear c4
      obtain ⟨y0r, hy512⟩ : ∃ y_ : List Int, y_ = (List.replicate ((l0.length : Int) : Int).toNat 0) := ⟨_, rfl⟩
      (replace H : (spec_l1DivAbs.l0 k l0 l1 y0r (([] : List Int)) (wrap64 ((l0.length : Int) - 1))) = some (r1, r2) := by first | (rw [hy512]; with_reducible exact H) | (have H2_ := (Option.bind_some _ _).symm.trans H; rw [hy512]; with_reducible exact H2_) | (have H2_ := (Option.bind_some _ _).symm.trans H; with_reducible exact H2_) | with_reducible exact H | (rw [hy512]; exact H) | exact H); have Ny512 := zm hy512; clear hy512
      obtain ⟨y0u, hy515⟩ : ∃ y_ : List Int, y_ = (([] : List Int)) := ⟨_, rfl⟩
      (replace H : (spec_l1DivAbs.l0 k l0 l1 y0r y0u (wrap64 ((l0.length : Int) - 1))) = some (r1, r2) := by first | (rw [hy515]; with_reducible exact H) | (have H2_ := (Option.bind_some _ _).symm.trans H; rw [hy515]; with_reducible exact H2_) | (have H2_ := (Option.bind_some _ _).symm.trans H; with_reducible exact H2_) | with_reducible exact H | (rw [hy515]; exact H) | exact H); have Ny515 := zm hy515; clear hy515; have H' := zm H; clear H; go_enter Try.func79, Try.ntmps79
      go_wp2_with (first | ((with_reducible refine gate_dst (N := 12) rfl ?_); refine Kd.R_make (Kd.int .i64) _ 3 rfl (N := 12) rfl 22 _ _ rfl (l0.length : Int) rfl rfl Try.underlying22 (.int .i64 0) 8 info3 rfl (by decide) (by omega) 0 (ok := fun _ => True) (okp := fun _ => True) rfl (fun _ hk => hk) trivial (of_decide_eq_true (by first | (with_reducible assumption) | assumption)) (Nat.le_trans (Nat.mul_le_mul_right _ (of_decide_eq_true (by first | (with_reducible assumption) | assumption) : (l0.length : Int).toNat ≤ 35184372088832)) (by omega)) (Below.refl _ _) (Nat.le_refl _) ?_; intro v0s w5 ho6 hb hg_ hnew_; clear hg_ hnew_; (first | rw [← Ny512.out] at ho6 | (simp only [Int.reduceToNat] at ho6; rw [← Ny512.out] at ho6)); have n0_ := zm (Kd.R_lower ho6 (below_size zb)); have n1_ := zm (below_step zb hb); clear HB; have HO0t := n0_; have HB := n1_; clear n0_ n1_; clear hb ho6) | ((with_reducible refine gate_dst (N := 13) rfl ?_); refine Kd.R_lit (Kd.int .i64) _ 3 ?hg (N := 13) ?hd (xs := ([] : List Int)) (inner := []) (ok := fun _ => True) (okp := fun _ => True) ?hr ?hp (fun _ hk => hk) trivial (Below.refl _ _) (Nat.le_refl _) (by simp) ?_; (case hd => rfl); (case hg => rfl); (case hr => first | (go_simp; done) | (go_simp; rfl)); (case hp => exact (Reps.none _ _)); intro v0v w7 ho8 hb hg_ hnew_; clear hg_ hnew_; (first | rw [← Ny515.out] at ho8 | (simp only [Int.reduceToNat] at ho8; rw [← Ny515.out] at ho8)); have n0_ := zm (Kd.R_elder' (zR HO0t.out) (Kd.R_base ho8) hb); have n1_ := zm (Kd.R_lower (Kd.R_new' ho8 (Kd.R_lt (zR HO0t.out))) (below_size zb)); have n2_ := zm (below_step zb hb); clear HO0t; clear HB; have HO0t := n0_; have HO0w := n1_; have HB := n2_; clear n0_ n1_ n2_; clear hb ho8))
      go_loopg [7, 8] k (fun kq v7 v8 w' => ∃ (x6_1 : List Int) (x7_1 : List Int) (x8_1 : Int), v8 = .int .i64 x8_1 ∧ Aside0 (spec_l1DivAbs.l0 kq l0 l1 x6_1 x7_1 x8_1 = some (r1, r2)) ∧ Aside0 (kq ≤ k) ∧ Aside0 (Kd.R (Kd.int .i64) 3 w' w.heap.size (fun k_ => some k_ ≠ (v7 : Value).ownBlock) v0s x6_1) ∧ Aside0 (Kd.R (Kd.int .i64) 3 w' w.heap.size (fun k_ => some k_ ≠ (v0s : Value).ownBlock) v7 x7_1) ∧ Aside0 (Below w.heap.size w w'))
      case atStart => exact ⟨(y0r), (y0u), (wrap64 ((l0.length : Int) - 1)), (by first | rfl | (simp; done) | (simp [*]; done)), H', ⟨Nat.le_refl _⟩, ⟨by (with_reducible repeat (first | apply Kd.R_alloc | apply Kd.R_drewN | apply Kd.R_drew)); exact Kd.R_mono HO0t.out (fun _ hk => hk.2)⟩, ⟨by (with_reducible repeat (first | apply Kd.R_alloc | apply Kd.R_drewN | apply Kd.R_drew)); exact Kd.R_mono HO0w.out (fun _ hk => hk.2)⟩, ⟨zb⟩⟩
      case round =>
        clear H'; (try clear c1); (try clear p2); (try clear c3); (try clear c3b0); (try clear c3b1); (try clear c4); (try clear c4b0); (try clear c4b1); (try clear p6); (try clear c7); obtain ⟨x6_1, x7_1, x8_1, rfl, HA, HK1, HO_6, HO_7, HB⟩ := hrel
        cases gk with
        | zero => exact absurd HA.out (by simp [spec_l1DivAbs.l0])
        | succ k1 =>
          have H := HA.out; clear HA; simp only [spec_l1DivAbs.l0] at H
          by_cases c9 : x8_1 ≥ 0
          · rw [if_pos c9] at H
            have c9b0 : decide (0 ≤ x8_1) = true := decide_eq_true c9; clear c9
            by_cases c10 : 0 ≤ x8_1
            · rw [if_pos c10] at H
              have c10b0 : decide (0 ≤ x8_1) = true := decide_eq_true c10; clear c10
              by_cases c11 : x8_1 < (l0.length : Int)
              · rw [if_pos c11] at H
                have c11b0 : decide (x8_1 < (l0.length : Int)) = true := decide_eq_true c11; clear c11
                obtain ⟨y1a, hy522⟩ : ∃ y_ : List Int, y_ = (([rd l0 x8_1] : List Int)) := ⟨_, rfl⟩
                (replace H : (if y1a.length + x7_1.length < 17592186044416 then ((spec_l1Trim.f k1 (y1a ++ x7_1)).bind fun t1g => ((spec_l1Fits.f k1 t1g l1).bind fun t1j => (if x8_1 < (x6_1.length : Int) then ((spec_l1Trim.f k1 (([t1j] : List Int))).bind fun t1o => ((spec_l1MulAbs.f k1 l1 t1o).bind fun t1r => ((spec_l1SubAbs.f k1 t1g t1r).bind fun t1u => (spec_l1DivAbs.l0 k1 l0 l1 (x6_1.set (x8_1 : Int).toNat t1j) t1u (wrap64 (x8_1 - 1)))))) else (none)))) else (none)) = some (r1, r2) := by first | (rw [hy522]; with_reducible exact H) | (have H2_ := (Option.bind_some _ _).symm.trans H; rw [hy522]; with_reducible exact H2_) | (have H2_ := (Option.bind_some _ _).symm.trans H; with_reducible exact H2_) | with_reducible exact H | (rw [hy522]; exact H) | exact H); have Ny522 := zm hy522; clear hy522
                by_cases c12 : y1a.length + x7_1.length < 17592186044416
                · rw [if_pos c12] at H
                  have LMc12 := zm c12; clear c12
                  obtain ⟨y1d, hy525⟩ : ∃ y_ : List Int, y_ = (y1a ++ x7_1) := ⟨_, rfl⟩
                  (replace H : ((spec_l1Trim.f k1 y1d).bind fun t1g => ((spec_l1Fits.f k1 t1g l1).bind fun t1j => (if x8_1 < (x6_1.length : Int) then ((spec_l1Trim.f k1 (([t1j] : List Int))).bind fun t1o => ((spec_l1MulAbs.f k1 l1 t1o).bind fun t1r => ((spec_l1SubAbs.f k1 t1g t1r).bind fun t1u => (spec_l1DivAbs.l0 k1 l0 l1 (x6_1.set (x8_1 : Int).toNat t1j) t1u (wrap64 (x8_1 - 1)))))) else (none)))) = some (r1, r2) := by first | (rw [hy525]; with_reducible exact H) | (have H2_ := (Option.bind_some _ _).symm.trans H; rw [hy525]; with_reducible exact H2_) | (have H2_ := (Option.bind_some _ _).symm.trans H; with_reducible exact H2_) | with_reducible exact H | (rw [hy525]; exact H) | exact H); have Ny525 := zm hy525; clear hy525; replace H := Option.bind_eq_some_iff.mp H; obtain ⟨t1g, A0b, H⟩ := H; replace H : ((spec_l1Fits.f k1 t1g l1).bind fun t1j => (if x8_1 < (x6_1.length : Int) then ((spec_l1Trim.f k1 (([t1j] : List Int))).bind fun t1o => ((spec_l1MulAbs.f k1 l1 t1o).bind fun t1r => ((spec_l1SubAbs.f k1 t1g t1r).bind fun t1u => (spec_l1DivAbs.l0 k1 l0 l1 (x6_1.set (x8_1 : Int).toNat t1j) t1u (wrap64 (x8_1 - 1)))))) else (none))) = some (r1, r2) := H; have A13 := zm A0b; clear A0b; replace H := Option.bind_eq_some_iff.mp H; obtain ⟨t1j, A0c, H⟩ := H; replace H : (if x8_1 < (x6_1.length : Int) then ((spec_l1Trim.f k1 (([t1j] : List Int))).bind fun t1o => ((spec_l1MulAbs.f k1 l1 t1o).bind fun t1r => ((spec_l1SubAbs.f k1 t1g t1r).bind fun t1u => (spec_l1DivAbs.l0 k1 l0 l1 (x6_1.set (x8_1 : Int).toNat t1j) t1u (wrap64 (x8_1 - 1)))))) else (none)) = some (r1, r2) := H; have A14 := zm A0c; clear A0c
                  by_cases c15 : x8_1 < (x6_1.length : Int)
                  · rw [if_pos c15] at H
                    have c15b0 : decide (x8_1 < (x6_1.length : Int)) = true := decide_eq_true c15; clear c15
                    obtain ⟨y1k, hy532⟩ : ∃ y_ : List Int, y_ = (x6_1.set (x8_1 : Int).toNat t1j) := ⟨_, rfl⟩
                    (replace H : ((spec_l1Trim.f k1 (([t1j] : List Int))).bind fun t1o => ((spec_l1MulAbs.f k1 l1 t1o).bind fun t1r => ((spec_l1SubAbs.f k1 t1g t1r).bind fun t1u => (spec_l1DivAbs.l0 k1 l0 l1 y1k t1u (wrap64 (x8_1 - 1)))))) = some (r1, r2) := by first | (rw [hy532]; with_reducible exact H) | (have H2_ := (Option.bind_some _ _).symm.trans H; rw [hy532]; with_reducible exact H2_) | (have H2_ := (Option.bind_some _ _).symm.trans H; with_reducible exact H2_) | with_reducible exact H | (rw [hy532]; exact H) | exact H); have Ny532 := zm hy532; clear hy532
                    obtain ⟨y1l, hy533⟩ : ∃ y_ : List Int, y_ = (([t1j] : List Int)) := ⟨_, rfl⟩
                    (replace H : ((spec_l1Trim.f k1 y1l).bind fun t1o => ((spec_l1MulAbs.f k1 l1 t1o).bind fun t1r => ((spec_l1SubAbs.f k1 t1g t1r).bind fun t1u => (spec_l1DivAbs.l0 k1 l0 l1 y1k t1u (wrap64 (x8_1 - 1)))))) = some (r1, r2) := by first | (rw [hy533]; with_reducible exact H) | (have H2_ := (Option.bind_some _ _).symm.trans H; rw [hy533]; with_reducible exact H2_) | (have H2_ := (Option.bind_some _ _).symm.trans H; with_reducible exact H2_) | with_reducible exact H | (rw [hy533]; exact H) | exact H); have Ny533 := zm hy533; clear hy533; replace H := Option.bind_eq_some_iff.mp H; obtain ⟨t1o, A0d, H⟩ := H; replace H : ((spec_l1MulAbs.f k1 l1 t1o).bind fun t1r => ((spec_l1SubAbs.f k1 t1g t1r).bind fun t1u => (spec_l1DivAbs.l0 k1 l0 l1 y1k t1u (wrap64 (x8_1 - 1))))) = some (r1, r2) := H; have A17 := zm A0d; clear A0d; replace H := Option.bind_eq_some_iff.mp H; obtain ⟨t1r, A0e, H⟩ := H; replace H : ((spec_l1SubAbs.f k1 t1g t1r).bind fun t1u => (spec_l1DivAbs.l0 k1 l0 l1 y1k t1u (wrap64 (x8_1 - 1)))) = some (r1, r2) := H; have A18 := zm A0e; clear A0e; replace H := Option.bind_eq_some_iff.mp H; obtain ⟨t1u, A0f, H⟩ := H; replace H : (spec_l1DivAbs.l0 k1 l0 l1 y1k t1u (wrap64 (x8_1 - 1))) = some (r1, r2) := H; have A19 := zm A0f; clear A0f; have H' := zm H; clear H; have p521 : 0 ≤ (x8_1 : Int) := of_decide_eq_true (by first | (with_reducible assumption) | assumption); have q521 : x8_1 < (l0.length : Int) := of_decide_eq_true (by first | (with_reducible assumption) | assumption); obtain ⟨ad521, e521, hx521_0⟩ := Kd.at_int HR0.out x8_1 p521 q521; cases e521; replace hx521_0 := (HB.out.cell (World.block_lt_of_cell? w _ hx521_0)).trans hx521_0; replace p521 := eq_true p521; replace q521 := eq_true q521
                    go_wp2_with (first | ((with_reducible refine gate_dst (N := 25) rfl ?_); refine Kd.R_lit (Kd.int .i64) _ 3 ?hg (N := 25) ?hd (xs := ([rd l0 x8_1] : List Int)) (inner := [.int .i64 (rd l0 x8_1)]) (ok := fun _ => True) (okp := fun _ => True) ?hr ?hp (fun _ hk => hk) trivial (Below.refl _ _) (Nat.le_refl _) (by simp) ?_; (case hd => rfl); (case hg => rfl); (case hr => first | (go_simp; done) | (go_simp; rfl)); (case hp => exact (Reps.one (show Kd.M (Kd.int .i64) _ _ _ (rd l0 x8_1) [.int .i64 (rd l0 x8_1)] from rfl) (Reps.none _ _))); intro v1b w20 ho21 hb hg_ hnew_; clear hg_ hnew_; (first | rw [← Ny522.out] at ho21 | (simp only [Int.reduceToNat] at ho21; rw [← Ny522.out] at ho21)); have n0_ := zm (Kd.R_elder' (zR HO_6.out) (Kd.R_base ho21) hb); have n1_ := zm (Kd.R_elder' (zR HO_7.out) (Kd.R_base ho21) hb); have n2_ := zm (Kd.R_lower (Kd.R_new' (Kd.R_new' ho21 (Kd.R_lt (zR HO_6.out))) (Kd.R_lt (zR HO_7.out))) (below_size zb)); have n3_ := zm (below_step zb hb); clear HO_6; clear HO_7; clear HB; have HO_6 := n0_; have HO_7 := n1_; have HO1c := n2_; have HB := n3_; clear n0_ n1_ n2_ n3_; clear hb ho21; obtain ⟨Ao23, co23, eo23⟩ := Kd.R_slice HO_7.out; subst eo23) | ((with_reducible refine gate_builtin (b := .append) (xs := #[.tmp 25, .tmp 26]) rfl ?_); at_builtin; refine Kd.R_append_rows (Kd.int .i64) (w0 := w) w.heap.size rfl (.tmp 25) (.tmp 26) 22 3 (.int .i64 0) 8 rfl Try.underlying22 info3 rfl (by decide) (by omega) v1b y1a x7_1 _ _ _ (fun k_ => some k_ ≠ (v0s : Value).ownBlock ∧ some k_ ≠ (.slice Ao23 x7_1.length co23 : Value).ownBlock) (fun _ => False) rfl rfl ?aO ?aR (fun _ _ h => h) (fun _ h => h.elim) ?aF ?aB ?aS ?aL ?_; (case aR => exact zc (Kd.R_reads' HO_7.out).2.2); (case aB => exact zb); (case aF => exact (fun k_ hk => ⟨Kd.fresh' (Kd.R_lt (zR HO_6.out)) k_ hk, Kd.fresh' (Kd.R_lt (zR HO_7.out)) k_ hk⟩)); (case aO => exact (by (with_reducible repeat (first | apply Kd.R_alloc | apply Kd.R_drewN | apply Kd.R_drew)); exact Kd.R_mono HO1c.out (fun _ hk => ⟨hk.1.2, hk.2⟩))); (case aS => exact (below_size zb)); (case aL => have := LMc12.out; omega); intro v1e w22 ho hb hg hat; rw [← Ny525.out] at ho; have n0_ := zm (Kd.R_after (ok := (fun k_ => some k_ ≠ (.slice Ao23 x7_1.length co23 : Value).ownBlock)) (zR HO_6.out) hg hat); have n1_ := zm (Kd.R_after (ok := (fun k_ => some k_ ≠ (v0s : Value).ownBlock)) (zR HO_7.out) hg hat); have n2_ := zm (hb); have n3_ := zm (ho); clear HO_6; clear HO_7; clear HB; clear HO1c; have HO_6 := n0_; have HO_7 := n1_; have HB := n2_; have HO1f := n3_; clear n0_ n1_ n2_ n3_; clear ho hb hg hat; obtain ⟨Ao24, co24, eo24⟩ := Kd.R_slice HO1f.out; subst eo24) | ((with_reducible refine gate_callee (f := 84) rfl ?_); refine goesL_ (some 28) rfl rfl Try.func84 (by kernel_rfl) rfl #[.slice Ao24 y1d.length co24] rfl za ?_; (with_reducible refine (spec_l1Trim.calls k1 _ _ y1d t1g _ ?side1 ?side2 A13.out).mono ?_); (case side1 => exact zc (Kd.R_reads' HO1f.out).2.2); (case side2 => exact (Kd.R_reads' HO1f.out).2.1); rintro e w25 ⟨v1h, rfl, ho0, hb⟩; refine ⟨_, rfl, ?_⟩; have n0_ := zm (Kd.R_elder' (zR HO_6.out) (Kd.R_base ho0) hb); have n1_ := zm (Kd.R_elder' (zR HO_7.out) (Kd.R_base ho0) hb); have n2_ := zm (Kd.R_elder' (zR HO1f.out) (Kd.R_base ho0) hb); have n3_ := zm (Kd.R_lower (Kd.R_new' (Kd.R_new' (Kd.R_new' ho0 (Kd.R_lt (zR HO_6.out))) (Kd.R_lt (zR HO_7.out))) (Kd.R_lt (zR HO1f.out))) (below_size zb)); have n4_ := zm (below_step zb hb); clear HO_6; clear HO_7; clear HO1f; clear HB; have HO_6 := n0_; have HO_7 := n1_; have HO1f := n2_; have HO1i := n3_; have HB := n4_; clear n0_ n1_ n2_ n3_ n4_; (try clear hb); (try clear hb2); (try clear hk); (try clear hi); (try clear ho0); obtain ⟨Ao26, co26, eo26⟩ := Kd.R_slice HO1i.out; subst eo26) | ((with_reducible refine gate_callee (f := 97) rfl ?_); refine goesL_ (some 31) rfl rfl Try.func97 (by kernel_rfl) rfl #[.slice Ao26 t1g.length co26, .slice A1 l1.length c1] rfl za ?_; (with_reducible refine (spec_l1Fits.calls k1 _ _ t1g _ _ l1 t1j _ ?side1 ?side2 ?side3 ?side4 A14.out).mono ?_); (case side1 => exact zc (Kd.R_reads' HO1i.out).2.2); (case side2 => exact (Kd.R_reads' HO1i.out).2.1); (case side3 => exact zc (Kd.C_below HR1.out HB.out)); (case side4 => exact HC1.out); rintro e w27 ⟨rfl, hb⟩; refine ⟨_, rfl, ?_⟩; have n0_ := zm (Kd.R_below (zR HO_6.out) hb); have n1_ := zm (Kd.R_below (zR HO_7.out) hb); have n2_ := zm (Kd.R_below (zR HO1f.out) hb); have n3_ := zm (Kd.R_below (zR HO1i.out) hb); have n4_ := zm (below_step zb hb); clear HO_6; clear HO_7; clear HO1f; clear HO1i; clear HB; have HO_6 := n0_; have HO_7 := n1_; have HO1f := n2_; have HO1i := n3_; have HB := n4_; clear n0_ n1_ n2_ n3_ n4_; (try clear hb); (try clear hb2); (try clear hk); (try clear hi); have p16 : 0 ≤ (x8_1 : Int) := of_decide_eq_true (by first | (with_reducible assumption) | assumption); have q16 : (x8_1 : Int) < ((x6_1.length : Int) : Int) := of_decide_eq_true (by first | (with_reducible assumption) | assumption); obtain ⟨go16, co16, eo16, gb16, gl16, cl16, HG16⟩ := Kd.R_form HO_6.out (by omega); (first | cases eo16 | (injection eo16 with ea_ en_ ec_; (first | subst ea_ | (injection ea_ with ea_; subst ea_)); subst ec_; clear en_)); have GB16 := zm gb16; have GG16 := zm HG16; clear gb16 gl16 HG16; obtain ⟨hx16_0, hf16_0⟩ := Kd.R_celln 0 HO_6.out (x8_1 : Int) p16 q16; replace p16 := eq_true p16; replace q16 := eq_true q16; have n_ := zm (Kd.R_mono (ok' := (fun k_ => some k_ ≠ (.slice Ao23 x7_1.length co23 : Value).ownBlock ∧ some k_ ≠ (.slice Ao24 y1d.length co24 : Value).ownBlock ∧ some k_ ≠ (.slice Ao26 t1g.length co26 : Value).ownBlock)) HO_6.out (fun k_ hk => ⟨hk.1.1, ⟨hk.1.2, hk.2⟩⟩)); clear HO_6; have HO_6 := n_; clear n_; obtain ⟨hy28_, hz28_⟩ := Kd.R_celln 0 HO_6.out (x8_1 : Int) (of_decide_eq_true (by first | (with_reducible assumption) | assumption)) (of_decide_eq_true (by first | (with_reducible assumption) | assumption)); have HP28 := Kd.R_putg HO_6.out (x8_1 : Int) t1j) | ((with_reducible refine gate_store (t := 3) (p := 35) rfl ?_); refine store_event (t := 3) (p := 35) (v := ?vo_w29) (w1 := (w27.setCell ⟨go16, (x8_1 : Int).toNat, none⟩ (.int .i64 t1j))) ?hg ?ho ?hn ?hr ?_; (case ho => rfl); (case hg => rfl); (case hn => rfl); (case hr => first | (go_simp; done) | (go_simp; rfl)); intro w29 hw; have hg : w27.grownBy w29 (some go16) := (by rw [hw]; exact HP28.2); have hp_ : Kd.R (Kd.int .i64) 3 w29 w.heap.size (fun k_ => some k_ ≠ (.slice Ao23 x7_1.length co23 : Value).ownBlock ∧ some k_ ≠ (.slice Ao24 y1d.length co24 : Value).ownBlock ∧ some k_ ≠ (.slice Ao26 t1g.length co26 : Value).ownBlock) (.slice (some ⟨go16, 0, none⟩) x6_1.length co16) y1k := (by rw [hw, Ny532.out]; exact HP28.1); clear HP28; have n0_ := zm (hp_); have n1_ := zm (Kd.R_after (v := (.slice (some ⟨go16, 0, none⟩) x6_1.length co16)) (v1 := (.slice (some ⟨go16, 0, none⟩) x6_1.length co16)) (ok := (fun k_ => some k_ ≠ (.slice Ao24 y1d.length co24 : Value).ownBlock ∧ some k_ ≠ (.slice Ao26 t1g.length co26 : Value).ownBlock)) (by (with_reducible repeat (first | apply Kd.R_alloc | apply Kd.R_drewN | apply Kd.R_drew)); exact Kd.R_mono HO_7.out (fun _ hk => ⟨⟨hk.1.2, hk.2⟩, hk.1.1⟩)) hg (.inl rfl)); have n2_ := zm (Kd.R_after (v := (.slice (some ⟨go16, 0, none⟩) x6_1.length co16)) (v1 := (.slice (some ⟨go16, 0, none⟩) x6_1.length co16)) (ok := (fun k_ => some k_ ≠ (.slice Ao23 x7_1.length co23 : Value).ownBlock ∧ some k_ ≠ (.slice Ao26 t1g.length co26 : Value).ownBlock)) (by (with_reducible repeat (first | apply Kd.R_alloc | apply Kd.R_drewN | apply Kd.R_drew)); exact Kd.R_mono HO1f.out (fun _ hk => ⟨⟨hk.1.2, hk.2⟩, hk.1.1⟩)) hg (.inl rfl)); have n3_ := zm (Kd.R_after (v := (.slice (some ⟨go16, 0, none⟩) x6_1.length co16)) (v1 := (.slice (some ⟨go16, 0, none⟩) x6_1.length co16)) (ok := (fun k_ => some k_ ≠ (.slice Ao23 x7_1.length co23 : Value).ownBlock ∧ some k_ ≠ (.slice Ao24 y1d.length co24 : Value).ownBlock)) (by (with_reducible repeat (first | apply Kd.R_alloc | apply Kd.R_drewN | apply Kd.R_drew)); exact Kd.R_mono HO1i.out (fun _ hk => ⟨⟨hk.1.2, hk.2⟩, hk.1.1.2⟩)) hg (.inl rfl)); have n4_ := zm ((by rw [hw]; exact below_set (HB.out) GB16.out : Below w.heap.size w w29)); clear HO_6; clear HO_7; clear HO1f; clear HO1i; clear HB; have HO_6 := n0_; have HO_7 := n1_; have HO1f := n2_; have HO1i := n3_; have HB := n4_; clear n0_ n1_ n2_ n3_ n4_; clear hg hw hp_) | ((with_reducible refine gate_dst (N := 39) rfl ?_); refine Kd.R_lit (Kd.int .i64) _ 3 ?hg (N := 39) ?hd (xs := ([t1j] : List Int)) (inner := [.int .i64 t1j]) (ok := fun _ => True) (okp := fun _ => True) ?hr ?hp (fun _ hk => hk) trivial (Below.refl _ _) (Nat.le_refl _) (by simp) ?_; (case hd => rfl); (case hg => rfl); (case hr => first | (go_simp; done) | (go_simp; rfl)); (case hp => exact (Reps.one (show Kd.M (Kd.int .i64) _ _ _ t1j [.int .i64 t1j] from rfl) (Reps.none _ _))); intro v1m w30 ho31 hb hg_ hnew_; clear hg_ hnew_; (first | rw [← Ny533.out] at ho31 | (simp only [Int.reduceToNat] at ho31; rw [← Ny533.out] at ho31)); have n0_ := zm (Kd.R_elder' (zR HO_6.out) (Kd.R_base ho31) hb); have n1_ := zm (Kd.R_elder' (zR HO_7.out) (Kd.R_base ho31) hb); have n2_ := zm (Kd.R_elder' (zR HO1f.out) (Kd.R_base ho31) hb); have n3_ := zm (Kd.R_elder' (zR HO1i.out) (Kd.R_base ho31) hb); have n4_ := zm (Kd.R_lower (Kd.R_new' (Kd.R_new' (Kd.R_new' (Kd.R_new' ho31 (Kd.R_lt (zR HO_6.out))) (Kd.R_lt (zR HO_7.out))) (Kd.R_lt (zR HO1f.out))) (Kd.R_lt (zR HO1i.out))) (below_size zb)); have n5_ := zm (below_step zb hb); clear HO_6; clear HO_7; clear HO1f; clear HO1i; clear HB; have HO_6 := n0_; have HO_7 := n1_; have HO1f := n2_; have HO1i := n3_; have HO1n := n4_; have HB := n5_; clear n0_ n1_ n2_ n3_ n4_ n5_; clear hb ho31; obtain ⟨Ao32, co32, eo32⟩ := Kd.R_slice HO1n.out; subst eo32) | ((with_reducible refine gate_callee (f := 84) rfl ?_); refine goesL_ (some 40) rfl rfl Try.func84 (by kernel_rfl) rfl #[.slice Ao32 y1l.length co32] rfl za ?_; (with_reducible refine (spec_l1Trim.calls k1 _ _ y1l t1o _ ?side1 ?side2 A17.out).mono ?_); (case side1 => exact zc (Kd.R_reads' HO1n.out).2.2); (case side2 => exact (Kd.R_reads' HO1n.out).2.1); rintro e w33 ⟨v1p, rfl, ho0, hb⟩; refine ⟨_, rfl, ?_⟩; have n0_ := zm (Kd.R_elder' (zR HO_6.out) (Kd.R_base ho0) hb); have n1_ := zm (Kd.R_elder' (zR HO_7.out) (Kd.R_base ho0) hb); have n2_ := zm (Kd.R_elder' (zR HO1f.out) (Kd.R_base ho0) hb); have n3_ := zm (Kd.R_elder' (zR HO1i.out) (Kd.R_base ho0) hb); have n4_ := zm (Kd.R_elder' (zR HO1n.out) (Kd.R_base ho0) hb); have n5_ := zm (Kd.R_lower (Kd.R_new' (Kd.R_new' (Kd.R_new' (Kd.R_new' (Kd.R_new' ho0 (Kd.R_lt (zR HO_6.out))) (Kd.R_lt (zR HO_7.out))) (Kd.R_lt (zR HO1f.out))) (Kd.R_lt (zR HO1i.out))) (Kd.R_lt (zR HO1n.out))) (below_size zb)); have n6_ := zm (below_step zb hb); clear HO_6; clear HO_7; clear HO1f; clear HO1i; clear HO1n; clear HB; have HO_6 := n0_; have HO_7 := n1_; have HO1f := n2_; have HO1i := n3_; have HO1n := n4_; have HO1q := n5_; have HB := n6_; clear n0_ n1_ n2_ n3_ n4_ n5_ n6_; (try clear hb); (try clear hb2); (try clear hk); (try clear hi); (try clear ho0); obtain ⟨Ao34, co34, eo34⟩ := Kd.R_slice HO1q.out; subst eo34) | ((with_reducible refine gate_callee (f := 74) rfl ?_); refine goesL_ (some 41) rfl rfl Try.func74 (by kernel_rfl) rfl #[.slice A1 l1.length c1, .slice Ao34 t1o.length co34] rfl za ?_; (with_reducible refine (spec_l1MulAbs.calls k1 _ _ l1 _ _ t1o t1r _ ?side1 ?side2 ?side3 ?side4 A18.out).mono ?_); (case side1 => exact zc (Kd.C_below HR1.out HB.out)); (case side2 => exact HC1.out); (case side3 => exact zc (Kd.R_reads' HO1q.out).2.2); (case side4 => exact (Kd.R_reads' HO1q.out).2.1); rintro e w35 ⟨v1s, rfl, ho0, hb⟩; refine ⟨_, rfl, ?_⟩; have n0_ := zm (Kd.R_elder' (zR HO_6.out) (Kd.R_base ho0) hb); have n1_ := zm (Kd.R_elder' (zR HO_7.out) (Kd.R_base ho0) hb); have n2_ := zm (Kd.R_elder' (zR HO1f.out) (Kd.R_base ho0) hb); have n3_ := zm (Kd.R_elder' (zR HO1i.out) (Kd.R_base ho0) hb); have n4_ := zm (Kd.R_elder' (zR HO1n.out) (Kd.R_base ho0) hb); have n5_ := zm (Kd.R_elder' (zR HO1q.out) (Kd.R_base ho0) hb); have n6_ := zm (Kd.R_lower (Kd.R_new' (Kd.R_new' (Kd.R_new' (Kd.R_new' (Kd.R_new' (Kd.R_new' ho0 (Kd.R_lt (zR HO_6.out))) (Kd.R_lt (zR HO_7.out))) (Kd.R_lt (zR HO1f.out))) (Kd.R_lt (zR HO1i.out))) (Kd.R_lt (zR HO1n.out))) (Kd.R_lt (zR HO1q.out))) (below_size zb)); have n7_ := zm (below_step zb hb); clear HO_6; clear HO_7; clear HO1f; clear HO1i; clear HO1n; clear HO1q; clear HB; have HO_6 := n0_; have HO_7 := n1_; have HO1f := n2_; have HO1i := n3_; have HO1n := n4_; have HO1q := n5_; have HO1t := n6_; have HB := n7_; clear n0_ n1_ n2_ n3_ n4_ n5_ n6_ n7_; (try clear hb); (try clear hb2); (try clear hk); (try clear hi); (try clear ho0); obtain ⟨Ao36, co36, eo36⟩ := Kd.R_slice HO1t.out; subst eo36) | ((with_reducible refine gate_callee (f := 95) rfl ?_); refine goesL_ (some 42) rfl rfl Try.func95 (by kernel_rfl) rfl #[.slice Ao26 t1g.length co26, .slice Ao36 t1r.length co36] rfl za ?_; (with_reducible refine (spec_l1SubAbs.calls k1 _ _ t1g _ _ t1r t1u _ ?side1 ?side2 ?side3 ?side4 A19.out).mono ?_); (case side1 => exact zc (Kd.R_reads' HO1i.out).2.2); (case side2 => exact (Kd.R_reads' HO1i.out).2.1); (case side3 => exact zc (Kd.R_reads' HO1t.out).2.2); (case side4 => exact (Kd.R_reads' HO1t.out).2.1); rintro e w37 ⟨v1v, rfl, ho0, hb⟩; refine ⟨_, rfl, ?_⟩; have n0_ := zm (Kd.R_elder' (zR HO_6.out) (Kd.R_base ho0) hb); have n1_ := zm (Kd.R_elder' (zR HO_7.out) (Kd.R_base ho0) hb); have n2_ := zm (Kd.R_elder' (zR HO1f.out) (Kd.R_base ho0) hb); have n3_ := zm (Kd.R_elder' (zR HO1i.out) (Kd.R_base ho0) hb); have n4_ := zm (Kd.R_elder' (zR HO1n.out) (Kd.R_base ho0) hb); have n5_ := zm (Kd.R_elder' (zR HO1q.out) (Kd.R_base ho0) hb); have n6_ := zm (Kd.R_elder' (zR HO1t.out) (Kd.R_base ho0) hb); have n7_ := zm (Kd.R_lower (Kd.R_new' (Kd.R_new' (Kd.R_new' (Kd.R_new' (Kd.R_new' (Kd.R_new' (Kd.R_new' ho0 (Kd.R_lt (zR HO_6.out))) (Kd.R_lt (zR HO_7.out))) (Kd.R_lt (zR HO1f.out))) (Kd.R_lt (zR HO1i.out))) (Kd.R_lt (zR HO1n.out))) (Kd.R_lt (zR HO1q.out))) (Kd.R_lt (zR HO1t.out))) (below_size zb)); have n8_ := zm (below_step zb hb); clear HO_6; clear HO_7; clear HO1f; clear HO1i; clear HO1n; clear HO1q; clear HO1t; clear HB; have HO_6 := n0_; have HO_7 := n1_; have HO1f := n2_; have HO1i := n3_; have HO1n := n4_; have HO1q := n5_; have HO1t := n6_; have HO1w := n7_; have HB := n8_; clear n0_ n1_ n2_ n3_ n4_ n5_ n6_ n7_ n8_; (try clear hb); (try clear hb2); (try clear hk); (try clear hi); (try clear ho0)))
                    go_roundg k1
                    case measure => have := HK1.out; omega
                    case rel => exact ⟨(y1k), (t1u), (wrap64 (x8_1 - 1)), (by first | rfl | (simp; done) | (simp [*]; done)), H', ⟨by have := HK1.out; omega⟩, ⟨by (with_reducible repeat (first | apply Kd.R_alloc | apply Kd.R_drewN | apply Kd.R_drew)); exact Kd.R_mono HO_6.out (fun _ hk => hk.2)⟩, ⟨by (with_reducible repeat (first | apply Kd.R_alloc | apply Kd.R_drewN | apply Kd.R_drew)); exact Kd.R_mono HO1w.out (fun _ hk => hk.1.1.1.1.1.1.2)⟩, ⟨zb⟩⟩
                  · rw [if_neg c15] at H
                    exact absurd H (by simp)
                · rw [if_neg c12] at H
                  exact absurd H (by simp)
              · rw [if_neg c11] at H
                exact absurd H (by simp)
            · rw [if_neg c10] at H
              exact absurd H (by simp)
          · rw [if_neg c9] at H
            have c9b0 : decide (0 ≤ x8_1) = false := decide_eq_false c9; clear c9; replace H := Option.bind_eq_some_iff.mp H; obtain ⟨t0x, A0g, H⟩ := H; replace H : (some (t0x, x7_1)) = some (r1, r2) := H; have A38 := zm A0g; clear A0g; simp only [Option.some.injEq, Prod.mk.injEq] at H; obtain ⟨rfl, rfl⟩ := H; obtain ⟨Ao39, co39, eo39⟩ := Kd.R_slice HO_6.out; subst eo39
            go_wp2_with (first | ((with_reducible refine gate_callee (f := 84) rfl ?_); refine goesL_ (some 44) rfl rfl Try.func84 (by kernel_rfl) rfl #[.slice Ao39 x6_1.length co39] rfl za ?_; (with_reducible refine (spec_l1Trim.calls k1 _ _ x6_1 t0x _ ?side1 ?side2 A38.out).mono ?_); (case side1 => exact zc (Kd.R_reads' HO_6.out).2.2); (case side2 => exact (Kd.R_reads' HO_6.out).2.1); rintro e w40 ⟨v0y, rfl, ho0, hb⟩; refine ⟨_, rfl, ?_⟩; have n0_ := zm (Kd.R_elder' (zR HO_6.out) (Kd.R_base ho0) hb); have n1_ := zm (Kd.R_elder' (zR HO_7.out) (Kd.R_base ho0) hb); have n2_ := zm (Kd.R_lower (Kd.R_new' (Kd.R_new' ho0 (Kd.R_lt (zR HO_6.out))) (Kd.R_lt (zR HO_7.out))) (below_size zb)); have n3_ := zm (below_step zb hb); clear HO_6; clear HO_7; clear HB; have HO_6 := n0_; have HO_7 := n1_; have HO0z := n2_; have HB := n3_; clear n0_ n1_ n2_ n3_; (try clear hb); (try clear hb2); (try clear hk); (try clear hi); (try clear ho0)))
            go_ret2
            exact ⟨_, _, by first | rfl | (simp [errW_none, errW_some] <;> rfl) | (simp [*, errW_none, errW_some] <;> rfl), by (with_reducible repeat (first | apply Kd.R_alloc | apply Kd.R_drewN | apply Kd.R_drew)); exact Kd.R_mono HO0z.out (fun _ hk => hk.2), by (with_reducible repeat (first | apply Kd.R_alloc | apply Kd.R_drewN | apply Kd.R_drew)); exact Kd.R_mono HO_7.out (fun _ hk => hk.2), zb⟩
    · rw [if_neg c4] at H
      exact absurd H (by simp)
  · rw [if_neg c3] at H
    exact absurd H (by simp)
def spec_BigDiv.j0 : Nat → Bool → Bool → List Int → Bool → List Int → Option (Bool × List Int × Bool × List Int × Bool)
  | 0, _, _, _, _, _ => none
  | k + 1, x26, x546000, x546001, x547000, x547001 => if x26 = true then (some (false, ([] : List Int), false, ([] : List Int), false)) else ((spec_l1DivAbs.f k x546001 x547001).bind fun bt2d => ((spec_l1Big.f k (x546000 != x547000) bt2d.1).bind fun bt2j => ((spec_l1Big.f k x546000 bt2d.2).bind fun bt2p => (some (bt2j.1, bt2j.2.1, bt2p.1, bt2p.2.1, true)))))
def spec_BigDiv.f (k : Nat) (a0_0 : Bool) (l0_1 : List Int) (a1_0 : Bool) (l1_1 : List Int) : Option (Bool × List Int × Bool × List Int × Bool) := (spec_l1Ok.f k a0_0 l0_1).bind fun t2b => (if t2b = true then ((spec_l1Ok.f k a1_0 l1_1).bind fun t2c => (if t2c = true then (spec_BigDiv.j0 k ((l1_1.length : Int) == 0) a0_0 l0_1 a1_0 l1_1) else (spec_BigDiv.j0 k true a0_0 l0_1 a1_0 l1_1))) else (spec_BigDiv.j0 k true a0_0 l0_1 a1_0 l1_1))
set_option maxHeartbeats 8000000 in
set_option maxRecDepth 100000 in
theorem spec_BigDiv.calls (k : Nat) (a0_0 : Bool) (A0_1 : Option Addr) (c0_1 : Nat) (l0_1 : List Int) (a1_0 : Bool) (A1_1 : Option Addr) (c1_1 : Nat) (l1_1 : List Int) (r1 : Bool) (r2 : List Int) (r3 : Bool) (r4 : List Int) (r5 : Bool) (w : World) (hr0_1 : Kd.C (Kd.int .i64) w A0_1 l0_1.length l0_1) (hc0_1 : l0_1.length ≤ c0_1) (hr1_1 : Kd.C (Kd.int .i64) w A1_1 l1_1.length l1_1) (hc1_1 : l1_1.length ≤ c1_1) (h : spec_BigDiv.f k a0_0 l0_1 a1_0 l1_1 = some (r1, r2, r3, r4, r5)) :
    Calls Try.prog 44 #[.agg #[.bool a0_0, .slice A0_1 l0_1.length c0_1], .agg #[.bool a1_0, .slice A1_1 l1_1.length c1_1]] w fun e w' => ∃ v1_ v3_ : Value, e = .returned (.tuple #[.agg #[.bool r1, v1_], .agg #[.bool r3, v3_], .bool r5]) ∧ Kd.R (Kd.int .i64) 3 w' w.heap.size (fun k_ => some k_ ≠ (v3_ : Value).ownBlock) v1_ r2 ∧ Kd.R (Kd.int .i64) 3 w' w.heap.size (fun k_ => some k_ ≠ (v1_ : Value).ownBlock) v3_ r4 ∧ Below w.heap.size w w' := by
  have hu27 := Try.underlying27; have HR0_1 := zm hr0_1; have HC0_1 := zm hc0_1; clear hr0_1 hc0_1; have HR1_1 := zm hr1_1; have HC1_1 := zm hc1_1; clear hr1_1 hc1_1; have HB := zm (Below.refl w.heap.size w); have H : ((spec_l1Ok.f k a0_0 l0_1).bind fun t2b => (if t2b = true then ((spec_l1Ok.f k a1_0 l1_1).bind fun t2c => (if t2c = true then (spec_BigDiv.j0 k ((l1_1.length : Int) == 0) a0_0 l0_1 a1_0 l1_1) else (spec_BigDiv.j0 k true a0_0 l0_1 a1_0 l1_1))) else (spec_BigDiv.j0 k true a0_0 l0_1 a1_0 l1_1))) = some (r1, r2, r3, r4, r5) := h; clear h; have HC3 := zm H; clear H; go_enter Try.func44, Try.ntmps44
  go_upto_region 1 with (first | ((with_reducible refine gate_dst (N := 2) rfl ?_); (try (refine gate_guard (by rfl) ?_; dsimp only)); refine box_event ?hg (N := 2) ?hd (cs := #[.bool a0_0, .slice A0_1 l0_1.length c0_1]) (t := 27) ?hr ?_; (case hd => rfl); (case hg => rfl); (case hr => first | (go_simp; done) | (go_simp; rfl)); intro gb1x hg w4 hbox hb; have n0_ := zm (below_step zb hb); have n1_ := zm (hbox); have n2_ := zm ((by rw [hg]; exact (below_size zb) : w.heap.size ≤ gb1x)); have n3_ := zm ((by rw [hg]; exact (below_size zb) : w.heap.size ≤ gb1x)); clear HB; have HB := n0_; have BK1x := n1_; have GW1x := n2_; have GE1x := n3_; clear n0_ n1_ n2_ n3_; clear hb hbox hg) | ((with_reducible refine gate_dst (N := 3) rfl ?_); (try (refine gate_guard (by rfl) ?_; dsimp only)); refine box_event ?hg (N := 3) ?hd (cs := #[.bool a1_0, .slice A1_1 l1_1.length c1_1]) (t := 27) ?hr ?_; (case hd => rfl); (case hg => rfl); (case hr => first | (go_simp; done) | (go_simp; rfl)); intro gb1y hg w5 hbox hb; have n0_ := zm (blk_below (g := gb1x) (o := .cells #[.bool a0_0, .slice A0_1 l0_1.length c0_1] 27 (0, 0)) (zk BK1x.out) hb); have n1_ := zm (below_step zb hb); have n2_ := zm (hbox); have n3_ := zm ((by rw [hg]; exact (below_size zb) : w.heap.size ≤ gb1y)); have n4_ := zm ((by rw [hg]; exact (below_size zb) : w.heap.size ≤ gb1y)); have n5_ := zm ((by rw [hg]; exact Nat.ne_of_lt (blk_lt (g := gb1x) (o := .cells #[.bool a0_0, .slice A0_1 l0_1.length c0_1] 27 (0, 0)) (zk BK1x.out)) : gb1x ≠ gb1y)); have n6_ := zm ((by rw [hg]; exact Nat.ne_of_gt (blk_lt (g := gb1x) (o := .cells #[.bool a0_0, .slice A0_1 l0_1.length c0_1] 27 (0, 0)) (zk BK1x.out)) : gb1y ≠ gb1x)); clear BK1x; clear HB; have BK1x := n0_; have HB := n1_; have BK1y := n2_; have GW1y := n3_; have GE1y := n4_; have NB1x_1y := n5_; have NB1y_1x := n6_; clear n0_ n1_ n2_ n3_ n4_ n5_ n6_; clear hb hbox hg) | ((with_reducible refine gate_dst (N := 4) rfl ?_); (try (refine gate_guard (by rfl) ?_; dsimp only)); refine box_event ?hg (N := 4) ?hd (cs := #[.bool false, .slice none 0 0]) (t := 27) ?hr ?_; (case hd => rfl); (case hg => rfl); (case hr => first | (go_simp; done) | (go_simp; rfl)); intro gb1z hg w6 hbox hb; have n0_ := zm (blk_below (g := gb1x) (o := .cells #[.bool a0_0, .slice A0_1 l0_1.length c0_1] 27 (0, 0)) (zk BK1x.out) hb); have n1_ := zm (blk_below (g := gb1y) (o := .cells #[.bool a1_0, .slice A1_1 l1_1.length c1_1] 27 (0, 0)) (zk BK1y.out) hb); have n2_ := zm (below_step zb hb); have n3_ := zm (hbox); have n4_ := zm ((by rw [hg]; exact (below_size zb) : w.heap.size ≤ gb1z)); have n5_ := zm ((by rw [hg]; exact (below_size zb) : w.heap.size ≤ gb1z)); have n6_ := zm ((by rw [hg]; exact Nat.ne_of_lt (blk_lt (g := gb1x) (o := .cells #[.bool a0_0, .slice A0_1 l0_1.length c0_1] 27 (0, 0)) (zk BK1x.out)) : gb1x ≠ gb1z)); have n7_ := zm ((by rw [hg]; exact Nat.ne_of_gt (blk_lt (g := gb1x) (o := .cells #[.bool a0_0, .slice A0_1 l0_1.length c0_1] 27 (0, 0)) (zk BK1x.out)) : gb1z ≠ gb1x)); have n8_ := zm ((by rw [hg]; exact Nat.ne_of_lt (blk_lt (g := gb1y) (o := .cells #[.bool a1_0, .slice A1_1 l1_1.length c1_1] 27 (0, 0)) (zk BK1y.out)) : gb1y ≠ gb1z)); have n9_ := zm ((by rw [hg]; exact Nat.ne_of_gt (blk_lt (g := gb1y) (o := .cells #[.bool a1_0, .slice A1_1 l1_1.length c1_1] 27 (0, 0)) (zk BK1y.out)) : gb1z ≠ gb1y)); clear BK1x; clear BK1y; clear HB; have BK1x := n0_; have BK1y := n1_; have HB := n2_; have BK1z := n3_; have GW1z := n4_; have GE1z := n5_; have NB1x_1z := n6_; have NB1z_1x := n7_; have NB1y_1z := n8_; have NB1z_1y := n9_; clear n0_ n1_ n2_ n3_ n4_ n5_ n6_ n7_ n8_ n9_; clear hb hbox hg) | ((with_reducible refine gate_dst (N := 5) rfl ?_); (try (refine gate_guard (by rfl) ?_; dsimp only)); refine box_event ?hg (N := 5) ?hd (cs := #[.bool false, .slice none 0 0]) (t := 27) ?hr ?_; (case hd => rfl); (case hg => rfl); (case hr => first | (go_simp; done) | (go_simp; rfl)); intro gb2a hg w7 hbox hb; have n0_ := zm (blk_below (g := gb1x) (o := .cells #[.bool a0_0, .slice A0_1 l0_1.length c0_1] 27 (0, 0)) (zk BK1x.out) hb); have n1_ := zm (blk_below (g := gb1y) (o := .cells #[.bool a1_0, .slice A1_1 l1_1.length c1_1] 27 (0, 0)) (zk BK1y.out) hb); have n2_ := zm (blk_below (g := gb1z) (o := .cells #[.bool false, .slice none 0 0] 27 (0, 0)) (zk BK1z.out) hb); have n3_ := zm (below_step zb hb); have n4_ := zm (hbox); have n5_ := zm ((by rw [hg]; exact (below_size zb) : w.heap.size ≤ gb2a)); have n6_ := zm ((by rw [hg]; exact (below_size zb) : w.heap.size ≤ gb2a)); have n7_ := zm ((by rw [hg]; exact Nat.ne_of_lt (blk_lt (g := gb1x) (o := .cells #[.bool a0_0, .slice A0_1 l0_1.length c0_1] 27 (0, 0)) (zk BK1x.out)) : gb1x ≠ gb2a)); have n8_ := zm ((by rw [hg]; exact Nat.ne_of_gt (blk_lt (g := gb1x) (o := .cells #[.bool a0_0, .slice A0_1 l0_1.length c0_1] 27 (0, 0)) (zk BK1x.out)) : gb2a ≠ gb1x)); have n9_ := zm ((by rw [hg]; exact Nat.ne_of_lt (blk_lt (g := gb1y) (o := .cells #[.bool a1_0, .slice A1_1 l1_1.length c1_1] 27 (0, 0)) (zk BK1y.out)) : gb1y ≠ gb2a)); have n10_ := zm ((by rw [hg]; exact Nat.ne_of_gt (blk_lt (g := gb1y) (o := .cells #[.bool a1_0, .slice A1_1 l1_1.length c1_1] 27 (0, 0)) (zk BK1y.out)) : gb2a ≠ gb1y)); have n11_ := zm ((by rw [hg]; exact Nat.ne_of_lt (blk_lt (g := gb1z) (o := .cells #[.bool false, .slice none 0 0] 27 (0, 0)) (zk BK1z.out)) : gb1z ≠ gb2a)); have n12_ := zm ((by rw [hg]; exact Nat.ne_of_gt (blk_lt (g := gb1z) (o := .cells #[.bool false, .slice none 0 0] 27 (0, 0)) (zk BK1z.out)) : gb2a ≠ gb1z)); clear BK1x; clear BK1y; clear BK1z; clear HB; have BK1x := n0_; have BK1y := n1_; have BK1z := n2_; have HB := n3_; have BK2a := n4_; have GW2a := n5_; have GE2a := n6_; have NB1x_2a := n7_; have NB2a_1x := n8_; have NB1y_2a := n9_; have NB2a_1y := n10_; have NB1z_2a := n11_; have NB2a_1z := n12_; clear n0_ n1_ n2_ n3_ n4_ n5_ n6_ n7_ n8_ n9_ n10_ n11_ n12_; clear hb hbox hg))
  (try simp only [Act.put, zs, zs0, zs1])
  go_cut [26] (fun v26 wc => ∃ (kq : Nat) (x26_2 : Bool), v26 = .bool x26_2 ∧ Aside0 (spec_BigDiv.j0 kq x26_2 a0_0 l0_1 a1_0 l1_1 = some (r1, r2, r3, r4, r5)) ∧ Aside0 (kq ≤ k) ∧ Aside0 (wc.heap[gb1x]? = some (.cells #[.bool a0_0, (.slice A0_1 l0_1.length c0_1)] 27 (0, 0))) ∧ Aside0 (wc.heap[gb1y]? = some (.cells #[.bool a1_0, (.slice A1_1 l1_1.length c1_1)] 27 (0, 0))) ∧ Aside0 (wc.heap[gb1z]? = some (.cells #[.bool false, (.slice none 0 0)] 27 (0, 0))) ∧ Aside0 (wc.heap[gb2a]? = some (.cells #[.bool false, (.slice none 0 0)] 27 (0, 0))) ∧ Aside0 (Below w.heap.size w wc))
  case first =>
    have H := HC3.out; clear HC3; replace H := Option.bind_eq_some_iff.mp H; obtain ⟨t2b, A80, H⟩ := H; replace H : (if t2b = true then ((spec_l1Ok.f k a1_0 l1_1).bind fun t2c => (if t2c = true then (spec_BigDiv.j0 k ((l1_1.length : Int) == 0) a0_0 l0_1 a1_0 l1_1) else (spec_BigDiv.j0 k true a0_0 l0_1 a1_0 l1_1))) else (spec_BigDiv.j0 k true a0_0 l0_1 a1_0 l1_1)) = some (r1, r2, r3, r4, r5) := H; have A8 := zm A80; clear A80
    by_cases c9 : t2b = true
    · subst c9
      (have H1 : ((spec_l1Ok.f k a1_0 l1_1).bind fun t2c => (if t2c = true then (spec_BigDiv.j0 k ((l1_1.length : Int) == 0) a0_0 l0_1 a1_0 l1_1) else (spec_BigDiv.j0 k true a0_0 l0_1 a1_0 l1_1))) = some (r1, r2, r3, r4, r5) := by rw [if_pos rfl] at H; exact H); clear H; have H := H1; clear H1; replace H := Option.bind_eq_some_iff.mp H; obtain ⟨t2c, A0a, H⟩ := H; replace H : (if t2c = true then (spec_BigDiv.j0 k ((l1_1.length : Int) == 0) a0_0 l0_1 a1_0 l1_1) else (spec_BigDiv.j0 k true a0_0 l0_1 a1_0 l1_1)) = some (r1, r2, r3, r4, r5) := H; have A10 := zm A0a; clear A0a
      by_cases c11 : t2c = true
      · subst c11
        (have H1 : (spec_BigDiv.j0 k ((l1_1.length : Int) == 0) a0_0 l0_1 a1_0 l1_1) = some (r1, r2, r3, r4, r5) := by rw [if_pos rfl] at H; exact H); clear H; have H := H1; clear H1; have H' := zm H; clear H; have hnb12 := NB1x_1y.out; have hnc12 := NB1y_1x.out; have hnb13 := NB1x_1z.out; have hnc13 := NB1z_1x.out; have hnb14 := NB1x_2a.out; have hnc14 := NB2a_1x.out; have hcz15_0 : w7.cell? ⟨gb1x, 0, none⟩ = some (.bool a0_0) := (blk_cell BK1x.out 0).trans rfl; have hcz15_1 : w7.cell? ⟨gb1x, 1, none⟩ = some (.slice A0_1 l0_1.length c0_1) := (blk_cell BK1x.out 1).trans rfl; have hfz15_0 := blk_frozen BK1x.out 0; have hfz15_1 := blk_frozen BK1x.out 1
        go_wp2_with (first | ((with_reducible refine gate_callee (f := 49) rfl ?_); refine goesL_ (some 14) rfl rfl Try.func49 (by kernel_rfl) rfl #[.agg #[.bool a0_0, .slice A0_1 l0_1.length c0_1]] rfl za ?_; (with_reducible refine (spec_l1Ok.calls k a0_0 _ _ l0_1 true _ ?side1 ?side2 A8.out).mono ?_); (case side1 => exact zc (Kd.C_below HR0_1.out HB.out)); (case side2 => exact HC0_1.out); rintro e w16 ⟨rfl, hb⟩; refine ⟨_, rfl, ?_⟩; have n0_ := zm (blk_below (g := gb1x) (o := .cells #[.bool a0_0, .slice A0_1 l0_1.length c0_1] 27 (0, 0)) (zk BK1x.out) hb); have n1_ := zm (blk_below (g := gb1y) (o := .cells #[.bool a1_0, .slice A1_1 l1_1.length c1_1] 27 (0, 0)) (zk BK1y.out) hb); have n2_ := zm (blk_below (g := gb1z) (o := .cells #[.bool false, .slice none 0 0] 27 (0, 0)) (zk BK1z.out) hb); have n3_ := zm (blk_below (g := gb2a) (o := .cells #[.bool false, .slice none 0 0] 27 (0, 0)) (zk BK2a.out) hb); have n4_ := zm (below_step zb hb); clear BK1x; clear BK1y; clear BK1z; clear BK2a; clear HB; have BK1x := n0_; have BK1y := n1_; have BK1z := n2_; have BK2a := n3_; have HB := n4_; clear n0_ n1_ n2_ n3_ n4_; (try clear hb); (try clear hb2); (try clear hk); (try clear hi); have hnb17 := NB1y_1z.out; have hnc17 := NB1z_1y.out; have hnb18 := NB1y_2a.out; have hnc18 := NB2a_1y.out; have hcz19_0 : w16.cell? ⟨gb1y, 0, none⟩ = some (.bool a1_0) := (blk_cell BK1y.out 0).trans rfl; have hcz19_1 : w16.cell? ⟨gb1y, 1, none⟩ = some (.slice A1_1 l1_1.length c1_1) := (blk_cell BK1y.out 1).trans rfl; have hfz19_0 := blk_frozen BK1y.out 0; have hfz19_1 := blk_frozen BK1y.out 1) | (go_at_call 49; (with_reducible refine (spec_l1Ok.calls k a1_0 _ _ l1_1 true _ ?side1 ?side2 A10.out).mono ?_); (case side1 => exact zc (Kd.C_below HR1_1.out HB.out)); (case side2 => exact HC1_1.out); rintro e w20 ⟨rfl, hb⟩; have n0_ := zm (blk_below (g := gb1x) (o := .cells #[.bool a0_0, .slice A0_1 l0_1.length c0_1] 27 (0, 0)) (zk BK1x.out) hb); have n1_ := zm (blk_below (g := gb1y) (o := .cells #[.bool a1_0, .slice A1_1 l1_1.length c1_1] 27 (0, 0)) (zk BK1y.out) hb); have n2_ := zm (blk_below (g := gb1z) (o := .cells #[.bool false, .slice none 0 0] 27 (0, 0)) (zk BK1z.out) hb); have n3_ := zm (blk_below (g := gb2a) (o := .cells #[.bool false, .slice none 0 0] 27 (0, 0)) (zk BK2a.out) hb); have n4_ := zm (below_step zb hb); clear BK1x; clear BK1y; clear BK1z; clear BK2a; clear HB; have BK1x := n0_; have BK1y := n1_; have BK1z := n2_; have BK2a := n3_; have HB := n4_; clear n0_ n1_ n2_ n3_ n4_; (try clear hb); (try clear hb2); (try clear hk); (try clear hi); have hcz21_0 : w20.cell? ⟨gb1y, 0, none⟩ = some (.bool a1_0) := (blk_cell BK1y.out 0).trans rfl; have hcz21_1 : w20.cell? ⟨gb1y, 1, none⟩ = some (.slice A1_1 l1_1.length c1_1) := (blk_cell BK1y.out 1).trans rfl; have hfz21_0 := blk_frozen BK1y.out 0; have hfz21_1 := blk_frozen BK1y.out 1))
        go_meet
        case rel => exact ⟨_, (((l1_1.length : Int) == 0)), (by first | rfl | (simp; done) | (simp [*]; done)), H', ⟨by first | omega | exact Nat.le_refl _⟩, ⟨by (with_reducible repeat (first | refine blk_drewN ?_ _ | refine blk_drew ?_ | refine blk_alloc ?_ _)); exact BK1x.out⟩, ⟨by (with_reducible repeat (first | refine blk_drewN ?_ _ | refine blk_drew ?_ | refine blk_alloc ?_ _)); exact BK1y.out⟩, ⟨by (with_reducible repeat (first | refine blk_drewN ?_ _ | refine blk_drew ?_ | refine blk_alloc ?_ _)); exact BK1z.out⟩, ⟨by (with_reducible repeat (first | refine blk_drewN ?_ _ | refine blk_drew ?_ | refine blk_alloc ?_ _)); exact BK2a.out⟩, ⟨zb⟩⟩
      · replace c11 := Bool.eq_false_iff.mpr c11
        subst c11; (have H1 : (spec_BigDiv.j0 k true a0_0 l0_1 a1_0 l1_1) = some (r1, r2, r3, r4, r5) := by rw [if_neg (show ¬ (false = true) by decide)] at H; exact H); clear H; have H := H1; clear H1; have H' := zm H; clear H; have hnb22 := NB1x_1y.out; have hnc22 := NB1y_1x.out; have hnb23 := NB1x_1z.out; have hnc23 := NB1z_1x.out; have hnb24 := NB1x_2a.out; have hnc24 := NB2a_1x.out; have hcz25_0 : w7.cell? ⟨gb1x, 0, none⟩ = some (.bool a0_0) := (blk_cell BK1x.out 0).trans rfl; have hcz25_1 : w7.cell? ⟨gb1x, 1, none⟩ = some (.slice A0_1 l0_1.length c0_1) := (blk_cell BK1x.out 1).trans rfl; have hfz25_0 := blk_frozen BK1x.out 0; have hfz25_1 := blk_frozen BK1x.out 1
        go_wp2_with (first | ((with_reducible refine gate_callee (f := 49) rfl ?_); refine goesL_ (some 14) rfl rfl Try.func49 (by kernel_rfl) rfl #[.agg #[.bool a0_0, .slice A0_1 l0_1.length c0_1]] rfl za ?_; (with_reducible refine (spec_l1Ok.calls k a0_0 _ _ l0_1 true _ ?side1 ?side2 A8.out).mono ?_); (case side1 => exact zc (Kd.C_below HR0_1.out HB.out)); (case side2 => exact HC0_1.out); rintro e w26 ⟨rfl, hb⟩; refine ⟨_, rfl, ?_⟩; have n0_ := zm (blk_below (g := gb1x) (o := .cells #[.bool a0_0, .slice A0_1 l0_1.length c0_1] 27 (0, 0)) (zk BK1x.out) hb); have n1_ := zm (blk_below (g := gb1y) (o := .cells #[.bool a1_0, .slice A1_1 l1_1.length c1_1] 27 (0, 0)) (zk BK1y.out) hb); have n2_ := zm (blk_below (g := gb1z) (o := .cells #[.bool false, .slice none 0 0] 27 (0, 0)) (zk BK1z.out) hb); have n3_ := zm (blk_below (g := gb2a) (o := .cells #[.bool false, .slice none 0 0] 27 (0, 0)) (zk BK2a.out) hb); have n4_ := zm (below_step zb hb); clear BK1x; clear BK1y; clear BK1z; clear BK2a; clear HB; have BK1x := n0_; have BK1y := n1_; have BK1z := n2_; have BK2a := n3_; have HB := n4_; clear n0_ n1_ n2_ n3_ n4_; (try clear hb); (try clear hb2); (try clear hk); (try clear hi); have hnb27 := NB1y_1z.out; have hnc27 := NB1z_1y.out; have hnb28 := NB1y_2a.out; have hnc28 := NB2a_1y.out; have hcz29_0 : w26.cell? ⟨gb1y, 0, none⟩ = some (.bool a1_0) := (blk_cell BK1y.out 0).trans rfl; have hcz29_1 : w26.cell? ⟨gb1y, 1, none⟩ = some (.slice A1_1 l1_1.length c1_1) := (blk_cell BK1y.out 1).trans rfl; have hfz29_0 := blk_frozen BK1y.out 0; have hfz29_1 := blk_frozen BK1y.out 1) | (go_at_call 49; (with_reducible refine (spec_l1Ok.calls k a1_0 _ _ l1_1 false _ ?side1 ?side2 A10.out).mono ?_); (case side1 => exact zc (Kd.C_below HR1_1.out HB.out)); (case side2 => exact HC1_1.out); rintro e w30 ⟨rfl, hb⟩; have n0_ := zm (blk_below (g := gb1x) (o := .cells #[.bool a0_0, .slice A0_1 l0_1.length c0_1] 27 (0, 0)) (zk BK1x.out) hb); have n1_ := zm (blk_below (g := gb1y) (o := .cells #[.bool a1_0, .slice A1_1 l1_1.length c1_1] 27 (0, 0)) (zk BK1y.out) hb); have n2_ := zm (blk_below (g := gb1z) (o := .cells #[.bool false, .slice none 0 0] 27 (0, 0)) (zk BK1z.out) hb); have n3_ := zm (blk_below (g := gb2a) (o := .cells #[.bool false, .slice none 0 0] 27 (0, 0)) (zk BK2a.out) hb); have n4_ := zm (below_step zb hb); clear BK1x; clear BK1y; clear BK1z; clear BK2a; clear HB; have BK1x := n0_; have BK1y := n1_; have BK1z := n2_; have BK2a := n3_; have HB := n4_; clear n0_ n1_ n2_ n3_ n4_; (try clear hb); (try clear hb2); (try clear hk); (try clear hi)))
        go_meet
        case rel => exact ⟨_, (true), (by first | rfl | (simp; done) | (simp [*]; done)), H', ⟨by first | omega | exact Nat.le_refl _⟩, ⟨by (with_reducible repeat (first | refine blk_drewN ?_ _ | refine blk_drew ?_ | refine blk_alloc ?_ _)); exact BK1x.out⟩, ⟨by (with_reducible repeat (first | refine blk_drewN ?_ _ | refine blk_drew ?_ | refine blk_alloc ?_ _)); exact BK1y.out⟩, ⟨by (with_reducible repeat (first | refine blk_drewN ?_ _ | refine blk_drew ?_ | refine blk_alloc ?_ _)); exact BK1z.out⟩, ⟨by (with_reducible repeat (first | refine blk_drewN ?_ _ | refine blk_drew ?_ | refine blk_alloc ?_ _)); exact BK2a.out⟩, ⟨zb⟩⟩
    · replace c9 := Bool.eq_false_iff.mpr c9
      subst c9; (have H1 : (spec_BigDiv.j0 k true a0_0 l0_1 a1_0 l1_1) = some (r1, r2, r3, r4, r5) := by rw [if_neg (show ¬ (false = true) by decide)] at H; exact H); clear H; have H := H1; clear H1; have H' := zm H; clear H; have hnb31 := NB1x_1y.out; have hnc31 := NB1y_1x.out; have hnb32 := NB1x_1z.out; have hnc32 := NB1z_1x.out; have hnb33 := NB1x_2a.out; have hnc33 := NB2a_1x.out; have hcz34_0 : w7.cell? ⟨gb1x, 0, none⟩ = some (.bool a0_0) := (blk_cell BK1x.out 0).trans rfl; have hcz34_1 : w7.cell? ⟨gb1x, 1, none⟩ = some (.slice A0_1 l0_1.length c0_1) := (blk_cell BK1x.out 1).trans rfl; have hfz34_0 := blk_frozen BK1x.out 0; have hfz34_1 := blk_frozen BK1x.out 1
      go_wp2_with (first | ((with_reducible refine gate_callee (f := 49) rfl ?_); refine goesL_ (some 14) rfl rfl Try.func49 (by kernel_rfl) rfl #[.agg #[.bool a0_0, .slice A0_1 l0_1.length c0_1]] rfl za ?_; (with_reducible refine (spec_l1Ok.calls k a0_0 _ _ l0_1 false _ ?side1 ?side2 A8.out).mono ?_); (case side1 => exact zc (Kd.C_below HR0_1.out HB.out)); (case side2 => exact HC0_1.out); rintro e w35 ⟨rfl, hb⟩; refine ⟨_, rfl, ?_⟩; have n0_ := zm (blk_below (g := gb1x) (o := .cells #[.bool a0_0, .slice A0_1 l0_1.length c0_1] 27 (0, 0)) (zk BK1x.out) hb); have n1_ := zm (blk_below (g := gb1y) (o := .cells #[.bool a1_0, .slice A1_1 l1_1.length c1_1] 27 (0, 0)) (zk BK1y.out) hb); have n2_ := zm (blk_below (g := gb1z) (o := .cells #[.bool false, .slice none 0 0] 27 (0, 0)) (zk BK1z.out) hb); have n3_ := zm (blk_below (g := gb2a) (o := .cells #[.bool false, .slice none 0 0] 27 (0, 0)) (zk BK2a.out) hb); have n4_ := zm (below_step zb hb); clear BK1x; clear BK1y; clear BK1z; clear BK2a; clear HB; have BK1x := n0_; have BK1y := n1_; have BK1z := n2_; have BK2a := n3_; have HB := n4_; clear n0_ n1_ n2_ n3_ n4_; (try clear hb); (try clear hb2); (try clear hk); (try clear hi)))
      go_meet
      case rel => exact ⟨_, (true), (by first | rfl | (simp; done) | (simp [*]; done)), H', ⟨by first | omega | exact Nat.le_refl _⟩, ⟨by (with_reducible repeat (first | refine blk_drewN ?_ _ | refine blk_drew ?_ | refine blk_alloc ?_ _)); exact BK1x.out⟩, ⟨by (with_reducible repeat (first | refine blk_drewN ?_ _ | refine blk_drew ?_ | refine blk_alloc ?_ _)); exact BK1y.out⟩, ⟨by (with_reducible repeat (first | refine blk_drewN ?_ _ | refine blk_drew ?_ | refine blk_alloc ?_ _)); exact BK1z.out⟩, ⟨by (with_reducible repeat (first | refine blk_drewN ?_ _ | refine blk_drew ?_ | refine blk_alloc ?_ _)); exact BK2a.out⟩, ⟨zb⟩⟩
  case rest =>
    clear HC3; (try clear c1); (try clear c2); (try clear p2); (try clear c3); (try clear c4); (try clear c9); (try clear c11); (try clear c12); (try clear c13); (try clear c14); (try clear c17); (try clear c18); (try clear c22); (try clear c23); (try clear c24); (try clear c27); (try clear c28); (try clear c31); (try clear c32); (try clear c33); (try clear hcz15_0); (try clear hcz15_1); (try clear hcz19_0); (try clear hcz19_1); (try clear hcz21_0); (try clear hcz21_1); (try clear hcz25_0); (try clear hcz25_1); (try clear hcz29_0); (try clear hcz29_1); (try clear hcz34_0); (try clear hcz34_1); (try clear hfz15_0); (try clear hfz15_1); (try clear hfz19_0); (try clear hfz19_1); (try clear hfz21_0); (try clear hfz21_1); (try clear hfz25_0); (try clear hfz25_1); (try clear hfz29_0); (try clear hfz29_1); (try clear hfz34_0); (try clear hfz34_1); obtain ⟨kq, x26_2, rfl, HA, HJ2, BK1x, BK1y, BK1z, BK2a, HB⟩ := hcut
    cases kq with
    | zero => exact absurd HA.out (by simp [spec_BigDiv.j0])
    | succ kj2 =>
      have H := HA.out; clear HA; simp only [spec_BigDiv.j0] at H
      by_cases c36 : x26_2 = true
      · subst c36
        (have H1 : (some (false, ([] : List Int), false, ([] : List Int), false)) = some (r1, r2, r3, r4, r5) := by rw [if_pos rfl] at H; exact H); clear H; have H := H1; clear H1; simp only [Option.some.injEq, Prod.mk.injEq] at H; obtain ⟨rfl, rfl, rfl, rfl, rfl⟩ := H; have hnb37 := NB1z_1x.out; have hnc37 := NB1x_1z.out; have hnb38 := NB1z_1y.out; have hnc38 := NB1y_1z.out; have hnb39 := NB1z_2a.out; have hnc39 := NB2a_1z.out; have hcz40_0 : wc.cell? ⟨gb1z, 0, none⟩ = some (.bool false) := (blk_cell BK1z.out 0).trans rfl; have hcz40_1 : wc.cell? ⟨gb1z, 1, none⟩ = some (.slice none 0 0) := (blk_cell BK1z.out 1).trans rfl; have hfz40_0 := blk_frozen BK1z.out 0; have hfz40_1 := blk_frozen BK1z.out 1; have hnb41 := NB2a_1x.out; have hnc41 := NB1x_2a.out; have hnb42 := NB2a_1y.out; have hnc42 := NB1y_2a.out; have hcz43_0 : wc.cell? ⟨gb2a, 0, none⟩ = some (.bool false) := (blk_cell BK2a.out 0).trans rfl; have hcz43_1 : wc.cell? ⟨gb2a, 1, none⟩ = some (.slice none 0 0) := (blk_cell BK2a.out 1).trans rfl; have hfz43_0 := blk_frozen BK2a.out 0; have hfz43_1 := blk_frozen BK2a.out 1
        go_wp2
        (refine bodyPost_ret (results_list (rs := [.cell 4 27, .cell 5 27, .tmp 6]) rfl (by simp) (.cell gb1z 27 #[.bool false, .slice none 0 0] (0, 0) _ rfl (by (with_reducible repeat (first | refine blk_drewN ?_ _ | refine blk_drew ?_ | refine blk_alloc ?_ _)); refine blk_far ?_ NB1z_2a.out _; (with_reducible repeat (first | refine blk_drewN ?_ _ | refine blk_drew ?_ | refine blk_alloc ?_ _)); refine blk_far ?_ NB1z_2a.out _; (with_reducible repeat (first | refine blk_drewN ?_ _ | refine blk_drew ?_ | refine blk_alloc ?_ _)); refine blk_put (cs := #[.bool false, .slice none 0 0]) ?_ 1 _ rfl; (with_reducible repeat (first | refine blk_drewN ?_ _ | refine blk_drew ?_ | refine blk_alloc ?_ _)); refine blk_put (cs := #[.bool false, .slice none 0 0]) ?_ 0 _ rfl; (with_reducible repeat (first | refine blk_drewN ?_ _ | refine blk_drew ?_ | refine blk_alloc ?_ _)); exact BK1z.out) Try.underlying27 rfl (by kernel_rfl) (.cell gb2a 27 #[.bool false, .slice none 0 0] (0, 0) _ rfl (by (with_reducible repeat (first | refine blk_drewN ?_ _ | refine blk_drew ?_ | refine blk_alloc ?_ _)); refine blk_put (cs := #[.bool false, .slice none 0 0]) ?_ 1 _ rfl; (with_reducible repeat (first | refine blk_drewN ?_ _ | refine blk_drew ?_ | refine blk_alloc ?_ _)); refine blk_put (cs := #[.bool false, .slice none 0 0]) ?_ 0 _ rfl; (with_reducible repeat (first | refine blk_drewN ?_ _ | refine blk_drew ?_ | refine blk_alloc ?_ _)); refine blk_far ?_ NB2a_1z.out _; (with_reducible repeat (first | refine blk_drewN ?_ _ | refine blk_drew ?_ | refine blk_alloc ?_ _)); refine blk_far ?_ NB2a_1z.out _; (with_reducible repeat (first | refine blk_drewN ?_ _ | refine blk_drew ?_ | refine blk_alloc ?_ _)); exact BK2a.out) Try.underlying27 rfl (by kernel_rfl) (.tmp .nil)))) rfl ?_); (exact ⟨_, _, by first | rfl | (simp [errW_none, errW_some] <;> rfl) | (simp [*, errW_none, errW_some] <;> rfl), by first | exact Kd.R_nil _ _ _ _ _ | exact Kd.N_nil _ _ _ _ _ | exact Kd.V_nil _ _ _ _ _ | exact Kd.Q_nil _ _ _ _ _ | exact Kd.S_nil _ _ _ _ _, by first | exact Kd.R_nil _ _ _ _ _ | exact Kd.N_nil _ _ _ _ _ | exact Kd.V_nil _ _ _ _ _ | exact Kd.Q_nil _ _ _ _ _ | exact Kd.S_nil _ _ _ _ _, zb⟩)
      · replace c36 := Bool.eq_false_iff.mpr c36
        subst c36; (have H1 : ((spec_l1DivAbs.f kj2 l0_1 l1_1).bind fun bt2d => ((spec_l1Big.f kj2 (a0_0 != a1_0) bt2d.1).bind fun bt2j => ((spec_l1Big.f kj2 a0_0 bt2d.2).bind fun bt2p => (some (bt2j.1, bt2j.2.1, bt2p.1, bt2p.2.1, true))))) = some (r1, r2, r3, r4, r5) := by rw [if_neg (show ¬ (false = true) by decide)] at H; exact H); clear H; have H := H1; clear H1; replace H := Option.bind_eq_some_iff.mp H; obtain ⟨⟨t2d, t2e⟩, A0h, H⟩ := H; replace H : ((spec_l1Big.f kj2 (a0_0 != a1_0) t2d).bind fun bt2j => ((spec_l1Big.f kj2 a0_0 t2e).bind fun bt2p => (some (bt2j.1, bt2j.2.1, bt2p.1, bt2p.2.1, true)))) = some (r1, r2, r3, r4, r5) := H; have A44 := zm A0h; clear A0h; replace H := Option.bind_eq_some_iff.mp H; obtain ⟨⟨t2j, t2k, t2n⟩, A0i, H⟩ := H; replace H : ((spec_l1Big.f kj2 a0_0 t2e).bind fun bt2p => (some (t2j, t2k, bt2p.1, bt2p.2.1, true))) = some (r1, r2, r3, r4, r5) := H; have A45 := zm A0i; clear A0i; replace H := Option.bind_eq_some_iff.mp H; obtain ⟨⟨t2p, t2q, t2t⟩, A0j, H⟩ := H; replace H : (some (t2j, t2k, t2p, t2q, true)) = some (r1, r2, r3, r4, r5) := H; have A46 := zm A0j; clear A0j; simp only [Option.some.injEq, Prod.mk.injEq] at H; obtain ⟨rfl, rfl, rfl, rfl, rfl⟩ := H; have hnb47 := NB1x_1y.out; have hnc47 := NB1y_1x.out; have hnb48 := NB1x_1z.out; have hnc48 := NB1z_1x.out; have hnb49 := NB1x_2a.out; have hnc49 := NB2a_1x.out; have hcz50_0 : wc.cell? ⟨gb1x, 0, none⟩ = some (.bool a0_0) := (blk_cell BK1x.out 0).trans rfl; have hcz50_1 : wc.cell? ⟨gb1x, 1, none⟩ = some (.slice A0_1 l0_1.length c0_1) := (blk_cell BK1x.out 1).trans rfl; have hfz50_0 := blk_frozen BK1x.out 0; have hfz50_1 := blk_frozen BK1x.out 1; have hnb51 := NB1y_1z.out; have hnc51 := NB1z_1y.out; have hnb52 := NB1y_2a.out; have hnc52 := NB2a_1y.out; have hcz53_0 : wc.cell? ⟨gb1y, 0, none⟩ = some (.bool a1_0) := (blk_cell BK1y.out 0).trans rfl; have hcz53_1 : wc.cell? ⟨gb1y, 1, none⟩ = some (.slice A1_1 l1_1.length c1_1) := (blk_cell BK1y.out 1).trans rfl; have hfz53_0 := blk_frozen BK1y.out 0; have hfz53_1 := blk_frozen BK1y.out 1
        try go_wp2_with (first | ((with_reducible refine gate_callee (f := 79) rfl ?_); refine goesL_ (some 34) rfl rfl Try.func79 (by kernel_rfl) rfl #[.slice A0_1 l0_1.length c0_1, .slice A1_1 l1_1.length c1_1] rfl za ?_; (with_reducible refine (spec_l1DivAbs.calls kj2 _ _ l0_1 _ _ l1_1 t2d t2e _ ?side1 ?side2 ?side3 ?side4 A44.out).mono ?_); (case side1 => exact zc (Kd.C_below HR0_1.out HB.out)); (case side2 => exact HC0_1.out); (case side3 => exact zc (Kd.C_below HR1_1.out HB.out)); (case side4 => exact HC1_1.out); rintro e w54 ⟨v2f, v2h, rfl, ho0, ho1, hb⟩; refine ⟨_, rfl, ?_⟩; have n0_ := zm (Kd.R_lower ho0 (below_size zb)); have n1_ := zm (Kd.R_lower ho1 (below_size zb)); have n2_ := zm (blk_below (g := gb1x) (o := .cells #[.bool a0_0, .slice A0_1 l0_1.length c0_1] 27 (0, 0)) (zk BK1x.out) hb); have n3_ := zm (blk_below (g := gb1y) (o := .cells #[.bool a1_0, .slice A1_1 l1_1.length c1_1] 27 (0, 0)) (zk BK1y.out) hb); have n4_ := zm (blk_below (g := gb1z) (o := .cells #[.bool false, .slice none 0 0] 27 (0, 0)) (zk BK1z.out) hb); have n5_ := zm (blk_below (g := gb2a) (o := .cells #[.bool false, .slice none 0 0] 27 (0, 0)) (zk BK2a.out) hb); have n6_ := zm (below_step zb hb); clear BK1x; clear BK1y; clear BK1z; clear BK2a; clear HB; have HO2g := n0_; have HO2i := n1_; have BK1x := n2_; have BK1y := n3_; have BK1z := n4_; have BK2a := n5_; have HB := n6_; clear n0_ n1_ n2_ n3_ n4_ n5_ n6_; (try clear hb); (try clear hb2); (try clear hk); (try clear hi); (try clear ho0); (try clear ho1); have hcz55_0 : w54.cell? ⟨gb1x, 0, none⟩ = some (.bool a0_0) := (blk_cell BK1x.out 0).trans rfl; have hcz55_1 : w54.cell? ⟨gb1x, 1, none⟩ = some (.slice A0_1 l0_1.length c0_1) := (blk_cell BK1x.out 1).trans rfl; have hfz55_0 := blk_frozen BK1x.out 0; have hfz55_1 := blk_frozen BK1x.out 1; have hcz56_0 : w54.cell? ⟨gb1y, 0, none⟩ = some (.bool a1_0) := (blk_cell BK1y.out 0).trans rfl; have hcz56_1 : w54.cell? ⟨gb1y, 1, none⟩ = some (.slice A1_1 l1_1.length c1_1) := (blk_cell BK1y.out 1).trans rfl; have hfz56_0 := blk_frozen BK1y.out 0; have hfz56_1 := blk_frozen BK1y.out 1; obtain ⟨Ao57, co57, eo57⟩ := Kd.R_slice HO2g.out; subst eo57) | ((with_reducible refine gate_callee (f := 60) rfl ?_); refine goesL_ (some 44) rfl rfl Try.func60 (by kernel_rfl) rfl #[.bool (a0_0 != a1_0), .slice Ao57 t2d.length co57] rfl za ?_; (with_reducible refine (spec_l1Big.calls kj2 (a0_0 != a1_0) _ _ t2d t2j t2k t2n _ ?side1 ?side2 A45.out).mono ?_); (case side1 => exact zc (Kd.R_reads' HO2g.out).2.2); (case side2 => exact (Kd.R_reads' HO2g.out).2.1); rintro e w58 ⟨v2l, rfl, ho0, hb⟩; refine ⟨_, rfl, ?_⟩; have n0_ := zm (Kd.R_elder' (zR HO2g.out) (Kd.R_base ho0) hb); have n1_ := zm (Kd.R_elder' (zR HO2i.out) (Kd.R_base ho0) hb); have n2_ := zm (Kd.R_lower (Kd.R_new' (Kd.R_new' ho0 (Kd.R_lt (zR HO2g.out))) (Kd.R_lt (zR HO2i.out))) (below_size zb)); have n3_ := zm (blk_below (g := gb1x) (o := .cells #[.bool a0_0, .slice A0_1 l0_1.length c0_1] 27 (0, 0)) (zk BK1x.out) hb); have n4_ := zm (blk_below (g := gb1y) (o := .cells #[.bool a1_0, .slice A1_1 l1_1.length c1_1] 27 (0, 0)) (zk BK1y.out) hb); have n5_ := zm (blk_below (g := gb1z) (o := .cells #[.bool false, .slice none 0 0] 27 (0, 0)) (zk BK1z.out) hb); have n6_ := zm (blk_below (g := gb2a) (o := .cells #[.bool false, .slice none 0 0] 27 (0, 0)) (zk BK2a.out) hb); have n7_ := zm (below_step zb hb); clear HO2g; clear HO2i; clear BK1x; clear BK1y; clear BK1z; clear BK2a; clear HB; have HO2g := n0_; have HO2i := n1_; have HO2m := n2_; have BK1x := n3_; have BK1y := n4_; have BK1z := n5_; have BK2a := n6_; have HB := n7_; clear n0_ n1_ n2_ n3_ n4_ n5_ n6_ n7_; (try clear hb); (try clear hb2); (try clear hk); (try clear hi); (try clear ho0)) | ((with_reducible refine gate_dst (N := 9) rfl ?_); (try (refine gate_guard (by rfl) ?_; dsimp only)); refine box_event ?hg (N := 9) ?hd (cs := #[.bool false, .slice none 0 0]) (t := 27) ?hr ?_; (case hd => rfl); (case hg => rfl); (case hr => first | (go_simp; done) | (go_simp; rfl)); intro gb2o hg w59 hbox hb; have n0_ := zm (Kd.R_below (zR HO2g.out) hb); have n1_ := zm (Kd.R_below (zR HO2i.out) hb); have n2_ := zm (Kd.R_below (zR HO2m.out) hb); have n3_ := zm (blk_below (g := gb1x) (o := .cells #[.bool a0_0, .slice A0_1 l0_1.length c0_1] 27 (0, 0)) (zk BK1x.out) hb); have n4_ := zm (blk_below (g := gb1y) (o := .cells #[.bool a1_0, .slice A1_1 l1_1.length c1_1] 27 (0, 0)) (zk BK1y.out) hb); have n5_ := zm (blk_below (g := gb1z) (o := .cells #[.bool false, .slice none 0 0] 27 (0, 0)) (zk BK1z.out) hb); have n6_ := zm (blk_below (g := gb2a) (o := .cells #[.bool false, .slice none 0 0] 27 (0, 0)) (zk BK2a.out) hb); have n7_ := zm (below_step zb hb); have n8_ := zm (hbox); have n9_ := zm ((by rw [hg]; exact (below_size zb) : w.heap.size ≤ gb2o)); have n10_ := zm ((by rw [hg]; exact (below_size zb) : w.heap.size ≤ gb2o)); have n11_ := zm ((by rw [hg]; exact Nat.ne_of_lt (blk_lt (g := gb1x) (o := .cells #[.bool a0_0, .slice A0_1 l0_1.length c0_1] 27 (0, 0)) (zk BK1x.out)) : gb1x ≠ gb2o)); have n12_ := zm ((by rw [hg]; exact Nat.ne_of_gt (blk_lt (g := gb1x) (o := .cells #[.bool a0_0, .slice A0_1 l0_1.length c0_1] 27 (0, 0)) (zk BK1x.out)) : gb2o ≠ gb1x)); have n13_ := zm ((by rw [hg]; exact Nat.ne_of_lt (blk_lt (g := gb1y) (o := .cells #[.bool a1_0, .slice A1_1 l1_1.length c1_1] 27 (0, 0)) (zk BK1y.out)) : gb1y ≠ gb2o)); have n14_ := zm ((by rw [hg]; exact Nat.ne_of_gt (blk_lt (g := gb1y) (o := .cells #[.bool a1_0, .slice A1_1 l1_1.length c1_1] 27 (0, 0)) (zk BK1y.out)) : gb2o ≠ gb1y)); have n15_ := zm ((by rw [hg]; exact Nat.ne_of_lt (blk_lt (g := gb1z) (o := .cells #[.bool false, .slice none 0 0] 27 (0, 0)) (zk BK1z.out)) : gb1z ≠ gb2o)); have n16_ := zm ((by rw [hg]; exact Nat.ne_of_gt (blk_lt (g := gb1z) (o := .cells #[.bool false, .slice none 0 0] 27 (0, 0)) (zk BK1z.out)) : gb2o ≠ gb1z)); have n17_ := zm ((by rw [hg]; exact Nat.ne_of_lt (blk_lt (g := gb2a) (o := .cells #[.bool false, .slice none 0 0] 27 (0, 0)) (zk BK2a.out)) : gb2a ≠ gb2o)); have n18_ := zm ((by rw [hg]; exact Nat.ne_of_gt (blk_lt (g := gb2a) (o := .cells #[.bool false, .slice none 0 0] 27 (0, 0)) (zk BK2a.out)) : gb2o ≠ gb2a)); clear HO2g; clear HO2i; clear HO2m; clear BK1x; clear BK1y; clear BK1z; clear BK2a; clear HB; have HO2g := n0_; have HO2i := n1_; have HO2m := n2_; have BK1x := n3_; have BK1y := n4_; have BK1z := n5_; have BK2a := n6_; have HB := n7_; have BK2o := n8_; have GW2o := n9_; have GE2o := n10_; have NB1x_2o := n11_; have NB2o_1x := n12_; have NB1y_2o := n13_; have NB2o_1y := n14_; have NB1z_2o := n15_; have NB2o_1z := n16_; have NB2a_2o := n17_; have NB2o_2a := n18_; clear n0_ n1_ n2_ n3_ n4_ n5_ n6_ n7_ n8_ n9_ n10_ n11_ n12_ n13_ n14_ n15_ n16_ n17_ n18_; clear hb hbox hg; have hnb60 := NB2o_1x.out; have hnc60 := NB1x_2o.out; have hnb61 := NB2o_1y.out; have hnc61 := NB1y_2o.out; have hnb62 := NB2o_1z.out; have hnc62 := NB1z_2o.out; have hnb63 := NB2o_2a.out; have hnc63 := NB2a_2o.out; have hcz64_0 : w59.cell? ⟨gb2o, 0, none⟩ = some (.bool false) := (blk_cell BK2o.out 0).trans rfl; have hcz64_1 : w59.cell? ⟨gb2o, 1, none⟩ = some (.slice none 0 0) := (blk_cell BK2o.out 1).trans rfl; have hfz64_0 := blk_frozen BK2o.out 0; have hfz64_1 := blk_frozen BK2o.out 1; obtain ⟨Ao65, co65, eo65⟩ := Kd.R_slice HO2m.out; subst eo65; have hcz66_0 : w59.cell? ⟨gb1x, 0, none⟩ = some (.bool a0_0) := (blk_cell BK1x.out 0).trans rfl; have hcz66_1 : w59.cell? ⟨gb1x, 1, none⟩ = some (.slice A0_1 l0_1.length c0_1) := (blk_cell BK1x.out 1).trans rfl; have hfz66_0 := blk_frozen BK1x.out 0; have hfz66_1 := blk_frozen BK1x.out 1; obtain ⟨Ao67, co67, eo67⟩ := Kd.R_slice HO2i.out; subst eo67) | ((with_reducible refine gate_callee (f := 60) rfl ?_); refine goesL_ (some 51) rfl rfl Try.func60 (by kernel_rfl) rfl #[.bool a0_0, .slice Ao67 t2e.length co67] rfl za ?_; (with_reducible refine (spec_l1Big.calls kj2 a0_0 _ _ t2e t2p t2q t2t _ ?side1 ?side2 A46.out).mono ?_); (case side1 => refine (Kd.R_reads' (e := 3) (base := w.heap.size) (ok := fun k_ => (some k_ ≠ (.slice Ao57 t2d.length co57 : Value).ownBlock ∧ some k_ ≠ (.slice Ao65 t2k.length co65 : Value).ownBlock)) (n := t2e.length) (c := co67) ?_).2.2; exact (zR ((Kd.R_mono (Kd.R_far (p := ⟨gb2o, 1, none⟩) (Kd.R_far (p := ⟨gb2o, 0, none⟩) (Kd.R_types HO2i.out BK2o.out (by decide)) (fun _ hk => hk.2) (.bool t2j)) (fun _ hk => hk.2) (.slice Ao65 t2k.length co65)) (fun _ h_ => h_.1))))); (case side2 => exact (Kd.R_reads' HO2i.out).2.1); rintro e w68 ⟨v2r, rfl, ho0, hb⟩; refine ⟨_, rfl, ?_⟩; have n0_ := zm (Kd.R_elder' (zR ((Kd.R_mono (Kd.R_far (p := ⟨gb2o, 1, none⟩) (Kd.R_far (p := ⟨gb2o, 0, none⟩) (Kd.R_types HO2g.out BK2o.out (by decide)) (fun _ hk => hk.2) (.bool t2j)) (fun _ hk => hk.2) (.slice Ao65 t2k.length co65)) (fun _ h_ => h_.1)))) (Kd.R_base ho0) hb); have n1_ := zm (Kd.R_elder' (zR ((Kd.R_mono (Kd.R_far (p := ⟨gb2o, 1, none⟩) (Kd.R_far (p := ⟨gb2o, 0, none⟩) (Kd.R_types HO2i.out BK2o.out (by decide)) (fun _ hk => hk.2) (.bool t2j)) (fun _ hk => hk.2) (.slice Ao65 t2k.length co65)) (fun _ h_ => h_.1)))) (Kd.R_base ho0) hb); have n2_ := zm (Kd.R_elder' (zR ((Kd.R_mono (Kd.R_far (p := ⟨gb2o, 1, none⟩) (Kd.R_far (p := ⟨gb2o, 0, none⟩) (Kd.R_types HO2m.out BK2o.out (by decide)) (fun _ hk => hk.2) (.bool t2j)) (fun _ hk => hk.2) (.slice Ao65 t2k.length co65)) (fun _ h_ => h_.1)))) (Kd.R_base ho0) hb); have n3_ := zm (Kd.R_lower (Kd.R_new' (Kd.R_new' (Kd.R_new' ho0 (Kd.R_lt (zR ((Kd.R_mono (Kd.R_far (p := ⟨gb2o, 1, none⟩) (Kd.R_far (p := ⟨gb2o, 0, none⟩) (Kd.R_types HO2g.out BK2o.out (by decide)) (fun _ hk => hk.2) (.bool t2j)) (fun _ hk => hk.2) (.slice Ao65 t2k.length co65)) (fun _ h_ => h_.1)))))) (Kd.R_lt (zR ((Kd.R_mono (Kd.R_far (p := ⟨gb2o, 1, none⟩) (Kd.R_far (p := ⟨gb2o, 0, none⟩) (Kd.R_types HO2i.out BK2o.out (by decide)) (fun _ hk => hk.2) (.bool t2j)) (fun _ hk => hk.2) (.slice Ao65 t2k.length co65)) (fun _ h_ => h_.1)))))) (Kd.R_lt (zR ((Kd.R_mono (Kd.R_far (p := ⟨gb2o, 1, none⟩) (Kd.R_far (p := ⟨gb2o, 0, none⟩) (Kd.R_types HO2m.out BK2o.out (by decide)) (fun _ hk => hk.2) (.bool t2j)) (fun _ hk => hk.2) (.slice Ao65 t2k.length co65)) (fun _ h_ => h_.1)))))) (below_size zb)); have n4_ := zm (blk_below (g := gb1x) (o := .cells #[.bool a0_0, .slice A0_1 l0_1.length c0_1] 27 (0, 0)) (zk BK1x.out) hb); have n5_ := zm (blk_below (g := gb1y) (o := .cells #[.bool a1_0, .slice A1_1 l1_1.length c1_1] 27 (0, 0)) (zk BK1y.out) hb); have n6_ := zm (blk_below (g := gb1z) (o := .cells #[.bool false, .slice none 0 0] 27 (0, 0)) (zk BK1z.out) hb); have n7_ := zm (blk_below (g := gb2a) (o := .cells #[.bool false, .slice none 0 0] 27 (0, 0)) (zk BK2a.out) hb); have n8_ := zm (blk_below (g := gb2o) (o := .cells #[.bool t2j, .slice Ao65 t2k.length co65] 27 (0, 0)) (by (with_reducible repeat (first | refine blk_drewN ?_ _ | refine blk_drew ?_ | refine blk_alloc ?_ _)); refine blk_put (cs := #[.bool t2j, .slice none 0 0]) ?_ 1 _ rfl; (with_reducible repeat (first | refine blk_drewN ?_ _ | refine blk_drew ?_ | refine blk_alloc ?_ _)); refine blk_put (cs := #[.bool false, .slice none 0 0]) ?_ 0 _ rfl; (with_reducible repeat (first | refine blk_drewN ?_ _ | refine blk_drew ?_ | refine blk_alloc ?_ _)); exact BK2o.out) hb); have n9_ := zm (below_step zb hb); clear HO2g; clear HO2i; clear HO2m; clear BK1x; clear BK1y; clear BK1z; clear BK2a; clear BK2o; clear HB; have HO2g := n0_; have HO2i := n1_; have HO2m := n2_; have HO2s := n3_; have BK1x := n4_; have BK1y := n5_; have BK1z := n6_; have BK2a := n7_; have BK2o := n8_; have HB := n9_; clear n0_ n1_ n2_ n3_ n4_ n5_ n6_ n7_ n8_ n9_; (try clear hb); (try clear hb2); (try clear hk); (try clear hi); (try clear ho0)) | ((with_reducible refine gate_dst (N := 11) rfl ?_); (try (refine gate_guard (by rfl) ?_; dsimp only)); refine box_event ?hg (N := 11) ?hd (cs := #[.bool false, .slice none 0 0]) (t := 27) ?hr ?_; (case hd => rfl); (case hg => rfl); (case hr => first | (go_simp; done) | (go_simp; rfl)); intro gb2u hg w69 hbox hb; have n0_ := zm (Kd.R_below (zR HO2g.out) hb); have n1_ := zm (Kd.R_below (zR HO2i.out) hb); have n2_ := zm (Kd.R_below (zR HO2m.out) hb); have n3_ := zm (Kd.R_below (zR HO2s.out) hb); have n4_ := zm (blk_below (g := gb1x) (o := .cells #[.bool a0_0, .slice A0_1 l0_1.length c0_1] 27 (0, 0)) (zk BK1x.out) hb); have n5_ := zm (blk_below (g := gb1y) (o := .cells #[.bool a1_0, .slice A1_1 l1_1.length c1_1] 27 (0, 0)) (zk BK1y.out) hb); have n6_ := zm (blk_below (g := gb1z) (o := .cells #[.bool false, .slice none 0 0] 27 (0, 0)) (zk BK1z.out) hb); have n7_ := zm (blk_below (g := gb2a) (o := .cells #[.bool false, .slice none 0 0] 27 (0, 0)) (zk BK2a.out) hb); have n8_ := zm (blk_below (g := gb2o) (o := .cells #[.bool t2j, .slice Ao65 t2k.length co65] 27 (0, 0)) (zk BK2o.out) hb); have n9_ := zm (below_step zb hb); have n10_ := zm (hbox); have n11_ := zm ((by rw [hg]; exact (below_size zb) : w.heap.size ≤ gb2u)); have n12_ := zm ((by rw [hg]; exact (below_size zb) : w.heap.size ≤ gb2u)); have n13_ := zm ((by rw [hg]; exact Nat.ne_of_lt (blk_lt (g := gb1x) (o := .cells #[.bool a0_0, .slice A0_1 l0_1.length c0_1] 27 (0, 0)) (zk BK1x.out)) : gb1x ≠ gb2u)); have n14_ := zm ((by rw [hg]; exact Nat.ne_of_gt (blk_lt (g := gb1x) (o := .cells #[.bool a0_0, .slice A0_1 l0_1.length c0_1] 27 (0, 0)) (zk BK1x.out)) : gb2u ≠ gb1x)); have n15_ := zm ((by rw [hg]; exact Nat.ne_of_lt (blk_lt (g := gb1y) (o := .cells #[.bool a1_0, .slice A1_1 l1_1.length c1_1] 27 (0, 0)) (zk BK1y.out)) : gb1y ≠ gb2u)); have n16_ := zm ((by rw [hg]; exact Nat.ne_of_gt (blk_lt (g := gb1y) (o := .cells #[.bool a1_0, .slice A1_1 l1_1.length c1_1] 27 (0, 0)) (zk BK1y.out)) : gb2u ≠ gb1y)); have n17_ := zm ((by rw [hg]; exact Nat.ne_of_lt (blk_lt (g := gb1z) (o := .cells #[.bool false, .slice none 0 0] 27 (0, 0)) (zk BK1z.out)) : gb1z ≠ gb2u)); have n18_ := zm ((by rw [hg]; exact Nat.ne_of_gt (blk_lt (g := gb1z) (o := .cells #[.bool false, .slice none 0 0] 27 (0, 0)) (zk BK1z.out)) : gb2u ≠ gb1z)); have n19_ := zm ((by rw [hg]; exact Nat.ne_of_lt (blk_lt (g := gb2a) (o := .cells #[.bool false, .slice none 0 0] 27 (0, 0)) (zk BK2a.out)) : gb2a ≠ gb2u)); have n20_ := zm ((by rw [hg]; exact Nat.ne_of_gt (blk_lt (g := gb2a) (o := .cells #[.bool false, .slice none 0 0] 27 (0, 0)) (zk BK2a.out)) : gb2u ≠ gb2a)); have n21_ := zm ((by rw [hg]; exact Nat.ne_of_lt (blk_lt (g := gb2o) (o := .cells #[.bool t2j, .slice Ao65 t2k.length co65] 27 (0, 0)) (zk BK2o.out)) : gb2o ≠ gb2u)); have n22_ := zm ((by rw [hg]; exact Nat.ne_of_gt (blk_lt (g := gb2o) (o := .cells #[.bool t2j, .slice Ao65 t2k.length co65] 27 (0, 0)) (zk BK2o.out)) : gb2u ≠ gb2o)); clear HO2g; clear HO2i; clear HO2m; clear HO2s; clear BK1x; clear BK1y; clear BK1z; clear BK2a; clear BK2o; clear HB; have HO2g := n0_; have HO2i := n1_; have HO2m := n2_; have HO2s := n3_; have BK1x := n4_; have BK1y := n5_; have BK1z := n6_; have BK2a := n7_; have BK2o := n8_; have HB := n9_; have BK2u := n10_; have GW2u := n11_; have GE2u := n12_; have NB1x_2u := n13_; have NB2u_1x := n14_; have NB1y_2u := n15_; have NB2u_1y := n16_; have NB1z_2u := n17_; have NB2u_1z := n18_; have NB2a_2u := n19_; have NB2u_2a := n20_; have NB2o_2u := n21_; have NB2u_2o := n22_; clear n0_ n1_ n2_ n3_ n4_ n5_ n6_ n7_ n8_ n9_ n10_ n11_ n12_ n13_ n14_ n15_ n16_ n17_ n18_ n19_ n20_ n21_ n22_; clear hb hbox hg; have hnb70 := NB2u_1x.out; have hnc70 := NB1x_2u.out; have hnb71 := NB2u_1y.out; have hnc71 := NB1y_2u.out; have hnb72 := NB2u_1z.out; have hnc72 := NB1z_2u.out; have hnb73 := NB2u_2a.out; have hnc73 := NB2a_2u.out; have hnb74 := NB2u_2o.out; have hnc74 := NB2o_2u.out; have hcz75_0 : w69.cell? ⟨gb2u, 0, none⟩ = some (.bool false) := (blk_cell BK2u.out 0).trans rfl; have hcz75_1 : w69.cell? ⟨gb2u, 1, none⟩ = some (.slice none 0 0) := (blk_cell BK2u.out 1).trans rfl; have hfz75_0 := blk_frozen BK2u.out 0; have hfz75_1 := blk_frozen BK2u.out 1; obtain ⟨Ao76, co76, eo76⟩ := Kd.R_slice HO2s.out; subst eo76))
        have n0_ : Aside0 (Kd.R (Kd.int .i64) 3 ((w69.setCell ⟨gb2u, 0, none⟩ (.bool t2p)).setCell ⟨gb2u, 1, none⟩ (.slice Ao76 t2q.length co76)) w.heap.size (fun k_ => some k_ ≠ (.slice Ao67 t2e.length co67 : Value).ownBlock ∧ some k_ ≠ (.slice Ao65 t2k.length co65 : Value).ownBlock ∧ some k_ ≠ (.slice Ao76 t2q.length co76 : Value).ownBlock) (.slice Ao57 t2d.length co57) t2d) := ⟨by (with_reducible repeat (first | apply Kd.R_alloc | apply Kd.R_drewN | apply Kd.R_drew)); exact Kd.R_mono (Kd.R_far (p := ⟨gb2u, 1, none⟩) (Kd.R_far (p := ⟨gb2u, 0, none⟩) (Kd.R_types HO2g.out BK2u.out (by decide)) (fun _ hk => hk.2) (.bool t2p)) (fun _ hk => hk.2) (.slice Ao76 t2q.length co76)) (fun _ hk => ⟨hk.1.1.1, ⟨hk.1.1.2, hk.1.2⟩⟩)⟩
        have n1_ : Aside0 (Kd.R (Kd.int .i64) 3 ((w69.setCell ⟨gb2u, 0, none⟩ (.bool t2p)).setCell ⟨gb2u, 1, none⟩ (.slice Ao76 t2q.length co76)) w.heap.size (fun k_ => some k_ ≠ (.slice Ao57 t2d.length co57 : Value).ownBlock ∧ some k_ ≠ (.slice Ao65 t2k.length co65 : Value).ownBlock ∧ some k_ ≠ (.slice Ao76 t2q.length co76 : Value).ownBlock) (.slice Ao67 t2e.length co67) t2e) := ⟨by (with_reducible repeat (first | apply Kd.R_alloc | apply Kd.R_drewN | apply Kd.R_drew)); exact Kd.R_mono (Kd.R_far (p := ⟨gb2u, 1, none⟩) (Kd.R_far (p := ⟨gb2u, 0, none⟩) (Kd.R_types HO2i.out BK2u.out (by decide)) (fun _ hk => hk.2) (.bool t2p)) (fun _ hk => hk.2) (.slice Ao76 t2q.length co76)) (fun _ hk => ⟨hk.1.1.1, ⟨hk.1.1.2, hk.1.2⟩⟩)⟩
        have n2_ : Aside0 (Kd.R (Kd.int .i64) 3 ((w69.setCell ⟨gb2u, 0, none⟩ (.bool t2p)).setCell ⟨gb2u, 1, none⟩ (.slice Ao76 t2q.length co76)) w.heap.size (fun k_ => some k_ ≠ (.slice Ao57 t2d.length co57 : Value).ownBlock ∧ some k_ ≠ (.slice Ao67 t2e.length co67 : Value).ownBlock ∧ some k_ ≠ (.slice Ao76 t2q.length co76 : Value).ownBlock) (.slice Ao65 t2k.length co65) t2k) := ⟨by (with_reducible repeat (first | apply Kd.R_alloc | apply Kd.R_drewN | apply Kd.R_drew)); exact Kd.R_mono (Kd.R_far (p := ⟨gb2u, 1, none⟩) (Kd.R_far (p := ⟨gb2u, 0, none⟩) (Kd.R_types HO2m.out BK2u.out (by decide)) (fun _ hk => hk.2) (.bool t2p)) (fun _ hk => hk.2) (.slice Ao76 t2q.length co76)) (fun _ hk => ⟨hk.1.1.1.2, ⟨hk.1.1.2, hk.1.2⟩⟩)⟩
        have n3_ : Aside0 (Kd.R (Kd.int .i64) 3 ((w69.setCell ⟨gb2u, 0, none⟩ (.bool t2p)).setCell ⟨gb2u, 1, none⟩ (.slice Ao76 t2q.length co76)) w.heap.size (fun k_ => some k_ ≠ (.slice Ao57 t2d.length co57 : Value).ownBlock ∧ some k_ ≠ (.slice Ao67 t2e.length co67 : Value).ownBlock ∧ some k_ ≠ (.slice Ao65 t2k.length co65 : Value).ownBlock) (.slice Ao76 t2q.length co76) t2q) := ⟨by (with_reducible repeat (first | apply Kd.R_alloc | apply Kd.R_drewN | apply Kd.R_drew)); exact Kd.R_mono (Kd.R_far (p := ⟨gb2u, 1, none⟩) (Kd.R_far (p := ⟨gb2u, 0, none⟩) (Kd.R_types HO2s.out BK2u.out (by decide)) (fun _ hk => hk.2) (.bool t2p)) (fun _ hk => hk.2) (.slice Ao76 t2q.length co76)) (fun _ hk => ⟨hk.1.1.1.2, ⟨hk.1.1.2, hk.1.2⟩⟩)⟩
        have n4_ : Aside0 (((w69.setCell ⟨gb2u, 0, none⟩ (.bool t2p)).setCell ⟨gb2u, 1, none⟩ (.slice Ao76 t2q.length co76)).heap[gb1x]? = some (.cells #[.bool a0_0, .slice A0_1 l0_1.length c0_1] 27 (0, 0))) := ⟨by (with_reducible repeat (first | refine blk_drewN ?_ _ | refine blk_drew ?_ | refine blk_alloc ?_ _)); refine blk_far ?_ NB1x_2u.out _; (with_reducible repeat (first | refine blk_drewN ?_ _ | refine blk_drew ?_ | refine blk_alloc ?_ _)); refine blk_far ?_ NB1x_2u.out _; (with_reducible repeat (first | refine blk_drewN ?_ _ | refine blk_drew ?_ | refine blk_alloc ?_ _)); exact BK1x.out⟩
        have n5_ : Aside0 (((w69.setCell ⟨gb2u, 0, none⟩ (.bool t2p)).setCell ⟨gb2u, 1, none⟩ (.slice Ao76 t2q.length co76)).heap[gb1y]? = some (.cells #[.bool a1_0, .slice A1_1 l1_1.length c1_1] 27 (0, 0))) := ⟨by (with_reducible repeat (first | refine blk_drewN ?_ _ | refine blk_drew ?_ | refine blk_alloc ?_ _)); refine blk_far ?_ NB1y_2u.out _; (with_reducible repeat (first | refine blk_drewN ?_ _ | refine blk_drew ?_ | refine blk_alloc ?_ _)); refine blk_far ?_ NB1y_2u.out _; (with_reducible repeat (first | refine blk_drewN ?_ _ | refine blk_drew ?_ | refine blk_alloc ?_ _)); exact BK1y.out⟩
        have n6_ : Aside0 (((w69.setCell ⟨gb2u, 0, none⟩ (.bool t2p)).setCell ⟨gb2u, 1, none⟩ (.slice Ao76 t2q.length co76)).heap[gb1z]? = some (.cells #[.bool false, .slice none 0 0] 27 (0, 0))) := ⟨by (with_reducible repeat (first | refine blk_drewN ?_ _ | refine blk_drew ?_ | refine blk_alloc ?_ _)); refine blk_far ?_ NB1z_2u.out _; (with_reducible repeat (first | refine blk_drewN ?_ _ | refine blk_drew ?_ | refine blk_alloc ?_ _)); refine blk_far ?_ NB1z_2u.out _; (with_reducible repeat (first | refine blk_drewN ?_ _ | refine blk_drew ?_ | refine blk_alloc ?_ _)); exact BK1z.out⟩
        have n7_ : Aside0 (((w69.setCell ⟨gb2u, 0, none⟩ (.bool t2p)).setCell ⟨gb2u, 1, none⟩ (.slice Ao76 t2q.length co76)).heap[gb2a]? = some (.cells #[.bool false, .slice none 0 0] 27 (0, 0))) := ⟨by (with_reducible repeat (first | refine blk_drewN ?_ _ | refine blk_drew ?_ | refine blk_alloc ?_ _)); refine blk_far ?_ NB2a_2u.out _; (with_reducible repeat (first | refine blk_drewN ?_ _ | refine blk_drew ?_ | refine blk_alloc ?_ _)); refine blk_far ?_ NB2a_2u.out _; (with_reducible repeat (first | refine blk_drewN ?_ _ | refine blk_drew ?_ | refine blk_alloc ?_ _)); exact BK2a.out⟩
        have n8_ : Aside0 (((w69.setCell ⟨gb2u, 0, none⟩ (.bool t2p)).setCell ⟨gb2u, 1, none⟩ (.slice Ao76 t2q.length co76)).heap[gb2o]? = some (.cells #[.bool t2j, .slice Ao65 t2k.length co65] 27 (0, 0))) := ⟨by (with_reducible repeat (first | refine blk_drewN ?_ _ | refine blk_drew ?_ | refine blk_alloc ?_ _)); refine blk_far ?_ NB2o_2u.out _; (with_reducible repeat (first | refine blk_drewN ?_ _ | refine blk_drew ?_ | refine blk_alloc ?_ _)); refine blk_far ?_ NB2o_2u.out _; (with_reducible repeat (first | refine blk_drewN ?_ _ | refine blk_drew ?_ | refine blk_alloc ?_ _)); exact BK2o.out⟩
        have n9_ : Aside0 (((w69.setCell ⟨gb2u, 0, none⟩ (.bool t2p)).setCell ⟨gb2u, 1, none⟩ (.slice Ao76 t2q.length co76)).heap[gb2u]? = some (.cells #[.bool t2p, .slice Ao76 t2q.length co76] 27 (0, 0))) := ⟨by (with_reducible repeat (first | refine blk_drewN ?_ _ | refine blk_drew ?_ | refine blk_alloc ?_ _)); refine blk_put (cs := #[.bool t2p, .slice none 0 0]) ?_ 1 _ rfl; (with_reducible repeat (first | refine blk_drewN ?_ _ | refine blk_drew ?_ | refine blk_alloc ?_ _)); refine blk_put (cs := #[.bool false, .slice none 0 0]) ?_ 0 _ rfl; (with_reducible repeat (first | refine blk_drewN ?_ _ | refine blk_drew ?_ | refine blk_alloc ?_ _)); exact BK2u.out⟩
        have n10_ : Aside0 (Below w.heap.size w ((w69.setCell ⟨gb2u, 0, none⟩ (.bool t2p)).setCell ⟨gb2u, 1, none⟩ (.slice Ao76 t2q.length co76))) := ⟨zb⟩
        (try clear HO2g); (try clear HO2i); (try clear HO2m); (try clear HO2s); (try clear BK1x); (try clear BK1y); (try clear BK1z); (try clear BK2a); (try clear BK2o); (try clear BK2u); (try clear HB)
        generalize ((w69.setCell ⟨gb2u, 0, none⟩ (.bool t2p)).setCell ⟨gb2u, 1, none⟩ (.slice Ao76 t2q.length co76)) = w77 at n0_ n1_ n2_ n3_ n4_ n5_ n6_ n7_ n8_ n9_ n10_ ⊢
        have HO2g := n0_; have HO2i := n1_; have HO2m := n2_; have HO2s := n3_; have BK1x := n4_; have BK1y := n5_; have BK1z := n6_; have BK2a := n7_; have BK2o := n8_; have BK2u := n9_; have HB := n10_; clear n0_ n1_ n2_ n3_ n4_ n5_ n6_ n7_ n8_ n9_ n10_; have n0_ := zm (Kd.R_drew HO2g.out); have n1_ := zm (Kd.R_drew HO2i.out); have n2_ := zm (Kd.R_drew HO2m.out); have n3_ := zm (Kd.R_drew HO2s.out); have n4_ := zm (blk_drew BK1x.out); have n5_ := zm (blk_drew BK1y.out); have n6_ := zm (blk_drew BK1z.out); have n7_ := zm (blk_drew BK2a.out); have n8_ := zm (blk_drew BK2o.out); have n9_ := zm (blk_drew BK2u.out); have n10_ := zm (below_drew1 HB.out); clear HO2g; clear HO2i; clear HO2m; clear HO2s; clear BK1x; clear BK1y; clear BK1z; clear BK2a; clear BK2o; clear BK2u; clear HB; have HO2g := n0_; have HO2i := n1_; have HO2m := n2_; have HO2s := n3_; have BK1x := n4_; have BK1y := n5_; have BK1z := n6_; have BK2a := n7_; have BK2o := n8_; have BK2u := n9_; have HB := n10_; clear n0_ n1_ n2_ n3_ n4_ n5_ n6_ n7_ n8_ n9_ n10_; (refine start_ (n := 5) (S := fun w' => w'.cell? ⟨gb2o, 0, none⟩ = some (.bool t2j) ∧ w'.cell? ⟨gb2o, 1, none⟩ = some (.slice Ao65 t2k.length co65) ∧ w'.cell? ⟨gb2u, 0, none⟩ = some (.bool t2p) ∧ w'.cell? ⟨gb2u, 1, none⟩ = some (.slice Ao76 t2q.length co76)) (ds := []) #[false, false, false, false, false] (by kernel_rfl) rfl rfl ⟨(blk_cell BK2o.out 0).trans rfl, (blk_cell BK2o.out 1).trans rfl, (blk_cell BK2u.out 0).trans rfl, (blk_cell BK2u.out 1).trans rfl⟩ (fun hHeld => ?_))
        generalize w77.drew = w78 at HO2g HO2i HO2m HO2s BK1x BK1y BK1z BK2a BK2o BK2u HB hHeld ⊢
        (refine take_ (i := 0) (N := some 54) (v := ?_) (a' := ?_) #[true, false, false, false, false] rfl rfl (by kernel_rfl) (fun _ _ _ h => h) (Or.inl ⟨by rfl, ?_⟩) hHeld ?_ ?_); rotate_left
        · rintro w' ⟨s0, s1, s2, s3⟩
          go_simp
          with_reducible rfl
        rotate_left
        · simp only [Act.put, zs, zs0, zs1, i64_w, i32_w]
          rfl
        (refine take_ (i := 1) (N := some 55) (v := ?_) (a' := ?_) #[true, true, false, false, false] rfl rfl (by kernel_rfl) (fun _ _ _ h => h) (Or.inl ⟨by rfl, ?_⟩) hHeld ?_ ?_); rotate_left
        · rintro w' ⟨s0, s1, s2, s3⟩
          go_simp
          with_reducible rfl
        rotate_left
        · simp only [Act.put, zs, zs0, zs1, i64_w, i32_w]
          rfl
        (refine one_ (i := 2) (N := none) #[true, true, true, false, false] rfl rfl (by kernel_rfl) (by decide) (fun K hK => ?_)); have hs79 : w78.cell? ⟨gb1z, 0, none⟩ = some (.bool false) := (blk_cell BK1z.out 0).trans rfl; have hfs79 := blk_frozen BK1z.out 0; have hns79_0 := NB1x_1z.out; have hns79_1 := NB1y_1z.out; have hns79_3 := NB2a_1z.out; have hns79_4 := NB2o_1z.out; have hns79_5 := NB2u_1z.out; have hms79_0 := NB1z_1x.out; have hms79_1 := NB1z_1y.out; have hms79_3 := NB1z_2a.out; have hms79_4 := NB1z_2o.out; have hms79_5 := NB1z_2u.out; have hs80 : w78.cell? ⟨gb1z, 1, none⟩ = some (.slice none 0 0) := (blk_cell BK1z.out 1).trans rfl; have hfs80 := blk_frozen BK1z.out 1; have hns80_0 := NB1x_1z.out; have hns80_1 := NB1y_1z.out; have hns80_3 := NB2a_1z.out; have hns80_4 := NB2o_1z.out; have hns80_5 := NB2u_1z.out; have hms80_0 := NB1z_1x.out; have hms80_1 := NB1z_1y.out; have hms80_3 := NB1z_2a.out; have hms80_4 := NB1z_2o.out; have hms80_5 := NB1z_2u.out; (refine skip_ (w1 := ?_) (by rfl) rfl ?_ ?_); rotate_left
        · go_simp
          rfl
        (refine hK.out _ _ ⟨((cell_far (p := ⟨gb1z, _, none⟩) NB2o_1z.out _).trans (((cell_far (p := ⟨gb1z, _, none⟩) NB2o_1z.out _).trans (hHeld.1)))), ((cell_far (p := ⟨gb1z, _, none⟩) NB2o_1z.out _).trans (((cell_far (p := ⟨gb1z, _, none⟩) NB2o_1z.out _).trans (hHeld.2.1)))), ((cell_far (p := ⟨gb1z, _, none⟩) NB2u_1z.out _).trans (((cell_far (p := ⟨gb1z, _, none⟩) NB2u_1z.out _).trans (hHeld.2.2.1)))), ((cell_far (p := ⟨gb1z, _, none⟩) NB2u_1z.out _).trans (((cell_far (p := ⟨gb1z, _, none⟩) NB2u_1z.out _).trans (hHeld.2.2.2))))⟩ (fun hHeld => ?_)); clear hK K; (refine one_ (i := 3) (N := none) #[true, true, true, true, false] rfl rfl (by kernel_rfl) (by decide) (fun K hK => ?_)); have hs81 : w78.cell? ⟨gb2a, 0, none⟩ = some (.bool false) := (blk_cell BK2a.out 0).trans rfl; have hfs81 := blk_frozen BK2a.out 0; have hns81_0 := NB1x_2a.out; have hns81_1 := NB1y_2a.out; have hns81_2 := NB1z_2a.out; have hns81_4 := NB2o_2a.out; have hns81_5 := NB2u_2a.out; have hms81_0 := NB2a_1x.out; have hms81_1 := NB2a_1y.out; have hms81_2 := NB2a_1z.out; have hms81_4 := NB2a_2o.out; have hms81_5 := NB2a_2u.out; have hs82 : w78.cell? ⟨gb2a, 1, none⟩ = some (.slice none 0 0) := (blk_cell BK2a.out 1).trans rfl; have hfs82 := blk_frozen BK2a.out 1; have hns82_0 := NB1x_2a.out; have hns82_1 := NB1y_2a.out; have hns82_2 := NB1z_2a.out; have hns82_4 := NB2o_2a.out; have hns82_5 := NB2u_2a.out; have hms82_0 := NB2a_1x.out; have hms82_1 := NB2a_1y.out; have hms82_2 := NB2a_1z.out; have hms82_4 := NB2a_2o.out; have hms82_5 := NB2a_2u.out; (refine skip_ (w1 := ?_) (by rfl) rfl ?_ ?_); rotate_left
        · go_simp
          rfl
        (refine hK.out _ _ ⟨((cell_far (p := ⟨gb2a, _, none⟩) NB2o_2a.out _).trans (((cell_far (p := ⟨gb2a, _, none⟩) NB2o_2a.out _).trans (hHeld.1)))), ((cell_far (p := ⟨gb2a, _, none⟩) NB2o_2a.out _).trans (((cell_far (p := ⟨gb2a, _, none⟩) NB2o_2a.out _).trans (hHeld.2.1)))), ((cell_far (p := ⟨gb2a, _, none⟩) NB2u_2a.out _).trans (((cell_far (p := ⟨gb2a, _, none⟩) NB2u_2a.out _).trans (hHeld.2.2.1)))), ((cell_far (p := ⟨gb2a, _, none⟩) NB2u_2a.out _).trans (((cell_far (p := ⟨gb2a, _, none⟩) NB2u_2a.out _).trans (hHeld.2.2.2))))⟩ (fun hHeld => ?_)); clear hK K; (refine pure_ (i := 4) (N := some 6) (v := ?_) (a' := ?_) #[true, true, true, true, true] rfl rfl (by kernel_rfl) (fun _ _ _ h => h) (Or.inl ⟨by rfl, ?_⟩) ?_ ?_); rotate_left
        · intro w'
          go_simp
          with_reducible rfl
        rotate_left
        · simp only [Act.put, zs, zs0, zs1, i64_w, i32_w]
          rfl
        (refine done_ (by kernel_rfl) ?_); (try go_wp2); (refine bodyPost_ret (results_list (rs := [.cell 4 27, .cell 5 27, .tmp 6]) rfl (by simp) (.cell gb1z 27 #[.bool t2j, .slice Ao65 t2k.length co65] (0, 0) _ rfl (by (with_reducible repeat (first | refine blk_drewN ?_ _ | refine blk_drew ?_ | refine blk_alloc ?_ _)); refine blk_far ?_ NB1z_2a.out _; (with_reducible repeat (first | refine blk_drewN ?_ _ | refine blk_drew ?_ | refine blk_alloc ?_ _)); refine blk_far ?_ NB1z_2a.out _; (with_reducible repeat (first | refine blk_drewN ?_ _ | refine blk_drew ?_ | refine blk_alloc ?_ _)); refine blk_put (cs := #[.bool t2j, .slice none 0 0]) ?_ 1 _ rfl; (with_reducible repeat (first | refine blk_drewN ?_ _ | refine blk_drew ?_ | refine blk_alloc ?_ _)); refine blk_put (cs := #[.bool false, .slice none 0 0]) ?_ 0 _ rfl; (with_reducible repeat (first | refine blk_drewN ?_ _ | refine blk_drew ?_ | refine blk_alloc ?_ _)); exact BK1z.out) Try.underlying27 rfl (by kernel_rfl) (.cell gb2a 27 #[.bool t2p, .slice Ao76 t2q.length co76] (0, 0) _ rfl (by (with_reducible repeat (first | refine blk_drewN ?_ _ | refine blk_drew ?_ | refine blk_alloc ?_ _)); refine blk_put (cs := #[.bool t2p, .slice none 0 0]) ?_ 1 _ rfl; (with_reducible repeat (first | refine blk_drewN ?_ _ | refine blk_drew ?_ | refine blk_alloc ?_ _)); refine blk_put (cs := #[.bool false, .slice none 0 0]) ?_ 0 _ rfl; (with_reducible repeat (first | refine blk_drewN ?_ _ | refine blk_drew ?_ | refine blk_alloc ?_ _)); refine blk_far ?_ NB2a_1z.out _; (with_reducible repeat (first | refine blk_drewN ?_ _ | refine blk_drew ?_ | refine blk_alloc ?_ _)); refine blk_far ?_ NB2a_1z.out _; (with_reducible repeat (first | refine blk_drewN ?_ _ | refine blk_drew ?_ | refine blk_alloc ?_ _)); exact BK2a.out) Try.underlying27 rfl (by kernel_rfl) (.tmp .nil)))) rfl ?_); (exact ⟨_, _, by first | rfl | (simp [errW_none, errW_some] <;> rfl) | (simp [*, errW_none, errW_some] <;> rfl), by (with_reducible repeat (first | apply Kd.R_alloc | apply Kd.R_drewN | apply Kd.R_drew)); exact Kd.R_mono (Kd.R_far (p := ⟨gb2a, 1, none⟩) (Kd.R_far (p := ⟨gb2a, 0, none⟩) (Kd.R_far (p := ⟨gb1z, 1, none⟩) (Kd.R_far (p := ⟨gb1z, 0, none⟩) (Kd.R_types (Kd.R_types HO2m.out BK1z.out (by decide)) BK2a.out (by decide)) (fun _ hk => hk.1.2) (.bool t2j)) (fun _ hk => hk.1.2) (.slice Ao65 t2k.length co65)) (fun _ hk => hk.2) (.bool t2p)) (fun _ hk => hk.2) (.slice Ao76 t2q.length co76)) (fun _ hk => hk.1.1.2.2), by (with_reducible repeat (first | apply Kd.R_alloc | apply Kd.R_drewN | apply Kd.R_drew)); exact Kd.R_mono (Kd.R_far (p := ⟨gb2a, 1, none⟩) (Kd.R_far (p := ⟨gb2a, 0, none⟩) (Kd.R_far (p := ⟨gb1z, 1, none⟩) (Kd.R_far (p := ⟨gb1z, 0, none⟩) (Kd.R_types (Kd.R_types HO2s.out BK1z.out (by decide)) BK2a.out (by decide)) (fun _ hk => hk.1.2) (.bool t2j)) (fun _ hk => hk.1.2) (.slice Ao65 t2k.length co65)) (fun _ hk => hk.2) (.bool t2p)) (fun _ hk => hk.2) (.slice Ao76 t2q.length co76)) (fun _ hk => hk.1.1.2.2), zb⟩)
end Go.Proofs.Ytdemeoncjcbojaa.Pr
end
section
namespace Go.Proofs.Ytdemeoncjcbojaa.Vb
open Go.RowKit Go.Proofs.Ytdemeoncjcbojaa.Pr Go.Proofs.YtdemeoncjcbojaaW.PrintWords Go.Proofs.YtdemeoncjcbojaaW.PrintLast Go.Proofs.YtdemeoncjcbojaaW.PrintMore
set_option linter.unusedVariables false
abbrev Bx := Nat × Nat × Bool × Value
abbrev Rw := Value × List Int
structure Vb (w W : World) (bs : List Bx) (rs : List Rw) : Prop where
  below : Below w.heap.size w W
  box : ∀ (i : Nat) (x : Bx), bs[i]? = some x → w.heap.size ≤ x.1 ∧ W.heap[x.1]? = some (.cells #[.bool x.2.2.1, x.2.2.2] x.2.1 (0, 0))
  bne : ∀ (i j : Nat) (x y : Bx), bs[i]? = some x → bs[j]? = some y → i ≠ j → x.1 ≠ y.1
  row : ∀ (i : Nat) (r : Rw), rs[i]? = some r → Kd.V (Kd.int .i64) 3 W W.heap.size (fun k => ∀ (j : Nat) (x : Bx), bs[j]? = some x → k ≠ x.1) r.1 r.2
theorem snoc_get {α : Type} {l : List α} {x y : α} {i : Nat} (h : (l ++ [x])[i]? = some y) : (i < l.length ∧ l[i]? = some y) ∨ (i = l.length ∧ y = x) := by
  rcases Nat.lt_trichotomy i l.length with h1 | h1 | h1
  · rw [List.getElem?_append_left h1] at h; exact .inl ⟨h1, h⟩
  · subst h1
    rw [List.getElem?_append_right (Nat.le_refl _), Nat.sub_self] at h
    exact .inr ⟨rfl, (Option.some.inj h).symm⟩
  · rw [List.getElem?_eq_none (by simp; omega)] at h; cases h
theorem set_get {α : Type} {l : List α} {x y z : α} {i j : Nat} (hi : l[i]? = some z) (h : (l.set i x)[j]? = some y) : (j = i ∧ y = x) ∨ (j ≠ i ∧ l[j]? = some y) := by
  by_cases e : j = i
  · subst e
    rw [List.getElem?_set_self (List.getElem?_eq_some_iff.1 hi).1] at h
    exact .inl ⟨rfl, (Option.some.inj h).symm⟩
  · rw [List.getElem?_set_ne (Ne.symm e)] at h
    exact .inr ⟨e, h⟩
variable {w W W' : World} {bs : List Bx} {rs : List Rw}
theorem Vb.lt (h : Vb w W bs rs) {i : Nat} {x : Bx} (hi : bs[i]? = some x) : x.1 < W.heap.size := blk_lt (h.box i x hi).2
theorem Vb.step (h : Vb w W bs rs) (hb : Below W.heap.size W W') : Vb w W' bs rs :=
  ⟨below_step h.below hb, fun i x hi => ⟨(h.box i x hi).1, blk_below (h.box i x hi).2 hb⟩, h.bne, fun i r hi => Kd.V_below (h.row i r hi) hb⟩
theorem Vb.pushRow {e b : Nat} {ok : Nat → Prop} {v : Value} {xs : List Int} (h : Vb w W bs rs) (hr : Kd.V (Kd.int .i64) e W b ok v xs) (hok : ∀ k, ok k → ∀ (j : Nat) (x : Bx), bs[j]? = some x → k ≠ x.1) : Vb w W bs (rs ++ [(v, xs)]) := by
  refine ⟨h.below, h.box, h.bne, fun i r hi => ?_⟩
  rcases snoc_get hi with ⟨_, h1⟩ | ⟨_, h1⟩
  · exact h.row i r h1
  · subst h1; exact Kd.V_mono hr hok
theorem Vb.pushNew {e b : Nat} {ok : Nat → Prop} {v : Value} {xs : List Int} (h : Vb w W bs rs) (hb : Below W.heap.size W W') (hr : Kd.V (Kd.int .i64) e W' b ok v xs) (hok : ∀ k, ok k → W.heap.size ≤ k ∨ ∀ (j : Nat) (x : Bx), bs[j]? = some x → k ≠ x.1) : Vb w W' bs (rs ++ [(v, xs)]) :=
  (h.step hb).pushRow hr (fun k hk j x hj => by
    rcases hok k hk with h1 | h1
    · have := h.lt hj; omega
    · exact h1 j x hj)
theorem Vb.pushTwo {e b e' b' : Nat} {ok ok' : Nat → Prop} {v v' : Value} {xs xs' : List Int} (h : Vb w W bs rs) (hb : Below W.heap.size W W') (hr : Kd.V (Kd.int .i64) e W' b ok v xs) (hr' : Kd.V (Kd.int .i64) e' W' b' ok' v' xs') (hok : ∀ k, ok k → W.heap.size ≤ k) (hok' : ∀ k, ok' k → W.heap.size ≤ k) : Vb w W' bs (rs ++ [(v, xs)] ++ [(v', xs')]) :=
  (h.pushNew hb hr (fun k hk => .inl (hok k hk))).pushRow hr' (fun k hk j x hj => by have := hok' k hk; have := h.lt hj; omega)
theorem Vb.pushBox {g t : Nat} {n : Bool} {v : Value} (h : Vb w W bs rs) (hb : Below W.heap.size W W') (hg : W.heap.size ≤ g) (hbx : W'.heap[g]? = some (.cells #[.bool n, v] t (0, 0))) : Vb w W' (bs ++ [(g, t, n, v)]) rs := by
  have h' := h.step hb
  refine ⟨h'.below, fun i x hi => ?_, fun i j x y hi hj hne => ?_, fun i r hi => ?_⟩
  · rcases snoc_get hi with ⟨_, h1⟩ | ⟨_, h1⟩
    · exact h'.box i x h1
    · subst h1; exact ⟨Nat.le_trans h.below.size hg, hbx⟩
  · rcases snoc_get hi with ⟨_, h1⟩ | ⟨e1, h1⟩ <;> rcases snoc_get hj with ⟨_, h2⟩ | ⟨e2, h2⟩
    · exact h'.bne i j x y h1 h2 hne
    · subst h2
      have := h.lt h1
      show x.1 ≠ g
      omega
    · subst h1
      have := h.lt h2
      show g ≠ y.1
      omega
    · omega
  · refine Kd.V_mono (Kd.V_below (Kd.V_bound (h.row i r hi)) hb) (fun k hk j x hj => ?_)
    rcases snoc_get hj with ⟨_, h1⟩ | ⟨_, h1⟩
    · exact hk.1 j x h1
    · subst h1
      have := hk.2
      show k ≠ g
      omega
theorem Vb.setBox {i g t : Nat} {n n' : Bool} {v v' : Value} (h : Vb w W bs rs) (hi : bs[i]? = some (g, t, n, v)) : Vb w ((W.setCell ⟨g, 0, none⟩ (.bool n')).setCell ⟨g, 1, none⟩ v') (bs.set i (g, t, n', v')) rs := by
  obtain ⟨hg, hbx⟩ := h.box i _ hi
  have hbx2 := blk_put (cs := #[.bool n', v]) (blk_put (cs := #[.bool n, v]) hbx 0 (.bool n') rfl) 1 v' rfl
  have hk : Kept W ((W.setCell ⟨g, 0, none⟩ (.bool n')).setCell ⟨g, 1, none⟩ v') (fun k => k = g) := ((Kept.refl W (fun k => k = g)).setCell (p := ⟨g, 0, none⟩) (.inl rfl) _).setCell (p := ⟨g, 1, none⟩) (.inl rfl) _
  refine ⟨below_set (below_set h.below hg) hg, fun j x hj => ?_, fun j l x y hj hl hne => ?_, fun j r hj => ?_⟩
  · rcases set_get hi hj with ⟨_, h1⟩ | ⟨h0, h1⟩
    · subst h1; exact ⟨hg, hbx2⟩
    · exact ⟨(h.box j x h1).1, blk_kept (h.box j x h1).2 hk (h.bne j i x _ h1 hi h0)⟩
  · rcases set_get hi hj with ⟨e1, h1⟩ | ⟨e1, h1⟩ <;> rcases set_get hi hl with ⟨e2, h2⟩ | ⟨e2, h2⟩
    · omega
    · subst h1; exact h.bne i l (g, t, n, v) y hi h2 (Ne.symm e2)
    · subst h2; exact h.bne j i x (g, t, n, v) h1 hi e1
    · exact h.bne j l x y h1 h2 hne
  · refine Kd.V_mono (Kd.V_kept (h.row j r hj) hk (fun k hk2 e => hk2 i _ hi e)) (fun k hk2 l x hl => ?_)
    rcases set_get hi hl with ⟨_, h1⟩ | ⟨_, h1⟩
    · subst h1
      show k ≠ g
      exact hk2 i (g, t, n, v) hi
    · exact hk2 l x h1
theorem Vb.rd (h : Vb w W bs rs) {i : Nat} {A : Option Addr} {n c : Nat} {xs : List Int} (hi : rs[i]? = some (.slice A n c, xs)) : n = xs.length ∧ n ≤ c ∧ Kd.C (Kd.int .i64) W A xs.length xs := Kd.V_reads' (h.row i _ hi)
theorem Vb.c0 (h : Vb w W bs rs) {i g t : Nat} {n : Bool} {v : Value} (hi : bs[i]? = some (g, t, n, v)) : W.cell? ⟨g, 0, none⟩ = some (.bool n) := (blk_cell (h.box i _ hi).2 0).trans rfl
theorem Vb.c1 (h : Vb w W bs rs) {i g t : Nat} {n : Bool} {v : Value} (hi : bs[i]? = some (g, t, n, v)) : W.cell? ⟨g, 1, none⟩ = some v := (blk_cell (h.box i _ hi).2 1).trans rfl
theorem Vb.fz (h : Vb w W bs rs) {i g t : Nat} {n : Bool} {v : Value} (hi : bs[i]? = some (g, t, n, v)) (j : Nat) : W.frozen? ⟨g, j, none⟩ = false := blk_frozen (h.box i _ hi).2 j
theorem draw_vb (h : Vb w W bs rs) {k : Nat} {A : Option Addr} {c : Nat} {l : List Int} {an bn : Bool} {al bl : List Int} (hr : Kd.C (Kd.int .u8) w A l.length l) (hc : l.length ≤ c) (hf : spec_DrawBigDiv.f k l = some (an, al, bn, bl)) :
    Calls Try.prog 47 #[.slice A l.length c] W fun e W' => ∃ Aa ca Ab cb, e = .returned (.tuple #[.agg #[.bool an, .slice Aa al.length ca], .agg #[.bool bn, .slice Ab bl.length cb]]) ∧ Vb w W' bs (rs ++ [(.slice Aa al.length ca, al)] ++ [(.slice Ab bl.length cb, bl)]) := by
  refine (spec_DrawBigDiv.calls k A c l an al bn bl W (Kd.C_below hr h.below) hc hf).mono ?_
  rintro e W' ⟨v, v', rfl, ho, ho', hb⟩
  obtain ⟨Aa, ca, rfl⟩ := Kd.R_slice ho
  obtain ⟨Ab, cb, rfl⟩ := Kd.R_slice ho'
  exact ⟨Aa, ca, Ab, cb, rfl, h.pushTwo hb (Kd.R_V (base' := 0) (Kd.R_tight rfl ho)) (Kd.R_V (base' := 0) (Kd.R_tight rfl ho')) (fun k hk => Kd.R_base ho k hk.symm) (fun k hk => Kd.R_base ho' k hk.symm)⟩
theorem idiv_vb (h : Vb w W bs rs) {k i j : Nat} {n n' : Bool} {A A' : Option Addr} {c c' : Nat} {l l' : List Int} {qn rn ok : Bool} {ql rl : List Int} (hi : rs[i]? = some (.slice A l.length c, l)) (hj : rs[j]? = some (.slice A' l'.length c', l')) (hf : impl_BigDiv.f k n l n' l' = some (qn, ql, rn, rl, ok)) :
    Calls Try.prog 43 #[.agg #[.bool n, .slice A l.length c], .agg #[.bool n', .slice A' l'.length c']] W fun e W' => ∃ Aq cq Ar cr, e = .returned (.tuple #[.agg #[.bool qn, .slice Aq ql.length cq], .agg #[.bool rn, .slice Ar rl.length cr], .bool ok]) ∧ Vb w W' bs (rs ++ [(.slice Aq ql.length cq, ql)] ++ [(.slice Ar rl.length cr, rl)]) := by
  obtain ⟨_, h1, h2⟩ := h.rd hi
  obtain ⟨_, h3, h4⟩ := h.rd hj
  refine (impl_BigDiv.calls k n A c l n' A' c' l' qn ql rn rl ok W h2 h1 h4 h3 hf).mono ?_
  rintro e W' ⟨v, v', rfl, ho, ho', hb⟩
  obtain ⟨Aq, cq, rfl⟩ := Kd.V_slice ho
  obtain ⟨Ar, cr, rfl⟩ := Kd.V_slice ho'
  exact ⟨Aq, cq, Ar, cr, rfl, h.pushTwo hb ho ho' (fun _ hk => hk) (fun _ hk => hk)⟩
theorem sdiv_vb (h : Vb w W bs rs) {k i j : Nat} {n n' : Bool} {A A' : Option Addr} {c c' : Nat} {l l' : List Int} {qn rn ok : Bool} {ql rl : List Int} (hi : rs[i]? = some (.slice A l.length c, l)) (hj : rs[j]? = some (.slice A' l'.length c', l')) (hf : spec_BigDiv.f k n l n' l' = some (qn, ql, rn, rl, ok)) :
    Calls Try.prog 44 #[.agg #[.bool n, .slice A l.length c], .agg #[.bool n', .slice A' l'.length c']] W fun e W' => ∃ Aq cq Ar cr, e = .returned (.tuple #[.agg #[.bool qn, .slice Aq ql.length cq], .agg #[.bool rn, .slice Ar rl.length cr], .bool ok]) ∧ Vb w W' bs (rs ++ [(.slice Aq ql.length cq, ql)] ++ [(.slice Ar rl.length cr, rl)]) := by
  obtain ⟨_, h1, h2⟩ := h.rd hi
  obtain ⟨_, h3, h4⟩ := h.rd hj
  refine (spec_BigDiv.calls k n A c l n' A' c' l' qn ql rn rl ok W h2 h1 h4 h3 hf).mono ?_
  rintro e W' ⟨v, v', rfl, ho, ho', hb⟩
  obtain ⟨Aq, cq, rfl⟩ := Kd.R_slice ho
  obtain ⟨Ar, cr, rfl⟩ := Kd.R_slice ho'
  exact ⟨Aq, cq, Ar, cr, rfl, h.pushTwo hb (Kd.R_V (base' := 0) (Kd.R_tight rfl ho)) (Kd.R_V (base' := 0) (Kd.R_tight rfl ho')) (fun k hk => Kd.R_base ho k hk.symm) (fun k hk => Kd.R_base ho' k hk.symm)⟩
theorem jt_vb (h : Vb w W bs rs) {k i j : Nat} {n n' r : Bool} {A A' : Option Addr} {c c' : Nat} {l l' : List Int} (hi : rs[i]? = some (.slice A l.length c, l)) (hj : rs[j]? = some (.slice A' l'.length c', l')) (hf : laws_jtBig.f k n l n' l' = some r) :
    Calls Try.prog 31 #[.agg #[.bool n, .slice A l.length c], .agg #[.bool n', .slice A' l'.length c']] W fun e W' => e = .returned (.bool r) ∧ Vb w W' bs rs := by
  obtain ⟨_, h1, h2⟩ := h.rd hi
  obtain ⟨_, h3, h4⟩ := h.rd hj
  exact (laws_jtBig.calls k n A c l n' A' c' l' r W h2 h1 h4 h3 hf).mono (by rintro e W' ⟨he, hb⟩; exact ⟨he, h.step hb⟩)
theorem cmp_vb (h : Vb w W bs rs) {k i j : Nat} {n n' : Bool} {r : Int} {A A' : Option Addr} {c c' : Nat} {l l' : List Int} (hi : rs[i]? = some (.slice A l.length c, l)) (hj : rs[j]? = some (.slice A' l'.length c', l')) (hf : impl_BigCmp.f k n l n' l' = some r) :
    Calls Try.prog 35 #[.agg #[.bool n, .slice A l.length c], .agg #[.bool n', .slice A' l'.length c']] W fun e W' => e = .returned (.int .i64 r) ∧ Vb w W' bs rs := by
  obtain ⟨_, h1, h2⟩ := h.rd hi
  obtain ⟨_, h3, h4⟩ := h.rd hj
  exact (impl_BigCmp.calls k n A c l n' A' c' l' r W h2 h1 h4 h3 hf).mono (by rintro e W' ⟨he, hb⟩; exact ⟨he, h.step hb⟩)
theorem zero_vb (h : Vb w W bs rs) {i : Nat} {n r : Bool} {A : Option Addr} {c : Nat} {l : List Int} (hi : rs[i]? = some (.slice A l.length c, l)) (hf : laws_jtZero.f n l = some r) :
    Calls Try.prog 42 #[.agg #[.bool n, .slice A l.length c]] W fun e W' => e = .returned (.bool r) ∧ Vb w W' bs rs := by
  obtain ⟨_, h1, h2⟩ := h.rd hi
  exact (laws_jtZero.calls n A c l r W h2 h1 hf).mono (by rintro e W' ⟨he, hb⟩; exact ⟨he, h.step hb⟩)
theorem mul_vb (h : Vb w W bs rs) {k i j : Nat} {n n' xn ok : Bool} {A A' : Option Addr} {c c' : Nat} {l l' xl : List Int} (hi : rs[i]? = some (.slice A l.length c, l)) (hj : rs[j]? = some (.slice A' l'.length c', l')) (hf : impl_BigMul.f k n l n' l' = some (xn, xl, ok)) :
    Calls Try.prog 33 #[.agg #[.bool n, .slice A l.length c], .agg #[.bool n', .slice A' l'.length c']] W fun e W' => ∃ Ax cx, e = .returned (.tuple #[.agg #[.bool xn, .slice Ax xl.length cx], .bool ok]) ∧ Vb w W' bs (rs ++ [(.slice Ax xl.length cx, xl)]) := by
  refine (impl_BigMul.calls k n _ A c l n' _ A' c' l' xn xl ok W (h.row i _ hi) (h.row j _ hj) hf).mono ?_
  rintro e W' ⟨v, rfl, ho, hb⟩
  obtain ⟨Ax, cx, rfl⟩ := Kd.V_slice ho
  exact ⟨Ax, cx, rfl, h.pushNew hb ho (fun k hk => Or.elim hk (fun h1 => .inr (Or.elim h1 id id)) .inl)⟩
theorem add_vb (h : Vb w W bs rs) {k i j : Nat} {n n' xn ok : Bool} {A A' : Option Addr} {c c' : Nat} {l l' xl : List Int} (hi : rs[i]? = some (.slice A l.length c, l)) (hj : rs[j]? = some (.slice A' l'.length c', l')) (hf : impl_BigAdd.f k n l n' l' = some (xn, xl, ok)) :
    Calls Try.prog 32 #[.agg #[.bool n, .slice A l.length c], .agg #[.bool n', .slice A' l'.length c']] W fun e W' => ∃ Ax cx, e = .returned (.tuple #[.agg #[.bool xn, .slice Ax xl.length cx], .bool ok]) ∧ Vb w W' bs (rs ++ [(.slice Ax xl.length cx, xl)]) := by
  refine (impl_BigAdd.calls k n _ A c l n' _ A' c' l' xn xl ok W (h.row i _ hi) (h.row j _ hj) hf).mono ?_
  rintro e W' ⟨v, rfl, ho, hb⟩
  obtain ⟨Ax, cx, rfl⟩ := Kd.V_slice ho
  exact ⟨Ax, cx, rfl, h.pushNew hb ho (fun k hk => Or.elim hk (fun h1 => .inr (Or.elim h1 id id)) .inl)⟩
end Go.Proofs.Ytdemeoncjcbojaa.Vb
end
section
namespace Go.Proofs.Ytdemeoncjcbojaa.Bd
open Go.RowKit Go.Proofs.Ytdemeoncjcbojaa.Pr Go.Proofs.Ytdemeoncjcbojaa.Vb Go.Proofs.Ytdemeoncjcbojaa.Ext Go.Proofs.YtdemeoncjcbojaaW.PrintWords Go.Proofs.YtdemeoncjcbojaaW.PrintLast Go.Proofs.YtdemeoncjcbojaaW.PrintMore
set_option linter.unusedVariables false
set_option linter.unusedSimpArgs false
set_option maxRecDepth 100000 in
set_option maxHeartbeats 8000000 in
theorem mainF (k : Nat) (A0 : Option Addr) (c0 : Nat) (l0 : List Int) (w : World) (hr0 : Kd.C (Kd.int .u8) w A0 l0.length l0) (hc0 : l0.length ≤ c0) {an bn qn rn sn tn : Bool} {al bl ql rl sl tl : List Int} (h1 : decide (1048576 < (l0.length : Int)) = false) (h2 : decide (1048576 < l0.length) = false) (fD : spec_DrawBigDiv.f k l0 = some (an, al, bn, bl)) (fI : impl_BigDiv.f k an al bn bl = some (qn, ql, rn, rl, false)) (fS : spec_BigDiv.f k an al bn bl = some (sn, sl, tn, tl, false)) (fJ : laws_jtBig.f k qn ql sn sl = some true) (fK : laws_jtBig.f k rn rl tn tl = some true) :
    Calls Try.prog 18 #[.slice A0 l0.length c0] w fun e w' => e = .returned (.bool true) ∧ Below w.heap.size w w' := by
  have hu27 := Try.underlying27
  have HR0 := Aside0.mk hr0
  have HC0 := Aside0.mk hc0
  clear hr0 hc0
  have FD := Aside0.mk fD
  clear fD
  have FI := Aside0.mk fI
  clear fI
  have FS := Aside0.mk fS
  clear fS
  have FJ := Aside0.mk fJ
  clear fJ
  have FK := Aside0.mk fK
  clear fK
  have HO : Aside0 (Vb w w [] []) := Aside0.mk ⟨Below.refl _ w, fun i x h => by simp at h, fun i j x y h => by simp at h, fun i r h => by simp at h⟩
  go_enter Try.func18, Try.ntmps18
  go_wp2_with ((with_reducible refine gate_callee (f := 47) rfl ?_); refine Aside0.out ?_)
  refine ⟨?_⟩
  refine goesL_ (some 22) rfl rfl Try.func47 (by kernel_rfl) rfl #[.slice A0 l0.length c0] rfl (by (try simp only [List.map_toArray, List.map_cons, List.map_nil]); first | done | rfl) ?_
  refine (draw_vb HO.out HR0.out HC0.out FD.out).mono ?_
  rintro e w1 ⟨PA, pa, PB, pb, rfl, ho_⟩
  refine ⟨_, rfl, ?_⟩
  replace HO : Aside0 (Vb w w1 [] [(.slice PA al.length pa, al), (.slice PB bl.length pb, bl)]) := Aside0.mk (ho_)
  clear ho_
  go_wp2_with ((with_reducible refine gate_dst (N := 3) rfl ?_); refine Aside0.out ?_)
  refine ⟨?_⟩
  refine box_event ?hg (N := 3) ?hd (cs := #[.bool false, .slice none 0 0]) (t := 27) ?hr ?_
  (case hd => rfl)
  (case hg => rfl)
  (case hr => first | (go_simp; done) | (go_simp; rfl))
  intro g3 hg_ w2 hbx_ hb_
  replace HO : Aside0 (Vb w w2 [(g3, 27, false, .slice none 0 0)] [(.slice PA al.length pa, al), (.slice PB bl.length pb, bl)]) := Aside0.mk (HO.out.pushBox hb_ (Nat.le_of_eq hg_.symm) hbx_)
  clear hb_ hbx_ hg_
  go_wp2_with ((with_reducible refine gate_dst (N := 4) rfl ?_); refine Aside0.out ?_)
  refine ⟨?_⟩
  refine box_event ?hg (N := 4) ?hd (cs := #[.bool false, .slice none 0 0]) (t := 27) ?hr ?_
  (case hd => rfl)
  (case hg => rfl)
  (case hr => first | (go_simp; done) | (go_simp; rfl))
  intro g4 hg_ w3 hbx_ hb_
  replace HO : Aside0 (Vb w w3 [(g3, 27, false, .slice none 0 0), (g4, 27, false, .slice none 0 0)] [(.slice PA al.length pa, al), (.slice PB bl.length pb, bl)]) := Aside0.mk (HO.out.pushBox hb_ (Nat.le_of_eq hg_.symm) hbx_)
  clear hb_ hbx_ hg_
  have q0_0 : w3.cell? ⟨g3, 0, none⟩ = some (.bool false) := HO.out.c0 (i := 0) rfl
  have q0_1 : w3.cell? ⟨g3, 1, none⟩ = some (.slice none 0 0) := HO.out.c1 (i := 0) rfl
  have q1_0 : w3.cell? ⟨g4, 0, none⟩ = some (.bool false) := HO.out.c0 (i := 1) rfl
  have q1_1 : w3.cell? ⟨g4, 1, none⟩ = some (.slice none 0 0) := HO.out.c1 (i := 1) rfl
  have z0_0 := HO.out.fz (i := 0) (g := g3) (t := 27) (n := false) (v := .slice none 0 0) rfl 0
  have z0_1 := HO.out.fz (i := 0) (g := g3) (t := 27) (n := false) (v := .slice none 0 0) rfl 1
  have z1_0 := HO.out.fz (i := 1) (g := g4) (t := 27) (n := false) (v := .slice none 0 0) rfl 0
  have z1_1 := HO.out.fz (i := 1) (g := g4) (t := 27) (n := false) (v := .slice none 0 0) rfl 1
  have d0_1 : g3 ≠ g4 := HO.out.bne 0 1 _ _ rfl rfl (by decide)
  have d1_0 := d0_1.symm
  go_wp2_with ((with_reducible refine gate_callee (f := 43) rfl ?_); refine Aside0.out ?_)
  refine ⟨?_⟩
  clear q0_0 q0_1 q1_0 q1_1 z0_0 z0_1 z1_0 z1_1 d0_1 d1_0
  replace HO : Aside0 (Vb w ((((w3.setCell ⟨g3, 0, none⟩ (.bool an)).setCell ⟨g3, 1, none⟩ (.slice PA al.length pa)).setCell ⟨g4, 0, none⟩ (.bool bn)).setCell ⟨g4, 1, none⟩ (.slice PB bl.length pb)) [(g3, 27, an, .slice PA al.length pa), (g4, 27, bn, .slice PB bl.length pb)] [(.slice PA al.length pa, al), (.slice PB bl.length pb, bl)]) := Aside0.mk (((HO.out).setBox (i := 0) (n' := an) (v' := .slice PA al.length pa) rfl).setBox (i := 1) (n' := bn) (v' := .slice PB bl.length pb) rfl)
  generalize (((w3.setCell ⟨g3, 0, none⟩ (.bool an)).setCell ⟨g3, 1, none⟩ (.slice PA al.length pa)).setCell ⟨g4, 0, none⟩ (.bool bn)).setCell ⟨g4, 1, none⟩ (.slice PB bl.length pb) = w4 at HO ⊢
  refine goesL_ (some 28) rfl rfl Try.func43 (by kernel_rfl) rfl #[.agg #[.bool an, .slice PA al.length pa], .agg #[.bool bn, .slice PB bl.length pb]] rfl (by (try simp only [List.map_toArray, List.map_cons, List.map_nil]); first | done | rfl) ?_
  refine (idiv_vb HO.out (i := 0) (j := 1) rfl rfl FI.out).mono ?_
  rintro e w5 ⟨PQ, pq, PR, pr, rfl, ho_⟩
  refine ⟨_, rfl, ?_⟩
  replace HO : Aside0 (Vb w w5 [(g3, 27, an, .slice PA al.length pa), (g4, 27, bn, .slice PB bl.length pb)] [(.slice PA al.length pa, al), (.slice PB bl.length pb, bl), (.slice PQ ql.length pq, ql), (.slice PR rl.length pr, rl)]) := Aside0.mk (ho_)
  clear ho_
  go_wp2_with ((with_reducible refine gate_dst (N := 5) rfl ?_); refine Aside0.out ?_)
  refine ⟨?_⟩
  refine box_event ?hg (N := 5) ?hd (cs := #[.bool false, .slice none 0 0]) (t := 27) ?hr ?_
  (case hd => rfl)
  (case hg => rfl)
  (case hr => first | (go_simp; done) | (go_simp; rfl))
  intro g5 hg_ w6 hbx_ hb_
  replace HO : Aside0 (Vb w w6 [(g3, 27, an, .slice PA al.length pa), (g4, 27, bn, .slice PB bl.length pb), (g5, 27, false, .slice none 0 0)] [(.slice PA al.length pa, al), (.slice PB bl.length pb, bl), (.slice PQ ql.length pq, ql), (.slice PR rl.length pr, rl)]) := Aside0.mk (HO.out.pushBox hb_ (Nat.le_of_eq hg_.symm) hbx_)
  clear hb_ hbx_ hg_
  go_wp2_with ((with_reducible refine gate_dst (N := 6) rfl ?_); refine Aside0.out ?_)
  refine ⟨?_⟩
  refine box_event ?hg (N := 6) ?hd (cs := #[.bool false, .slice none 0 0]) (t := 27) ?hr ?_
  (case hd => rfl)
  (case hg => rfl)
  (case hr => first | (go_simp; done) | (go_simp; rfl))
  intro g6 hg_ w7 hbx_ hb_
  replace HO : Aside0 (Vb w w7 [(g3, 27, an, .slice PA al.length pa), (g4, 27, bn, .slice PB bl.length pb), (g5, 27, false, .slice none 0 0), (g6, 27, false, .slice none 0 0)] [(.slice PA al.length pa, al), (.slice PB bl.length pb, bl), (.slice PQ ql.length pq, ql), (.slice PR rl.length pr, rl)]) := Aside0.mk (HO.out.pushBox hb_ (Nat.le_of_eq hg_.symm) hbx_)
  clear hb_ hbx_ hg_
  have q0_0 : w7.cell? ⟨g3, 0, none⟩ = some (.bool an) := HO.out.c0 (i := 0) rfl
  have q0_1 : w7.cell? ⟨g3, 1, none⟩ = some (.slice PA al.length pa) := HO.out.c1 (i := 0) rfl
  have q1_0 : w7.cell? ⟨g4, 0, none⟩ = some (.bool bn) := HO.out.c0 (i := 1) rfl
  have q1_1 : w7.cell? ⟨g4, 1, none⟩ = some (.slice PB bl.length pb) := HO.out.c1 (i := 1) rfl
  have q2_0 : w7.cell? ⟨g5, 0, none⟩ = some (.bool false) := HO.out.c0 (i := 2) rfl
  have q2_1 : w7.cell? ⟨g5, 1, none⟩ = some (.slice none 0 0) := HO.out.c1 (i := 2) rfl
  have q3_0 : w7.cell? ⟨g6, 0, none⟩ = some (.bool false) := HO.out.c0 (i := 3) rfl
  have q3_1 : w7.cell? ⟨g6, 1, none⟩ = some (.slice none 0 0) := HO.out.c1 (i := 3) rfl
  have z2_0 := HO.out.fz (i := 2) (g := g5) (t := 27) (n := false) (v := .slice none 0 0) rfl 0
  have z2_1 := HO.out.fz (i := 2) (g := g5) (t := 27) (n := false) (v := .slice none 0 0) rfl 1
  have z3_0 := HO.out.fz (i := 3) (g := g6) (t := 27) (n := false) (v := .slice none 0 0) rfl 0
  have z3_1 := HO.out.fz (i := 3) (g := g6) (t := 27) (n := false) (v := .slice none 0 0) rfl 1
  have d0_2 : g3 ≠ g5 := HO.out.bne 0 2 _ _ rfl rfl (by decide)
  have d2_0 := d0_2.symm
  have d0_3 : g3 ≠ g6 := HO.out.bne 0 3 _ _ rfl rfl (by decide)
  have d3_0 := d0_3.symm
  have d1_2 : g4 ≠ g5 := HO.out.bne 1 2 _ _ rfl rfl (by decide)
  have d2_1 := d1_2.symm
  have d1_3 : g4 ≠ g6 := HO.out.bne 1 3 _ _ rfl rfl (by decide)
  have d3_1 := d1_3.symm
  have d2_3 : g5 ≠ g6 := HO.out.bne 2 3 _ _ rfl rfl (by decide)
  have d3_2 := d2_3.symm
  go_wp2_with ((with_reducible refine gate_callee (f := 44) rfl ?_); refine Aside0.out ?_)
  refine ⟨?_⟩
  clear q0_0 q0_1 q1_0 q1_1 q2_0 q2_1 q3_0 q3_1 z2_0 z2_1 z3_0 z3_1 d0_2 d2_0 d0_3 d3_0 d1_2 d2_1 d1_3 d3_1 d2_3 d3_2
  replace HO : Aside0 (Vb w ((((w7.setCell ⟨g5, 0, none⟩ (.bool qn)).setCell ⟨g5, 1, none⟩ (.slice PQ ql.length pq)).setCell ⟨g6, 0, none⟩ (.bool rn)).setCell ⟨g6, 1, none⟩ (.slice PR rl.length pr)) [(g3, 27, an, .slice PA al.length pa), (g4, 27, bn, .slice PB bl.length pb), (g5, 27, qn, .slice PQ ql.length pq), (g6, 27, rn, .slice PR rl.length pr)] [(.slice PA al.length pa, al), (.slice PB bl.length pb, bl), (.slice PQ ql.length pq, ql), (.slice PR rl.length pr, rl)]) := Aside0.mk (((HO.out).setBox (i := 2) (n' := qn) (v' := .slice PQ ql.length pq) rfl).setBox (i := 3) (n' := rn) (v' := .slice PR rl.length pr) rfl)
  generalize (((w7.setCell ⟨g5, 0, none⟩ (.bool qn)).setCell ⟨g5, 1, none⟩ (.slice PQ ql.length pq)).setCell ⟨g6, 0, none⟩ (.bool rn)).setCell ⟨g6, 1, none⟩ (.slice PR rl.length pr) = w8 at HO ⊢
  refine goesL_ (some 35) rfl rfl Try.func44 (by kernel_rfl) rfl #[.agg #[.bool an, .slice PA al.length pa], .agg #[.bool bn, .slice PB bl.length pb]] rfl (by (try simp only [List.map_toArray, List.map_cons, List.map_nil]); first | done | rfl) ?_
  refine (sdiv_vb HO.out (i := 0) (j := 1) rfl rfl FS.out).mono ?_
  rintro e w9 ⟨PS, ps, PT, pt, rfl, ho_⟩
  refine ⟨_, rfl, ?_⟩
  replace HO : Aside0 (Vb w w9 [(g3, 27, an, .slice PA al.length pa), (g4, 27, bn, .slice PB bl.length pb), (g5, 27, qn, .slice PQ ql.length pq), (g6, 27, rn, .slice PR rl.length pr)] [(.slice PA al.length pa, al), (.slice PB bl.length pb, bl), (.slice PQ ql.length pq, ql), (.slice PR rl.length pr, rl), (.slice PS sl.length ps, sl), (.slice PT tl.length pt, tl)]) := Aside0.mk (ho_)
  clear ho_
  go_wp2_with ((with_reducible refine gate_dst (N := 8) rfl ?_); refine Aside0.out ?_)
  refine ⟨?_⟩
  refine box_event ?hg (N := 8) ?hd (cs := #[.bool false, .slice none 0 0]) (t := 27) ?hr ?_
  (case hd => rfl)
  (case hg => rfl)
  (case hr => first | (go_simp; done) | (go_simp; rfl))
  intro g8 hg_ w10 hbx_ hb_
  replace HO : Aside0 (Vb w w10 [(g3, 27, an, .slice PA al.length pa), (g4, 27, bn, .slice PB bl.length pb), (g5, 27, qn, .slice PQ ql.length pq), (g6, 27, rn, .slice PR rl.length pr), (g8, 27, false, .slice none 0 0)] [(.slice PA al.length pa, al), (.slice PB bl.length pb, bl), (.slice PQ ql.length pq, ql), (.slice PR rl.length pr, rl), (.slice PS sl.length ps, sl), (.slice PT tl.length pt, tl)]) := Aside0.mk (HO.out.pushBox hb_ (Nat.le_of_eq hg_.symm) hbx_)
  clear hb_ hbx_ hg_
  go_wp2_with ((with_reducible refine gate_dst (N := 9) rfl ?_); refine Aside0.out ?_)
  refine ⟨?_⟩
  refine box_event ?hg (N := 9) ?hd (cs := #[.bool false, .slice none 0 0]) (t := 27) ?hr ?_
  (case hd => rfl)
  (case hg => rfl)
  (case hr => first | (go_simp; done) | (go_simp; rfl))
  intro g9 hg_ w11 hbx_ hb_
  replace HO : Aside0 (Vb w w11 [(g3, 27, an, .slice PA al.length pa), (g4, 27, bn, .slice PB bl.length pb), (g5, 27, qn, .slice PQ ql.length pq), (g6, 27, rn, .slice PR rl.length pr), (g8, 27, false, .slice none 0 0), (g9, 27, false, .slice none 0 0)] [(.slice PA al.length pa, al), (.slice PB bl.length pb, bl), (.slice PQ ql.length pq, ql), (.slice PR rl.length pr, rl), (.slice PS sl.length ps, sl), (.slice PT tl.length pt, tl)]) := Aside0.mk (HO.out.pushBox hb_ (Nat.le_of_eq hg_.symm) hbx_)
  clear hb_ hbx_ hg_
  have q2_0 : w11.cell? ⟨g5, 0, none⟩ = some (.bool qn) := HO.out.c0 (i := 2) rfl
  have q2_1 : w11.cell? ⟨g5, 1, none⟩ = some (.slice PQ ql.length pq) := HO.out.c1 (i := 2) rfl
  have q4_0 : w11.cell? ⟨g8, 0, none⟩ = some (.bool false) := HO.out.c0 (i := 4) rfl
  have q4_1 : w11.cell? ⟨g8, 1, none⟩ = some (.slice none 0 0) := HO.out.c1 (i := 4) rfl
  have q5_0 : w11.cell? ⟨g9, 0, none⟩ = some (.bool false) := HO.out.c0 (i := 5) rfl
  have q5_1 : w11.cell? ⟨g9, 1, none⟩ = some (.slice none 0 0) := HO.out.c1 (i := 5) rfl
  have z4_0 := HO.out.fz (i := 4) (g := g8) (t := 27) (n := false) (v := .slice none 0 0) rfl 0
  have z4_1 := HO.out.fz (i := 4) (g := g8) (t := 27) (n := false) (v := .slice none 0 0) rfl 1
  have z5_0 := HO.out.fz (i := 5) (g := g9) (t := 27) (n := false) (v := .slice none 0 0) rfl 0
  have z5_1 := HO.out.fz (i := 5) (g := g9) (t := 27) (n := false) (v := .slice none 0 0) rfl 1
  have d2_4 : g5 ≠ g8 := HO.out.bne 2 4 _ _ rfl rfl (by decide)
  have d4_2 := d2_4.symm
  have d2_5 : g5 ≠ g9 := HO.out.bne 2 5 _ _ rfl rfl (by decide)
  have d5_2 := d2_5.symm
  have d4_5 : g8 ≠ g9 := HO.out.bne 4 5 _ _ rfl rfl (by decide)
  have d5_4 := d4_5.symm
  go_wp2_with ((with_reducible refine gate_callee (f := 31) rfl ?_); refine Aside0.out ?_)
  refine ⟨?_⟩
  clear q2_0 q2_1 q4_0 q4_1 q5_0 q5_1 z4_0 z4_1 z5_0 z5_1 d2_4 d4_2 d2_5 d5_2 d4_5 d5_4
  replace HO : Aside0 (Vb w ((((w11.setCell ⟨g8, 0, none⟩ (.bool sn)).setCell ⟨g8, 1, none⟩ (.slice PS sl.length ps)).setCell ⟨g9, 0, none⟩ (.bool tn)).setCell ⟨g9, 1, none⟩ (.slice PT tl.length pt)) [(g3, 27, an, .slice PA al.length pa), (g4, 27, bn, .slice PB bl.length pb), (g5, 27, qn, .slice PQ ql.length pq), (g6, 27, rn, .slice PR rl.length pr), (g8, 27, sn, .slice PS sl.length ps), (g9, 27, tn, .slice PT tl.length pt)] [(.slice PA al.length pa, al), (.slice PB bl.length pb, bl), (.slice PQ ql.length pq, ql), (.slice PR rl.length pr, rl), (.slice PS sl.length ps, sl), (.slice PT tl.length pt, tl)]) := Aside0.mk (((HO.out).setBox (i := 4) (n' := sn) (v' := .slice PS sl.length ps) rfl).setBox (i := 5) (n' := tn) (v' := .slice PT tl.length pt) rfl)
  generalize (((w11.setCell ⟨g8, 0, none⟩ (.bool sn)).setCell ⟨g8, 1, none⟩ (.slice PS sl.length ps)).setCell ⟨g9, 0, none⟩ (.bool tn)).setCell ⟨g9, 1, none⟩ (.slice PT tl.length pt) = w12 at HO ⊢
  refine gate_guard rfl ?_
  refine goesL_ (some 45) rfl rfl Try.func31 (by kernel_rfl) rfl #[.agg #[.bool qn, .slice PQ ql.length pq], .agg #[.bool sn, .slice PS sl.length ps]] rfl (by (try simp only [List.map_toArray, List.map_cons, List.map_nil]); first | done | rfl) ?_
  refine (jt_vb HO.out (i := 2) (j := 4) rfl rfl FJ.out).mono ?_
  rintro e w13 ⟨rfl, ho_⟩
  refine ⟨_, rfl, ?_⟩
  replace HO : Aside0 (Vb w w13 [(g3, 27, an, .slice PA al.length pa), (g4, 27, bn, .slice PB bl.length pb), (g5, 27, qn, .slice PQ ql.length pq), (g6, 27, rn, .slice PR rl.length pr), (g8, 27, sn, .slice PS sl.length ps), (g9, 27, tn, .slice PT tl.length pt)] [(.slice PA al.length pa, al), (.slice PB bl.length pb, bl), (.slice PQ ql.length pq, ql), (.slice PR rl.length pr, rl), (.slice PS sl.length ps, sl), (.slice PT tl.length pt, tl)]) := Aside0.mk (ho_)
  clear ho_
  have q3_0 : w13.cell? ⟨g6, 0, none⟩ = some (.bool rn) := HO.out.c0 (i := 3) rfl
  have q3_1 : w13.cell? ⟨g6, 1, none⟩ = some (.slice PR rl.length pr) := HO.out.c1 (i := 3) rfl
  have q5_0 : w13.cell? ⟨g9, 0, none⟩ = some (.bool tn) := HO.out.c0 (i := 5) rfl
  have q5_1 : w13.cell? ⟨g9, 1, none⟩ = some (.slice PT tl.length pt) := HO.out.c1 (i := 5) rfl
  go_wp2_with ((with_reducible refine gate_callee (f := 31) rfl ?_); refine Aside0.out ?_)
  refine ⟨?_⟩
  clear q3_0 q3_1 q5_0 q5_1
  refine gate_guard rfl ?_
  refine goesL_ (some 51) rfl rfl Try.func31 (by kernel_rfl) rfl #[.agg #[.bool rn, .slice PR rl.length pr], .agg #[.bool tn, .slice PT tl.length pt]] rfl (by (try simp only [List.map_toArray, List.map_cons, List.map_nil]); first | done | rfl) ?_
  refine (jt_vb HO.out (i := 3) (j := 5) rfl rfl FK.out).mono ?_
  rintro e w14 ⟨rfl, ho_⟩
  refine ⟨_, rfl, ?_⟩
  replace HO : Aside0 (Vb w w14 [(g3, 27, an, .slice PA al.length pa), (g4, 27, bn, .slice PB bl.length pb), (g5, 27, qn, .slice PQ ql.length pq), (g6, 27, rn, .slice PR rl.length pr), (g8, 27, sn, .slice PS sl.length ps), (g9, 27, tn, .slice PT tl.length pt)] [(.slice PA al.length pa, al), (.slice PB bl.length pb, bl), (.slice PQ ql.length pq, ql), (.slice PR rl.length pr, rl), (.slice PS sl.length ps, sl), (.slice PT tl.length pt, tl)]) := Aside0.mk (ho_)
  clear ho_
  have q2_0 : w14.cell? ⟨g5, 0, none⟩ = some (.bool qn) := HO.out.c0 (i := 2) rfl
  have q2_1 : w14.cell? ⟨g5, 1, none⟩ = some (.slice PQ ql.length pq) := HO.out.c1 (i := 2) rfl
  have q4_0 : w14.cell? ⟨g8, 0, none⟩ = some (.bool sn) := HO.out.c0 (i := 4) rfl
  have q4_1 : w14.cell? ⟨g8, 1, none⟩ = some (.slice PS sl.length ps) := HO.out.c1 (i := 4) rfl
  go_wp2_with ((with_reducible refine gate_callee (f := 31) rfl ?_); refine Aside0.out ?_)
  refine ⟨?_⟩
  clear q2_0 q2_1 q4_0 q4_1
  refine gate_guard rfl ?_
  refine goesL_ (some 64) rfl rfl Try.func31 (by kernel_rfl) rfl #[.agg #[.bool qn, .slice PQ ql.length pq], .agg #[.bool sn, .slice PS sl.length ps]] rfl (by (try simp only [List.map_toArray, List.map_cons, List.map_nil]); first | done | rfl) ?_
  refine (jt_vb HO.out (i := 2) (j := 4) rfl rfl FJ.out).mono ?_
  rintro e w15 ⟨rfl, ho_⟩
  refine ⟨_, rfl, ?_⟩
  replace HO : Aside0 (Vb w w15 [(g3, 27, an, .slice PA al.length pa), (g4, 27, bn, .slice PB bl.length pb), (g5, 27, qn, .slice PQ ql.length pq), (g6, 27, rn, .slice PR rl.length pr), (g8, 27, sn, .slice PS sl.length ps), (g9, 27, tn, .slice PT tl.length pt)] [(.slice PA al.length pa, al), (.slice PB bl.length pb, bl), (.slice PQ ql.length pq, ql), (.slice PR rl.length pr, rl), (.slice PS sl.length ps, sl), (.slice PT tl.length pt, tl)]) := Aside0.mk (ho_)
  clear ho_
  have q3_0 : w15.cell? ⟨g6, 0, none⟩ = some (.bool rn) := HO.out.c0 (i := 3) rfl
  have q3_1 : w15.cell? ⟨g6, 1, none⟩ = some (.slice PR rl.length pr) := HO.out.c1 (i := 3) rfl
  have q5_0 : w15.cell? ⟨g9, 0, none⟩ = some (.bool tn) := HO.out.c0 (i := 5) rfl
  have q5_1 : w15.cell? ⟨g9, 1, none⟩ = some (.slice PT tl.length pt) := HO.out.c1 (i := 5) rfl
  go_wp2_with ((with_reducible refine gate_callee (f := 31) rfl ?_); refine Aside0.out ?_)
  refine ⟨?_⟩
  clear q3_0 q3_1 q5_0 q5_1
  refine gate_guard rfl ?_
  refine goesL_ (some 69) rfl rfl Try.func31 (by kernel_rfl) rfl #[.agg #[.bool rn, .slice PR rl.length pr], .agg #[.bool tn, .slice PT tl.length pt]] rfl (by (try simp only [List.map_toArray, List.map_cons, List.map_nil]); first | done | rfl) ?_
  refine (jt_vb HO.out (i := 3) (j := 5) rfl rfl FK.out).mono ?_
  rintro e w16 ⟨rfl, ho_⟩
  refine ⟨_, rfl, ?_⟩
  replace HO : Aside0 (Vb w w16 [(g3, 27, an, .slice PA al.length pa), (g4, 27, bn, .slice PB bl.length pb), (g5, 27, qn, .slice PQ ql.length pq), (g6, 27, rn, .slice PR rl.length pr), (g8, 27, sn, .slice PS sl.length ps), (g9, 27, tn, .slice PT tl.length pt)] [(.slice PA al.length pa, al), (.slice PB bl.length pb, bl), (.slice PQ ql.length pq, ql), (.slice PR rl.length pr, rl), (.slice PS sl.length ps, sl), (.slice PT tl.length pt, tl)]) := Aside0.mk (ho_)
  clear ho_
  go_wp2_with (fail)
  go_ret
  exact ⟨by first | rfl | (simp [errW_none, errW_some] <;> rfl) | (simp [*, errW_none, errW_some] <;> rfl), HO.out.below⟩
set_option maxRecDepth 100000 in
set_option maxHeartbeats 8000000 in
theorem mainT (k : Nat) (A0 : Option Addr) (c0 : Nat) (l0 : List Int) (w : World) (hr0 : Kd.C (Kd.int .u8) w A0 l0.length l0) (hc0 : l0.length ≤ c0) {an bn qn rn sn tn : Bool} {al bl ql rl sl tl : List Int} {xn yn z r : Bool} {xl yl : List Int} (h1 : decide (1048576 < (l0.length : Int)) = false) (h2 : decide (1048576 < l0.length) = false) (fD : spec_DrawBigDiv.f k l0 = some (an, al, bn, bl)) (fI : impl_BigDiv.f k an al bn bl = some (qn, ql, rn, rl, true)) (fS : spec_BigDiv.f k an al bn bl = some (sn, sl, tn, tl, true)) (fJ : laws_jtBig.f k qn ql sn sl = some true) (fK : laws_jtBig.f k rn rl tn tl = some true) (fM : impl_BigMul.f k qn ql bn bl = some (xn, xl, true)) (fA : impl_BigAdd.f k xn xl rn rl = some (yn, yl, true)) (fY : laws_jtBig.f k yn yl an al = some true) (fC : impl_BigCmp.f k false rl false bl = some (-1)) (fZ : laws_jtZero.f rn rl = some z) (hz : r = if z = true then true else (rn == an)) :
    Calls Try.prog 18 #[.slice A0 l0.length c0] w fun e w' => e = .returned (.bool r) ∧ Below w.heap.size w w' := by
  have hu27 := Try.underlying27
  have HR0 := Aside0.mk hr0
  have HC0 := Aside0.mk hc0
  clear hr0 hc0
  have FD := Aside0.mk fD
  clear fD
  have FI := Aside0.mk fI
  clear fI
  have FS := Aside0.mk fS
  clear fS
  have FJ := Aside0.mk fJ
  clear fJ
  have FK := Aside0.mk fK
  clear fK
  have FM := Aside0.mk fM
  clear fM
  have FA := Aside0.mk fA
  clear fA
  have FY := Aside0.mk fY
  clear fY
  have FC := Aside0.mk fC
  clear fC
  have FZ := Aside0.mk fZ
  clear fZ
  have HO : Aside0 (Vb w w [] []) := Aside0.mk ⟨Below.refl _ w, fun i x h => by simp at h, fun i j x y h => by simp at h, fun i r h => by simp at h⟩
  go_enter Try.func18, Try.ntmps18
  have HZ := Aside0.mk hz
  clear hz
  go_wp2_with ((with_reducible refine gate_callee (f := 47) rfl ?_); refine Aside0.out ?_)
  refine ⟨?_⟩
  refine goesL_ (some 22) rfl rfl Try.func47 (by kernel_rfl) rfl #[.slice A0 l0.length c0] rfl (by (try simp only [List.map_toArray, List.map_cons, List.map_nil]); first | done | rfl) ?_
  refine (draw_vb HO.out HR0.out HC0.out FD.out).mono ?_
  rintro e w1 ⟨PA, pa, PB, pb, rfl, ho_⟩
  refine ⟨_, rfl, ?_⟩
  replace HO : Aside0 (Vb w w1 [] [(.slice PA al.length pa, al), (.slice PB bl.length pb, bl)]) := Aside0.mk (ho_)
  clear ho_
  go_wp2_with ((with_reducible refine gate_dst (N := 3) rfl ?_); refine Aside0.out ?_)
  refine ⟨?_⟩
  refine box_event ?hg (N := 3) ?hd (cs := #[.bool false, .slice none 0 0]) (t := 27) ?hr ?_
  (case hd => rfl)
  (case hg => rfl)
  (case hr => first | (go_simp; done) | (go_simp; rfl))
  intro g3 hg_ w2 hbx_ hb_
  replace HO : Aside0 (Vb w w2 [(g3, 27, false, .slice none 0 0)] [(.slice PA al.length pa, al), (.slice PB bl.length pb, bl)]) := Aside0.mk (HO.out.pushBox hb_ (Nat.le_of_eq hg_.symm) hbx_)
  clear hb_ hbx_ hg_
  go_wp2_with ((with_reducible refine gate_dst (N := 4) rfl ?_); refine Aside0.out ?_)
  refine ⟨?_⟩
  refine box_event ?hg (N := 4) ?hd (cs := #[.bool false, .slice none 0 0]) (t := 27) ?hr ?_
  (case hd => rfl)
  (case hg => rfl)
  (case hr => first | (go_simp; done) | (go_simp; rfl))
  intro g4 hg_ w3 hbx_ hb_
  replace HO : Aside0 (Vb w w3 [(g3, 27, false, .slice none 0 0), (g4, 27, false, .slice none 0 0)] [(.slice PA al.length pa, al), (.slice PB bl.length pb, bl)]) := Aside0.mk (HO.out.pushBox hb_ (Nat.le_of_eq hg_.symm) hbx_)
  clear hb_ hbx_ hg_
  have q0_0 : w3.cell? ⟨g3, 0, none⟩ = some (.bool false) := HO.out.c0 (i := 0) rfl
  have q0_1 : w3.cell? ⟨g3, 1, none⟩ = some (.slice none 0 0) := HO.out.c1 (i := 0) rfl
  have q1_0 : w3.cell? ⟨g4, 0, none⟩ = some (.bool false) := HO.out.c0 (i := 1) rfl
  have q1_1 : w3.cell? ⟨g4, 1, none⟩ = some (.slice none 0 0) := HO.out.c1 (i := 1) rfl
  have z0_0 := HO.out.fz (i := 0) (g := g3) (t := 27) (n := false) (v := .slice none 0 0) rfl 0
  have z0_1 := HO.out.fz (i := 0) (g := g3) (t := 27) (n := false) (v := .slice none 0 0) rfl 1
  have z1_0 := HO.out.fz (i := 1) (g := g4) (t := 27) (n := false) (v := .slice none 0 0) rfl 0
  have z1_1 := HO.out.fz (i := 1) (g := g4) (t := 27) (n := false) (v := .slice none 0 0) rfl 1
  have d0_1 : g3 ≠ g4 := HO.out.bne 0 1 _ _ rfl rfl (by decide)
  have d1_0 := d0_1.symm
  go_wp2_with ((with_reducible refine gate_callee (f := 43) rfl ?_); refine Aside0.out ?_)
  refine ⟨?_⟩
  clear q0_0 q0_1 q1_0 q1_1 z0_0 z0_1 z1_0 z1_1 d0_1 d1_0
  replace HO : Aside0 (Vb w ((((w3.setCell ⟨g3, 0, none⟩ (.bool an)).setCell ⟨g3, 1, none⟩ (.slice PA al.length pa)).setCell ⟨g4, 0, none⟩ (.bool bn)).setCell ⟨g4, 1, none⟩ (.slice PB bl.length pb)) [(g3, 27, an, .slice PA al.length pa), (g4, 27, bn, .slice PB bl.length pb)] [(.slice PA al.length pa, al), (.slice PB bl.length pb, bl)]) := Aside0.mk (((HO.out).setBox (i := 0) (n' := an) (v' := .slice PA al.length pa) rfl).setBox (i := 1) (n' := bn) (v' := .slice PB bl.length pb) rfl)
  generalize (((w3.setCell ⟨g3, 0, none⟩ (.bool an)).setCell ⟨g3, 1, none⟩ (.slice PA al.length pa)).setCell ⟨g4, 0, none⟩ (.bool bn)).setCell ⟨g4, 1, none⟩ (.slice PB bl.length pb) = w4 at HO ⊢
  refine goesL_ (some 28) rfl rfl Try.func43 (by kernel_rfl) rfl #[.agg #[.bool an, .slice PA al.length pa], .agg #[.bool bn, .slice PB bl.length pb]] rfl (by (try simp only [List.map_toArray, List.map_cons, List.map_nil]); first | done | rfl) ?_
  refine (idiv_vb HO.out (i := 0) (j := 1) rfl rfl FI.out).mono ?_
  rintro e w5 ⟨PQ, pq, PR, pr, rfl, ho_⟩
  refine ⟨_, rfl, ?_⟩
  replace HO : Aside0 (Vb w w5 [(g3, 27, an, .slice PA al.length pa), (g4, 27, bn, .slice PB bl.length pb)] [(.slice PA al.length pa, al), (.slice PB bl.length pb, bl), (.slice PQ ql.length pq, ql), (.slice PR rl.length pr, rl)]) := Aside0.mk (ho_)
  clear ho_
  go_wp2_with ((with_reducible refine gate_dst (N := 5) rfl ?_); refine Aside0.out ?_)
  refine ⟨?_⟩
  refine box_event ?hg (N := 5) ?hd (cs := #[.bool false, .slice none 0 0]) (t := 27) ?hr ?_
  (case hd => rfl)
  (case hg => rfl)
  (case hr => first | (go_simp; done) | (go_simp; rfl))
  intro g5 hg_ w6 hbx_ hb_
  replace HO : Aside0 (Vb w w6 [(g3, 27, an, .slice PA al.length pa), (g4, 27, bn, .slice PB bl.length pb), (g5, 27, false, .slice none 0 0)] [(.slice PA al.length pa, al), (.slice PB bl.length pb, bl), (.slice PQ ql.length pq, ql), (.slice PR rl.length pr, rl)]) := Aside0.mk (HO.out.pushBox hb_ (Nat.le_of_eq hg_.symm) hbx_)
  clear hb_ hbx_ hg_
  go_wp2_with ((with_reducible refine gate_dst (N := 6) rfl ?_); refine Aside0.out ?_)
  refine ⟨?_⟩
  refine box_event ?hg (N := 6) ?hd (cs := #[.bool false, .slice none 0 0]) (t := 27) ?hr ?_
  (case hd => rfl)
  (case hg => rfl)
  (case hr => first | (go_simp; done) | (go_simp; rfl))
  intro g6 hg_ w7 hbx_ hb_
  replace HO : Aside0 (Vb w w7 [(g3, 27, an, .slice PA al.length pa), (g4, 27, bn, .slice PB bl.length pb), (g5, 27, false, .slice none 0 0), (g6, 27, false, .slice none 0 0)] [(.slice PA al.length pa, al), (.slice PB bl.length pb, bl), (.slice PQ ql.length pq, ql), (.slice PR rl.length pr, rl)]) := Aside0.mk (HO.out.pushBox hb_ (Nat.le_of_eq hg_.symm) hbx_)
  clear hb_ hbx_ hg_
  have q0_0 : w7.cell? ⟨g3, 0, none⟩ = some (.bool an) := HO.out.c0 (i := 0) rfl
  have q0_1 : w7.cell? ⟨g3, 1, none⟩ = some (.slice PA al.length pa) := HO.out.c1 (i := 0) rfl
  have q1_0 : w7.cell? ⟨g4, 0, none⟩ = some (.bool bn) := HO.out.c0 (i := 1) rfl
  have q1_1 : w7.cell? ⟨g4, 1, none⟩ = some (.slice PB bl.length pb) := HO.out.c1 (i := 1) rfl
  have q2_0 : w7.cell? ⟨g5, 0, none⟩ = some (.bool false) := HO.out.c0 (i := 2) rfl
  have q2_1 : w7.cell? ⟨g5, 1, none⟩ = some (.slice none 0 0) := HO.out.c1 (i := 2) rfl
  have q3_0 : w7.cell? ⟨g6, 0, none⟩ = some (.bool false) := HO.out.c0 (i := 3) rfl
  have q3_1 : w7.cell? ⟨g6, 1, none⟩ = some (.slice none 0 0) := HO.out.c1 (i := 3) rfl
  have z2_0 := HO.out.fz (i := 2) (g := g5) (t := 27) (n := false) (v := .slice none 0 0) rfl 0
  have z2_1 := HO.out.fz (i := 2) (g := g5) (t := 27) (n := false) (v := .slice none 0 0) rfl 1
  have z3_0 := HO.out.fz (i := 3) (g := g6) (t := 27) (n := false) (v := .slice none 0 0) rfl 0
  have z3_1 := HO.out.fz (i := 3) (g := g6) (t := 27) (n := false) (v := .slice none 0 0) rfl 1
  have d0_2 : g3 ≠ g5 := HO.out.bne 0 2 _ _ rfl rfl (by decide)
  have d2_0 := d0_2.symm
  have d0_3 : g3 ≠ g6 := HO.out.bne 0 3 _ _ rfl rfl (by decide)
  have d3_0 := d0_3.symm
  have d1_2 : g4 ≠ g5 := HO.out.bne 1 2 _ _ rfl rfl (by decide)
  have d2_1 := d1_2.symm
  have d1_3 : g4 ≠ g6 := HO.out.bne 1 3 _ _ rfl rfl (by decide)
  have d3_1 := d1_3.symm
  have d2_3 : g5 ≠ g6 := HO.out.bne 2 3 _ _ rfl rfl (by decide)
  have d3_2 := d2_3.symm
  go_wp2_with ((with_reducible refine gate_callee (f := 44) rfl ?_); refine Aside0.out ?_)
  refine ⟨?_⟩
  clear q0_0 q0_1 q1_0 q1_1 q2_0 q2_1 q3_0 q3_1 z2_0 z2_1 z3_0 z3_1 d0_2 d2_0 d0_3 d3_0 d1_2 d2_1 d1_3 d3_1 d2_3 d3_2
  replace HO : Aside0 (Vb w ((((w7.setCell ⟨g5, 0, none⟩ (.bool qn)).setCell ⟨g5, 1, none⟩ (.slice PQ ql.length pq)).setCell ⟨g6, 0, none⟩ (.bool rn)).setCell ⟨g6, 1, none⟩ (.slice PR rl.length pr)) [(g3, 27, an, .slice PA al.length pa), (g4, 27, bn, .slice PB bl.length pb), (g5, 27, qn, .slice PQ ql.length pq), (g6, 27, rn, .slice PR rl.length pr)] [(.slice PA al.length pa, al), (.slice PB bl.length pb, bl), (.slice PQ ql.length pq, ql), (.slice PR rl.length pr, rl)]) := Aside0.mk (((HO.out).setBox (i := 2) (n' := qn) (v' := .slice PQ ql.length pq) rfl).setBox (i := 3) (n' := rn) (v' := .slice PR rl.length pr) rfl)
  generalize (((w7.setCell ⟨g5, 0, none⟩ (.bool qn)).setCell ⟨g5, 1, none⟩ (.slice PQ ql.length pq)).setCell ⟨g6, 0, none⟩ (.bool rn)).setCell ⟨g6, 1, none⟩ (.slice PR rl.length pr) = w8 at HO ⊢
  refine goesL_ (some 35) rfl rfl Try.func44 (by kernel_rfl) rfl #[.agg #[.bool an, .slice PA al.length pa], .agg #[.bool bn, .slice PB bl.length pb]] rfl (by (try simp only [List.map_toArray, List.map_cons, List.map_nil]); first | done | rfl) ?_
  refine (sdiv_vb HO.out (i := 0) (j := 1) rfl rfl FS.out).mono ?_
  rintro e w9 ⟨PS, ps, PT, pt, rfl, ho_⟩
  refine ⟨_, rfl, ?_⟩
  replace HO : Aside0 (Vb w w9 [(g3, 27, an, .slice PA al.length pa), (g4, 27, bn, .slice PB bl.length pb), (g5, 27, qn, .slice PQ ql.length pq), (g6, 27, rn, .slice PR rl.length pr)] [(.slice PA al.length pa, al), (.slice PB bl.length pb, bl), (.slice PQ ql.length pq, ql), (.slice PR rl.length pr, rl), (.slice PS sl.length ps, sl), (.slice PT tl.length pt, tl)]) := Aside0.mk (ho_)
  clear ho_
  go_wp2_with ((with_reducible refine gate_dst (N := 8) rfl ?_); refine Aside0.out ?_)
  refine ⟨?_⟩
  refine box_event ?hg (N := 8) ?hd (cs := #[.bool false, .slice none 0 0]) (t := 27) ?hr ?_
  (case hd => rfl)
  (case hg => rfl)
  (case hr => first | (go_simp; done) | (go_simp; rfl))
  intro g8 hg_ w10 hbx_ hb_
  replace HO : Aside0 (Vb w w10 [(g3, 27, an, .slice PA al.length pa), (g4, 27, bn, .slice PB bl.length pb), (g5, 27, qn, .slice PQ ql.length pq), (g6, 27, rn, .slice PR rl.length pr), (g8, 27, false, .slice none 0 0)] [(.slice PA al.length pa, al), (.slice PB bl.length pb, bl), (.slice PQ ql.length pq, ql), (.slice PR rl.length pr, rl), (.slice PS sl.length ps, sl), (.slice PT tl.length pt, tl)]) := Aside0.mk (HO.out.pushBox hb_ (Nat.le_of_eq hg_.symm) hbx_)
  clear hb_ hbx_ hg_
  go_wp2_with ((with_reducible refine gate_dst (N := 9) rfl ?_); refine Aside0.out ?_)
  refine ⟨?_⟩
  refine box_event ?hg (N := 9) ?hd (cs := #[.bool false, .slice none 0 0]) (t := 27) ?hr ?_
  (case hd => rfl)
  (case hg => rfl)
  (case hr => first | (go_simp; done) | (go_simp; rfl))
  intro g9 hg_ w11 hbx_ hb_
  replace HO : Aside0 (Vb w w11 [(g3, 27, an, .slice PA al.length pa), (g4, 27, bn, .slice PB bl.length pb), (g5, 27, qn, .slice PQ ql.length pq), (g6, 27, rn, .slice PR rl.length pr), (g8, 27, false, .slice none 0 0), (g9, 27, false, .slice none 0 0)] [(.slice PA al.length pa, al), (.slice PB bl.length pb, bl), (.slice PQ ql.length pq, ql), (.slice PR rl.length pr, rl), (.slice PS sl.length ps, sl), (.slice PT tl.length pt, tl)]) := Aside0.mk (HO.out.pushBox hb_ (Nat.le_of_eq hg_.symm) hbx_)
  clear hb_ hbx_ hg_
  have q2_0 : w11.cell? ⟨g5, 0, none⟩ = some (.bool qn) := HO.out.c0 (i := 2) rfl
  have q2_1 : w11.cell? ⟨g5, 1, none⟩ = some (.slice PQ ql.length pq) := HO.out.c1 (i := 2) rfl
  have q4_0 : w11.cell? ⟨g8, 0, none⟩ = some (.bool false) := HO.out.c0 (i := 4) rfl
  have q4_1 : w11.cell? ⟨g8, 1, none⟩ = some (.slice none 0 0) := HO.out.c1 (i := 4) rfl
  have q5_0 : w11.cell? ⟨g9, 0, none⟩ = some (.bool false) := HO.out.c0 (i := 5) rfl
  have q5_1 : w11.cell? ⟨g9, 1, none⟩ = some (.slice none 0 0) := HO.out.c1 (i := 5) rfl
  have z4_0 := HO.out.fz (i := 4) (g := g8) (t := 27) (n := false) (v := .slice none 0 0) rfl 0
  have z4_1 := HO.out.fz (i := 4) (g := g8) (t := 27) (n := false) (v := .slice none 0 0) rfl 1
  have z5_0 := HO.out.fz (i := 5) (g := g9) (t := 27) (n := false) (v := .slice none 0 0) rfl 0
  have z5_1 := HO.out.fz (i := 5) (g := g9) (t := 27) (n := false) (v := .slice none 0 0) rfl 1
  have d2_4 : g5 ≠ g8 := HO.out.bne 2 4 _ _ rfl rfl (by decide)
  have d4_2 := d2_4.symm
  have d2_5 : g5 ≠ g9 := HO.out.bne 2 5 _ _ rfl rfl (by decide)
  have d5_2 := d2_5.symm
  have d4_5 : g8 ≠ g9 := HO.out.bne 4 5 _ _ rfl rfl (by decide)
  have d5_4 := d4_5.symm
  go_wp2_with ((with_reducible refine gate_callee (f := 31) rfl ?_); refine Aside0.out ?_)
  refine ⟨?_⟩
  clear q2_0 q2_1 q4_0 q4_1 q5_0 q5_1 z4_0 z4_1 z5_0 z5_1 d2_4 d4_2 d2_5 d5_2 d4_5 d5_4
  replace HO : Aside0 (Vb w ((((w11.setCell ⟨g8, 0, none⟩ (.bool sn)).setCell ⟨g8, 1, none⟩ (.slice PS sl.length ps)).setCell ⟨g9, 0, none⟩ (.bool tn)).setCell ⟨g9, 1, none⟩ (.slice PT tl.length pt)) [(g3, 27, an, .slice PA al.length pa), (g4, 27, bn, .slice PB bl.length pb), (g5, 27, qn, .slice PQ ql.length pq), (g6, 27, rn, .slice PR rl.length pr), (g8, 27, sn, .slice PS sl.length ps), (g9, 27, tn, .slice PT tl.length pt)] [(.slice PA al.length pa, al), (.slice PB bl.length pb, bl), (.slice PQ ql.length pq, ql), (.slice PR rl.length pr, rl), (.slice PS sl.length ps, sl), (.slice PT tl.length pt, tl)]) := Aside0.mk (((HO.out).setBox (i := 4) (n' := sn) (v' := .slice PS sl.length ps) rfl).setBox (i := 5) (n' := tn) (v' := .slice PT tl.length pt) rfl)
  generalize (((w11.setCell ⟨g8, 0, none⟩ (.bool sn)).setCell ⟨g8, 1, none⟩ (.slice PS sl.length ps)).setCell ⟨g9, 0, none⟩ (.bool tn)).setCell ⟨g9, 1, none⟩ (.slice PT tl.length pt) = w12 at HO ⊢
  refine gate_guard rfl ?_
  refine goesL_ (some 45) rfl rfl Try.func31 (by kernel_rfl) rfl #[.agg #[.bool qn, .slice PQ ql.length pq], .agg #[.bool sn, .slice PS sl.length ps]] rfl (by (try simp only [List.map_toArray, List.map_cons, List.map_nil]); first | done | rfl) ?_
  refine (jt_vb HO.out (i := 2) (j := 4) rfl rfl FJ.out).mono ?_
  rintro e w13 ⟨rfl, ho_⟩
  refine ⟨_, rfl, ?_⟩
  replace HO : Aside0 (Vb w w13 [(g3, 27, an, .slice PA al.length pa), (g4, 27, bn, .slice PB bl.length pb), (g5, 27, qn, .slice PQ ql.length pq), (g6, 27, rn, .slice PR rl.length pr), (g8, 27, sn, .slice PS sl.length ps), (g9, 27, tn, .slice PT tl.length pt)] [(.slice PA al.length pa, al), (.slice PB bl.length pb, bl), (.slice PQ ql.length pq, ql), (.slice PR rl.length pr, rl), (.slice PS sl.length ps, sl), (.slice PT tl.length pt, tl)]) := Aside0.mk (ho_)
  clear ho_
  have q3_0 : w13.cell? ⟨g6, 0, none⟩ = some (.bool rn) := HO.out.c0 (i := 3) rfl
  have q3_1 : w13.cell? ⟨g6, 1, none⟩ = some (.slice PR rl.length pr) := HO.out.c1 (i := 3) rfl
  have q5_0 : w13.cell? ⟨g9, 0, none⟩ = some (.bool tn) := HO.out.c0 (i := 5) rfl
  have q5_1 : w13.cell? ⟨g9, 1, none⟩ = some (.slice PT tl.length pt) := HO.out.c1 (i := 5) rfl
  go_wp2_with ((with_reducible refine gate_callee (f := 31) rfl ?_); refine Aside0.out ?_)
  refine ⟨?_⟩
  clear q3_0 q3_1 q5_0 q5_1
  refine gate_guard rfl ?_
  refine goesL_ (some 51) rfl rfl Try.func31 (by kernel_rfl) rfl #[.agg #[.bool rn, .slice PR rl.length pr], .agg #[.bool tn, .slice PT tl.length pt]] rfl (by (try simp only [List.map_toArray, List.map_cons, List.map_nil]); first | done | rfl) ?_
  refine (jt_vb HO.out (i := 3) (j := 5) rfl rfl FK.out).mono ?_
  rintro e w14 ⟨rfl, ho_⟩
  refine ⟨_, rfl, ?_⟩
  replace HO : Aside0 (Vb w w14 [(g3, 27, an, .slice PA al.length pa), (g4, 27, bn, .slice PB bl.length pb), (g5, 27, qn, .slice PQ ql.length pq), (g6, 27, rn, .slice PR rl.length pr), (g8, 27, sn, .slice PS sl.length ps), (g9, 27, tn, .slice PT tl.length pt)] [(.slice PA al.length pa, al), (.slice PB bl.length pb, bl), (.slice PQ ql.length pq, ql), (.slice PR rl.length pr, rl), (.slice PS sl.length ps, sl), (.slice PT tl.length pt, tl)]) := Aside0.mk (ho_)
  clear ho_
  have q2_0 : w14.cell? ⟨g5, 0, none⟩ = some (.bool qn) := HO.out.c0 (i := 2) rfl
  have q2_1 : w14.cell? ⟨g5, 1, none⟩ = some (.slice PQ ql.length pq) := HO.out.c1 (i := 2) rfl
  have q1_0 : w14.cell? ⟨g4, 0, none⟩ = some (.bool bn) := HO.out.c0 (i := 1) rfl
  have q1_1 : w14.cell? ⟨g4, 1, none⟩ = some (.slice PB bl.length pb) := HO.out.c1 (i := 1) rfl
  go_wp2_with ((with_reducible refine gate_callee (f := 33) rfl ?_); refine Aside0.out ?_)
  refine ⟨?_⟩
  clear q2_0 q2_1 q1_0 q1_1
  refine goesL_ (some 74) rfl rfl Try.func33 (by kernel_rfl) rfl #[.agg #[.bool qn, .slice PQ ql.length pq], .agg #[.bool bn, .slice PB bl.length pb]] rfl (by (try simp only [List.map_toArray, List.map_cons, List.map_nil]); first | done | rfl) ?_
  refine (mul_vb HO.out (i := 2) (j := 1) rfl rfl FM.out).mono ?_
  rintro e w15 ⟨PX, px, rfl, ho_⟩
  refine ⟨_, rfl, ?_⟩
  replace HO : Aside0 (Vb w w15 [(g3, 27, an, .slice PA al.length pa), (g4, 27, bn, .slice PB bl.length pb), (g5, 27, qn, .slice PQ ql.length pq), (g6, 27, rn, .slice PR rl.length pr), (g8, 27, sn, .slice PS sl.length ps), (g9, 27, tn, .slice PT tl.length pt)] [(.slice PA al.length pa, al), (.slice PB bl.length pb, bl), (.slice PQ ql.length pq, ql), (.slice PR rl.length pr, rl), (.slice PS sl.length ps, sl), (.slice PT tl.length pt, tl), (.slice PX xl.length px, xl)]) := Aside0.mk (ho_)
  clear ho_
  go_wp2_with ((with_reducible refine gate_dst (N := 11) rfl ?_); refine Aside0.out ?_)
  refine ⟨?_⟩
  refine box_event ?hg (N := 11) ?hd (cs := #[.bool false, .slice none 0 0]) (t := 27) ?hr ?_
  (case hd => rfl)
  (case hg => rfl)
  (case hr => first | (go_simp; done) | (go_simp; rfl))
  intro g11 hg_ w16 hbx_ hb_
  replace HO : Aside0 (Vb w w16 [(g3, 27, an, .slice PA al.length pa), (g4, 27, bn, .slice PB bl.length pb), (g5, 27, qn, .slice PQ ql.length pq), (g6, 27, rn, .slice PR rl.length pr), (g8, 27, sn, .slice PS sl.length ps), (g9, 27, tn, .slice PT tl.length pt), (g11, 27, false, .slice none 0 0)] [(.slice PA al.length pa, al), (.slice PB bl.length pb, bl), (.slice PQ ql.length pq, ql), (.slice PR rl.length pr, rl), (.slice PS sl.length ps, sl), (.slice PT tl.length pt, tl), (.slice PX xl.length px, xl)]) := Aside0.mk (HO.out.pushBox hb_ (Nat.le_of_eq hg_.symm) hbx_)
  clear hb_ hbx_ hg_
  have q6_0 : w16.cell? ⟨g11, 0, none⟩ = some (.bool false) := HO.out.c0 (i := 6) rfl
  have q6_1 : w16.cell? ⟨g11, 1, none⟩ = some (.slice none 0 0) := HO.out.c1 (i := 6) rfl
  have q3_0 : w16.cell? ⟨g6, 0, none⟩ = some (.bool rn) := HO.out.c0 (i := 3) rfl
  have q3_1 : w16.cell? ⟨g6, 1, none⟩ = some (.slice PR rl.length pr) := HO.out.c1 (i := 3) rfl
  have z6_0 := HO.out.fz (i := 6) (g := g11) (t := 27) (n := false) (v := .slice none 0 0) rfl 0
  have z6_1 := HO.out.fz (i := 6) (g := g11) (t := 27) (n := false) (v := .slice none 0 0) rfl 1
  have d3_6 : g6 ≠ g11 := HO.out.bne 3 6 _ _ rfl rfl (by decide)
  have d6_3 := d3_6.symm
  go_wp2_with ((with_reducible refine gate_callee (f := 32) rfl ?_); refine Aside0.out ?_)
  refine ⟨?_⟩
  clear q6_0 q6_1 q3_0 q3_1 z6_0 z6_1 d3_6 d6_3
  replace HO : Aside0 (Vb w ((w16.setCell ⟨g11, 0, none⟩ (.bool xn)).setCell ⟨g11, 1, none⟩ (.slice PX xl.length px)) [(g3, 27, an, .slice PA al.length pa), (g4, 27, bn, .slice PB bl.length pb), (g5, 27, qn, .slice PQ ql.length pq), (g6, 27, rn, .slice PR rl.length pr), (g8, 27, sn, .slice PS sl.length ps), (g9, 27, tn, .slice PT tl.length pt), (g11, 27, xn, .slice PX xl.length px)] [(.slice PA al.length pa, al), (.slice PB bl.length pb, bl), (.slice PQ ql.length pq, ql), (.slice PR rl.length pr, rl), (.slice PS sl.length ps, sl), (.slice PT tl.length pt, tl), (.slice PX xl.length px, xl)]) := Aside0.mk ((HO.out).setBox (i := 6) (n' := xn) (v' := .slice PX xl.length px) rfl)
  generalize (w16.setCell ⟨g11, 0, none⟩ (.bool xn)).setCell ⟨g11, 1, none⟩ (.slice PX xl.length px) = w17 at HO ⊢
  refine goesL_ (some 80) rfl rfl Try.func32 (by kernel_rfl) rfl #[.agg #[.bool xn, .slice PX xl.length px], .agg #[.bool rn, .slice PR rl.length pr]] rfl (by (try simp only [List.map_toArray, List.map_cons, List.map_nil]); first | done | rfl) ?_
  refine (add_vb HO.out (i := 6) (j := 3) rfl rfl FA.out).mono ?_
  rintro e w18 ⟨PY, py, rfl, ho_⟩
  refine ⟨_, rfl, ?_⟩
  replace HO : Aside0 (Vb w w18 [(g3, 27, an, .slice PA al.length pa), (g4, 27, bn, .slice PB bl.length pb), (g5, 27, qn, .slice PQ ql.length pq), (g6, 27, rn, .slice PR rl.length pr), (g8, 27, sn, .slice PS sl.length ps), (g9, 27, tn, .slice PT tl.length pt), (g11, 27, xn, .slice PX xl.length px)] [(.slice PA al.length pa, al), (.slice PB bl.length pb, bl), (.slice PQ ql.length pq, ql), (.slice PR rl.length pr, rl), (.slice PS sl.length ps, sl), (.slice PT tl.length pt, tl), (.slice PX xl.length px, xl), (.slice PY yl.length py, yl)]) := Aside0.mk (ho_)
  clear ho_
  go_wp2_with ((with_reducible refine gate_dst (N := 13) rfl ?_); refine Aside0.out ?_)
  refine ⟨?_⟩
  refine box_event ?hg (N := 13) ?hd (cs := #[.bool false, .slice none 0 0]) (t := 27) ?hr ?_
  (case hd => rfl)
  (case hg => rfl)
  (case hr => first | (go_simp; done) | (go_simp; rfl))
  intro g13 hg_ w19 hbx_ hb_
  replace HO : Aside0 (Vb w w19 [(g3, 27, an, .slice PA al.length pa), (g4, 27, bn, .slice PB bl.length pb), (g5, 27, qn, .slice PQ ql.length pq), (g6, 27, rn, .slice PR rl.length pr), (g8, 27, sn, .slice PS sl.length ps), (g9, 27, tn, .slice PT tl.length pt), (g11, 27, xn, .slice PX xl.length px), (g13, 27, false, .slice none 0 0)] [(.slice PA al.length pa, al), (.slice PB bl.length pb, bl), (.slice PQ ql.length pq, ql), (.slice PR rl.length pr, rl), (.slice PS sl.length ps, sl), (.slice PT tl.length pt, tl), (.slice PX xl.length px, xl), (.slice PY yl.length py, yl)]) := Aside0.mk (HO.out.pushBox hb_ (Nat.le_of_eq hg_.symm) hbx_)
  clear hb_ hbx_ hg_
  have q7_0 : w19.cell? ⟨g13, 0, none⟩ = some (.bool false) := HO.out.c0 (i := 7) rfl
  have q7_1 : w19.cell? ⟨g13, 1, none⟩ = some (.slice none 0 0) := HO.out.c1 (i := 7) rfl
  have q3_0 : w19.cell? ⟨g6, 0, none⟩ = some (.bool rn) := HO.out.c0 (i := 3) rfl
  have q3_1 : w19.cell? ⟨g6, 1, none⟩ = some (.slice PR rl.length pr) := HO.out.c1 (i := 3) rfl
  have z7_0 := HO.out.fz (i := 7) (g := g13) (t := 27) (n := false) (v := .slice none 0 0) rfl 0
  have z7_1 := HO.out.fz (i := 7) (g := g13) (t := 27) (n := false) (v := .slice none 0 0) rfl 1
  have d3_7 : g6 ≠ g13 := HO.out.bne 3 7 _ _ rfl rfl (by decide)
  have d7_3 := d3_7.symm
  go_wp2_with ((with_reducible refine gate_dst (N := 15) rfl ?_); refine Aside0.out ?_)
  refine ⟨?_⟩
  clear q7_0 q7_1 q3_0 q3_1 z7_0 z7_1 d3_7 d7_3
  replace HO : Aside0 (Vb w ((w19.setCell ⟨g13, 0, none⟩ (.bool yn)).setCell ⟨g13, 1, none⟩ (.slice PY yl.length py)) [(g3, 27, an, .slice PA al.length pa), (g4, 27, bn, .slice PB bl.length pb), (g5, 27, qn, .slice PQ ql.length pq), (g6, 27, rn, .slice PR rl.length pr), (g8, 27, sn, .slice PS sl.length ps), (g9, 27, tn, .slice PT tl.length pt), (g11, 27, xn, .slice PX xl.length px), (g13, 27, yn, .slice PY yl.length py)] [(.slice PA al.length pa, al), (.slice PB bl.length pb, bl), (.slice PQ ql.length pq, ql), (.slice PR rl.length pr, rl), (.slice PS sl.length ps, sl), (.slice PT tl.length pt, tl), (.slice PX xl.length px, xl), (.slice PY yl.length py, yl)]) := Aside0.mk ((HO.out).setBox (i := 7) (n' := yn) (v' := .slice PY yl.length py) rfl)
  generalize (w19.setCell ⟨g13, 0, none⟩ (.bool yn)).setCell ⟨g13, 1, none⟩ (.slice PY yl.length py) = w20 at HO ⊢
  refine box_event ?hg (N := 15) ?hd (cs := #[.bool false, .slice none 0 0]) (t := 27) ?hr ?_
  (case hd => rfl)
  (case hg => rfl)
  (case hr => first | (go_simp; done) | (go_simp; rfl))
  intro g15 hg_ w21 hbx_ hb_
  replace HO : Aside0 (Vb w w21 [(g3, 27, an, .slice PA al.length pa), (g4, 27, bn, .slice PB bl.length pb), (g5, 27, qn, .slice PQ ql.length pq), (g6, 27, rn, .slice PR rl.length pr), (g8, 27, sn, .slice PS sl.length ps), (g9, 27, tn, .slice PT tl.length pt), (g11, 27, xn, .slice PX xl.length px), (g13, 27, yn, .slice PY yl.length py), (g15, 27, false, .slice none 0 0)] [(.slice PA al.length pa, al), (.slice PB bl.length pb, bl), (.slice PQ ql.length pq, ql), (.slice PR rl.length pr, rl), (.slice PS sl.length ps, sl), (.slice PT tl.length pt, tl), (.slice PX xl.length px, xl), (.slice PY yl.length py, yl)]) := Aside0.mk (HO.out.pushBox hb_ (Nat.le_of_eq hg_.symm) hbx_)
  clear hb_ hbx_ hg_
  have q8_0 : w21.cell? ⟨g15, 0, none⟩ = some (.bool false) := HO.out.c0 (i := 8) rfl
  have q8_1 : w21.cell? ⟨g15, 1, none⟩ = some (.slice none 0 0) := HO.out.c1 (i := 8) rfl
  have q1_0 : w21.cell? ⟨g4, 0, none⟩ = some (.bool bn) := HO.out.c0 (i := 1) rfl
  have q1_1 : w21.cell? ⟨g4, 1, none⟩ = some (.slice PB bl.length pb) := HO.out.c1 (i := 1) rfl
  have z8_0 := HO.out.fz (i := 8) (g := g15) (t := 27) (n := false) (v := .slice none 0 0) rfl 0
  have z8_1 := HO.out.fz (i := 8) (g := g15) (t := 27) (n := false) (v := .slice none 0 0) rfl 1
  have d1_8 : g4 ≠ g15 := HO.out.bne 1 8 _ _ rfl rfl (by decide)
  have d8_1 := d1_8.symm
  go_wp2_with ((with_reducible refine gate_dst (N := 16) rfl ?_); refine Aside0.out ?_)
  refine ⟨?_⟩
  clear q8_0 q8_1 q1_0 q1_1 z8_0 z8_1 d1_8 d8_1
  replace HO : Aside0 (Vb w ((w21.setCell ⟨g15, 0, none⟩ (.bool false)).setCell ⟨g15, 1, none⟩ (.slice PR rl.length pr)) [(g3, 27, an, .slice PA al.length pa), (g4, 27, bn, .slice PB bl.length pb), (g5, 27, qn, .slice PQ ql.length pq), (g6, 27, rn, .slice PR rl.length pr), (g8, 27, sn, .slice PS sl.length ps), (g9, 27, tn, .slice PT tl.length pt), (g11, 27, xn, .slice PX xl.length px), (g13, 27, yn, .slice PY yl.length py), (g15, 27, false, .slice PR rl.length pr)] [(.slice PA al.length pa, al), (.slice PB bl.length pb, bl), (.slice PQ ql.length pq, ql), (.slice PR rl.length pr, rl), (.slice PS sl.length ps, sl), (.slice PT tl.length pt, tl), (.slice PX xl.length px, xl), (.slice PY yl.length py, yl)]) := Aside0.mk ((HO.out).setBox (i := 8) (n' := false) (v' := .slice PR rl.length pr) rfl)
  generalize (w21.setCell ⟨g15, 0, none⟩ (.bool false)).setCell ⟨g15, 1, none⟩ (.slice PR rl.length pr) = w22 at HO ⊢
  refine box_event ?hg (N := 16) ?hd (cs := #[.bool false, .slice none 0 0]) (t := 27) ?hr ?_
  (case hd => rfl)
  (case hg => rfl)
  (case hr => first | (go_simp; done) | (go_simp; rfl))
  intro g16 hg_ w23 hbx_ hb_
  replace HO : Aside0 (Vb w w23 [(g3, 27, an, .slice PA al.length pa), (g4, 27, bn, .slice PB bl.length pb), (g5, 27, qn, .slice PQ ql.length pq), (g6, 27, rn, .slice PR rl.length pr), (g8, 27, sn, .slice PS sl.length ps), (g9, 27, tn, .slice PT tl.length pt), (g11, 27, xn, .slice PX xl.length px), (g13, 27, yn, .slice PY yl.length py), (g15, 27, false, .slice PR rl.length pr), (g16, 27, false, .slice none 0 0)] [(.slice PA al.length pa, al), (.slice PB bl.length pb, bl), (.slice PQ ql.length pq, ql), (.slice PR rl.length pr, rl), (.slice PS sl.length ps, sl), (.slice PT tl.length pt, tl), (.slice PX xl.length px, xl), (.slice PY yl.length py, yl)]) := Aside0.mk (HO.out.pushBox hb_ (Nat.le_of_eq hg_.symm) hbx_)
  clear hb_ hbx_ hg_
  have q9_0 : w23.cell? ⟨g16, 0, none⟩ = some (.bool false) := HO.out.c0 (i := 9) rfl
  have q9_1 : w23.cell? ⟨g16, 1, none⟩ = some (.slice none 0 0) := HO.out.c1 (i := 9) rfl
  have q7_0 : w23.cell? ⟨g13, 0, none⟩ = some (.bool yn) := HO.out.c0 (i := 7) rfl
  have q7_1 : w23.cell? ⟨g13, 1, none⟩ = some (.slice PY yl.length py) := HO.out.c1 (i := 7) rfl
  have q0_0 : w23.cell? ⟨g3, 0, none⟩ = some (.bool an) := HO.out.c0 (i := 0) rfl
  have q0_1 : w23.cell? ⟨g3, 1, none⟩ = some (.slice PA al.length pa) := HO.out.c1 (i := 0) rfl
  have z9_0 := HO.out.fz (i := 9) (g := g16) (t := 27) (n := false) (v := .slice none 0 0) rfl 0
  have z9_1 := HO.out.fz (i := 9) (g := g16) (t := 27) (n := false) (v := .slice none 0 0) rfl 1
  have d7_9 : g13 ≠ g16 := HO.out.bne 7 9 _ _ rfl rfl (by decide)
  have d9_7 := d7_9.symm
  have d0_9 : g3 ≠ g16 := HO.out.bne 0 9 _ _ rfl rfl (by decide)
  have d9_0 := d0_9.symm
  go_wp2_with ((with_reducible refine gate_callee (f := 31) rfl ?_); refine Aside0.out ?_)
  refine ⟨?_⟩
  clear q9_0 q9_1 q7_0 q7_1 q0_0 q0_1 z9_0 z9_1 d7_9 d9_7 d0_9 d9_0
  replace HO : Aside0 (Vb w ((w23.setCell ⟨g16, 0, none⟩ (.bool false)).setCell ⟨g16, 1, none⟩ (.slice PB bl.length pb)) [(g3, 27, an, .slice PA al.length pa), (g4, 27, bn, .slice PB bl.length pb), (g5, 27, qn, .slice PQ ql.length pq), (g6, 27, rn, .slice PR rl.length pr), (g8, 27, sn, .slice PS sl.length ps), (g9, 27, tn, .slice PT tl.length pt), (g11, 27, xn, .slice PX xl.length px), (g13, 27, yn, .slice PY yl.length py), (g15, 27, false, .slice PR rl.length pr), (g16, 27, false, .slice PB bl.length pb)] [(.slice PA al.length pa, al), (.slice PB bl.length pb, bl), (.slice PQ ql.length pq, ql), (.slice PR rl.length pr, rl), (.slice PS sl.length ps, sl), (.slice PT tl.length pt, tl), (.slice PX xl.length px, xl), (.slice PY yl.length py, yl)]) := Aside0.mk ((HO.out).setBox (i := 9) (n' := false) (v' := .slice PB bl.length pb) rfl)
  generalize (w23.setCell ⟨g16, 0, none⟩ (.bool false)).setCell ⟨g16, 1, none⟩ (.slice PB bl.length pb) = w24 at HO ⊢
  refine gate_guard rfl ?_
  refine goesL_ (some 96) rfl rfl Try.func31 (by kernel_rfl) rfl #[.agg #[.bool yn, .slice PY yl.length py], .agg #[.bool an, .slice PA al.length pa]] rfl (by (try simp only [List.map_toArray, List.map_cons, List.map_nil]); first | done | rfl) ?_
  refine (jt_vb HO.out (i := 7) (j := 0) rfl rfl FY.out).mono ?_
  rintro e w25 ⟨rfl, ho_⟩
  refine ⟨_, rfl, ?_⟩
  replace HO : Aside0 (Vb w w25 [(g3, 27, an, .slice PA al.length pa), (g4, 27, bn, .slice PB bl.length pb), (g5, 27, qn, .slice PQ ql.length pq), (g6, 27, rn, .slice PR rl.length pr), (g8, 27, sn, .slice PS sl.length ps), (g9, 27, tn, .slice PT tl.length pt), (g11, 27, xn, .slice PX xl.length px), (g13, 27, yn, .slice PY yl.length py), (g15, 27, false, .slice PR rl.length pr), (g16, 27, false, .slice PB bl.length pb)] [(.slice PA al.length pa, al), (.slice PB bl.length pb, bl), (.slice PQ ql.length pq, ql), (.slice PR rl.length pr, rl), (.slice PS sl.length ps, sl), (.slice PT tl.length pt, tl), (.slice PX xl.length px, xl), (.slice PY yl.length py, yl)]) := Aside0.mk (ho_)
  clear ho_
  have q8_0 : w25.cell? ⟨g15, 0, none⟩ = some (.bool false) := HO.out.c0 (i := 8) rfl
  have q8_1 : w25.cell? ⟨g15, 1, none⟩ = some (.slice PR rl.length pr) := HO.out.c1 (i := 8) rfl
  have q9_0 : w25.cell? ⟨g16, 0, none⟩ = some (.bool false) := HO.out.c0 (i := 9) rfl
  have q9_1 : w25.cell? ⟨g16, 1, none⟩ = some (.slice PB bl.length pb) := HO.out.c1 (i := 9) rfl
  go_wp2_with ((with_reducible refine gate_callee (f := 35) rfl ?_); refine Aside0.out ?_)
  refine ⟨?_⟩
  clear q8_0 q8_1 q9_0 q9_1
  refine gate_guard rfl ?_
  refine goesL_ (some 101) rfl rfl Try.func35 (by kernel_rfl) rfl #[.agg #[.bool false, .slice PR rl.length pr], .agg #[.bool false, .slice PB bl.length pb]] rfl (by (try simp only [List.map_toArray, List.map_cons, List.map_nil]); first | done | rfl) ?_
  refine (cmp_vb HO.out (i := 3) (j := 1) rfl rfl FC.out).mono ?_
  rintro e w26 ⟨rfl, ho_⟩
  refine ⟨_, rfl, ?_⟩
  replace HO : Aside0 (Vb w w26 [(g3, 27, an, .slice PA al.length pa), (g4, 27, bn, .slice PB bl.length pb), (g5, 27, qn, .slice PQ ql.length pq), (g6, 27, rn, .slice PR rl.length pr), (g8, 27, sn, .slice PS sl.length ps), (g9, 27, tn, .slice PT tl.length pt), (g11, 27, xn, .slice PX xl.length px), (g13, 27, yn, .slice PY yl.length py), (g15, 27, false, .slice PR rl.length pr), (g16, 27, false, .slice PB bl.length pb)] [(.slice PA al.length pa, al), (.slice PB bl.length pb, bl), (.slice PQ ql.length pq, ql), (.slice PR rl.length pr, rl), (.slice PS sl.length ps, sl), (.slice PT tl.length pt, tl), (.slice PX xl.length px, xl), (.slice PY yl.length py, yl)]) := Aside0.mk (ho_)
  clear ho_
  have q3_0 : w26.cell? ⟨g6, 0, none⟩ = some (.bool rn) := HO.out.c0 (i := 3) rfl
  have q3_1 : w26.cell? ⟨g6, 1, none⟩ = some (.slice PR rl.length pr) := HO.out.c1 (i := 3) rfl
  go_wp2_with ((with_reducible refine gate_callee (f := 42) rfl ?_); refine Aside0.out ?_)
  refine ⟨?_⟩
  clear q3_0 q3_1
  refine gate_guard rfl ?_
  refine goesL_ (some 106) rfl rfl Try.func42 (by kernel_rfl) rfl #[.agg #[.bool rn, .slice PR rl.length pr]] rfl (by (try simp only [List.map_toArray, List.map_cons, List.map_nil]); first | done | rfl) ?_
  refine (zero_vb HO.out (i := 3) rfl FZ.out).mono ?_
  rintro e w27 ⟨rfl, ho_⟩
  refine ⟨_, rfl, ?_⟩
  replace HO : Aside0 (Vb w w27 [(g3, 27, an, .slice PA al.length pa), (g4, 27, bn, .slice PB bl.length pb), (g5, 27, qn, .slice PQ ql.length pq), (g6, 27, rn, .slice PR rl.length pr), (g8, 27, sn, .slice PS sl.length ps), (g9, 27, tn, .slice PT tl.length pt), (g11, 27, xn, .slice PX xl.length px), (g13, 27, yn, .slice PY yl.length py), (g15, 27, false, .slice PR rl.length pr), (g16, 27, false, .slice PB bl.length pb)] [(.slice PA al.length pa, al), (.slice PB bl.length pb, bl), (.slice PQ ql.length pq, ql), (.slice PR rl.length pr, rl), (.slice PS sl.length ps, sl), (.slice PT tl.length pt, tl), (.slice PX xl.length px, xl), (.slice PY yl.length py, yl)]) := Aside0.mk (ho_)
  clear ho_
  have q3_0 : w27.cell? ⟨g6, 0, none⟩ = some (.bool rn) := HO.out.c0 (i := 3) rfl
  have q3_1 : w27.cell? ⟨g6, 1, none⟩ = some (.slice PR rl.length pr) := HO.out.c1 (i := 3) rfl
  have q0_0 : w27.cell? ⟨g3, 0, none⟩ = some (.bool an) := HO.out.c0 (i := 0) rfl
  have q0_1 : w27.cell? ⟨g3, 1, none⟩ = some (.slice PA al.length pa) := HO.out.c1 (i := 0) rfl
  have hz := HZ.out
  cases z
  · have hz2 : r = (rn == an) := hz
    subst hz2
    clear hz HZ
    go_wp2_with (fail)
    go_ret
    exact ⟨by first | rfl | (simp [errW_none, errW_some] <;> rfl) | (simp [*, errW_none, errW_some] <;> rfl), HO.out.below⟩
  · have hz2 : r = true := hz
    subst hz2
    clear hz HZ
    go_wp2_with (fail)
    go_ret
    exact ⟨by first | rfl | (simp [errW_none, errW_some] <;> rfl) | (simp [*, errW_none, errW_some] <;> rfl), HO.out.below⟩
end Go.Proofs.Ytdemeoncjcbojaa.Bd
end
section
namespace Go.Proofs.Ytdemeoncjcbojaa.Pr
open Go.RowKit Go.Proofs.YtdemeoncjcbojaaW.PrintWords Go.Proofs.YtdemeoncjcbojaaW.PrintLast Go.Proofs.Ytdemeoncjcbojaa.Ext Go.Proofs.YtdemeoncjcbojaaW.PrintMore
attribute [local go_sem] max2_int min2_int max_two min_two max_three min_three max_four min_four
set_option linter.unusedVariables false
set_option linter.unusedSimpArgs false
def laws_FnBigDiv.f (k : Nat) (l0 : List Int) : Option (Bool) := if (l0.length : Int) > 1048576 then (some true) else ((spec_DrawBigDiv.f k l0).bind fun bt0h => ((impl_BigDiv.f k bt0h.1 bt0h.2.1 bt0h.2.2.1 bt0h.2.2.2).bind fun bt0l => ((spec_BigDiv.f k bt0h.1 bt0h.2.1 bt0h.2.2.1 bt0h.2.2.2).bind fun bt0q => (if (bt0l.2.2.2.2 != bt0q.2.2.2.2) = true then (none) else ((laws_jtBig.f k bt0l.1 bt0l.2.1 bt0q.1 bt0q.2.1).bind fun t0v => (if t0v = true then ((laws_jtBig.f k bt0l.2.2.1 bt0l.2.2.2.1 bt0q.2.2.1 bt0q.2.2.2.1).bind fun t0w => (if t0w = true then (if bt0l.2.2.2.2 = true then ((impl_BigMul.f k bt0l.1 bt0l.2.1 bt0h.2.2.1 bt0h.2.2.2).bind fun bt0z => ((impl_BigAdd.f k bt0z.1 bt0z.2.1 bt0l.2.2.1 bt0l.2.2.2.1).bind fun bt1c => (if bt0z.2.2 = true then (if bt1c.2.2 = true then ((laws_jtBig.f k bt1c.1 bt1c.2.1 bt0h.1 bt0h.2.1).bind fun t1f => (if t1f = true then ((impl_BigCmp.f k false bt0l.2.2.2.1 false bt0h.2.2.2).bind fun t1g => (if t1g = (-1) then ((laws_jtZero.f bt0l.2.2.1 bt0l.2.2.2.1).bind fun t1h => (if t1h = true then (some true) else (some (bt0l.2.2.1 == bt0h.1)))) else (none))) else (none))) else (none)) else (none)))) else (if (bt0l.2.2.2.2 == bt0q.2.2.2.2) = true then ((laws_jtBig.f k bt0l.1 bt0l.2.1 bt0q.1 bt0q.2.1).bind fun t0x => (if t0x = true then ((laws_jtBig.f k bt0l.2.2.1 bt0l.2.2.2.1 bt0q.2.2.1 bt0q.2.2.2.1).bind fun t0y => (some t0y)) else (none))) else (none))) else (none))) else (none)))))))
set_option maxHeartbeats 8000000 in
set_option maxRecDepth 100000 in
theorem laws_FnBigDiv.calls (k : Nat) (A0 : Option Addr) (c0 : Nat) (l0 : List Int) (r : Bool) (w : World) (hr0 : Kd.C (Kd.int .u8) w A0 l0.length l0) (hc0 : l0.length ≤ c0) (h : laws_FnBigDiv.f k l0 = some r) :
    Calls Try.prog 18 #[.slice A0 l0.length c0] w fun e w' => e = .returned (.bool r) ∧ Below w.heap.size w w' := by
  have hu27 := Try.underlying27; have HR0 := zm hr0; have HC0 := zm hc0; clear hr0 hc0; have HB := zm (Below.refl w.heap.size w); have H : (if (l0.length : Int) > 1048576 then (some true) else ((spec_DrawBigDiv.f k l0).bind fun bt0h => ((impl_BigDiv.f k bt0h.1 bt0h.2.1 bt0h.2.2.1 bt0h.2.2.2).bind fun bt0l => ((spec_BigDiv.f k bt0h.1 bt0h.2.1 bt0h.2.2.1 bt0h.2.2.2).bind fun bt0q => (if (bt0l.2.2.2.2 != bt0q.2.2.2.2) = true then (none) else ((laws_jtBig.f k bt0l.1 bt0l.2.1 bt0q.1 bt0q.2.1).bind fun t0v => (if t0v = true then ((laws_jtBig.f k bt0l.2.2.1 bt0l.2.2.2.1 bt0q.2.2.1 bt0q.2.2.2.1).bind fun t0w => (if t0w = true then (if bt0l.2.2.2.2 = true then ((impl_BigMul.f k bt0l.1 bt0l.2.1 bt0h.2.2.1 bt0h.2.2.2).bind fun bt0z => ((impl_BigAdd.f k bt0z.1 bt0z.2.1 bt0l.2.2.1 bt0l.2.2.2.1).bind fun bt1c => (if bt0z.2.2 = true then (if bt1c.2.2 = true then ((laws_jtBig.f k bt1c.1 bt1c.2.1 bt0h.1 bt0h.2.1).bind fun t1f => (if t1f = true then ((impl_BigCmp.f k false bt0l.2.2.2.1 false bt0h.2.2.2).bind fun t1g => (if t1g = (-1) then ((laws_jtZero.f bt0l.2.2.1 bt0l.2.2.2.1).bind fun t1h => (if t1h = true then (some true) else (some (bt0l.2.2.1 == bt0h.1)))) else (none))) else (none))) else (none)) else (none)))) else (if (bt0l.2.2.2.2 == bt0q.2.2.2.2) = true then ((laws_jtBig.f k bt0l.1 bt0l.2.1 bt0q.1 bt0q.2.1).bind fun t0x => (if t0x = true then ((laws_jtBig.f k bt0l.2.2.1 bt0l.2.2.2.1 bt0q.2.2.1 bt0q.2.2.2.1).bind fun t0y => (some t0y)) else (none))) else (none))) else (none))) else (none)))))))) = some r := h; clear h
  by_cases c2 : (l0.length : Int) > 1048576
  · rw [if_pos c2] at H
    have c2b0 : decide (1048576 < (l0.length : Int)) = true := decide_eq_true c2; have c2b1 : decide (1048576 < l0.length) = true := decide_eq_true (by omega); clear c2; obtain rfl := Option.some.inj H; go_enter Try.func18, Try.ntmps18
    go_wp2
    go_ret
    exact ⟨by first | rfl | (simp [errW_none, errW_some] <;> rfl) | (simp [*, errW_none, errW_some] <;> rfl), zb⟩
  · rw [if_neg c2] at H
    have c2b0 : decide (1048576 < (l0.length : Int)) = false := decide_eq_false c2; have c2b1 : decide (1048576 < l0.length) = false := decide_eq_false (by omega); clear c2; replace H := Option.bind_eq_some_iff.mp H; obtain ⟨⟨t0h, t0i, t0j, t0k⟩, A30, H⟩ := H; replace H : ((impl_BigDiv.f k t0h t0i t0j t0k).bind fun bt0l => ((spec_BigDiv.f k t0h t0i t0j t0k).bind fun bt0q => (if (bt0l.2.2.2.2 != bt0q.2.2.2.2) = true then (none) else ((laws_jtBig.f k bt0l.1 bt0l.2.1 bt0q.1 bt0q.2.1).bind fun t0v => (if t0v = true then ((laws_jtBig.f k bt0l.2.2.1 bt0l.2.2.2.1 bt0q.2.2.1 bt0q.2.2.2.1).bind fun t0w => (if t0w = true then (if bt0l.2.2.2.2 = true then ((impl_BigMul.f k bt0l.1 bt0l.2.1 t0j t0k).bind fun bt0z => ((impl_BigAdd.f k bt0z.1 bt0z.2.1 bt0l.2.2.1 bt0l.2.2.2.1).bind fun bt1c => (if bt0z.2.2 = true then (if bt1c.2.2 = true then ((laws_jtBig.f k bt1c.1 bt1c.2.1 t0h t0i).bind fun t1f => (if t1f = true then ((impl_BigCmp.f k false bt0l.2.2.2.1 false t0k).bind fun t1g => (if t1g = (-1) then ((laws_jtZero.f bt0l.2.2.1 bt0l.2.2.2.1).bind fun t1h => (if t1h = true then (some true) else (some (bt0l.2.2.1 == t0h)))) else (none))) else (none))) else (none)) else (none)))) else (if (bt0l.2.2.2.2 == bt0q.2.2.2.2) = true then ((laws_jtBig.f k bt0l.1 bt0l.2.1 bt0q.1 bt0q.2.1).bind fun t0x => (if t0x = true then ((laws_jtBig.f k bt0l.2.2.1 bt0l.2.2.2.1 bt0q.2.2.1 bt0q.2.2.2.1).bind fun t0y => (some t0y)) else (none))) else (none))) else (none))) else (none)))))) = some r := H; have A3 := zm A30; clear A30; replace H := Option.bind_eq_some_iff.mp H; obtain ⟨⟨t0l, t0m, t0n, t0o, t0p⟩, A40, H⟩ := H; replace H : ((spec_BigDiv.f k t0h t0i t0j t0k).bind fun bt0q => (if (t0p != bt0q.2.2.2.2) = true then (none) else ((laws_jtBig.f k t0l t0m bt0q.1 bt0q.2.1).bind fun t0v => (if t0v = true then ((laws_jtBig.f k t0n t0o bt0q.2.2.1 bt0q.2.2.2.1).bind fun t0w => (if t0w = true then (if t0p = true then ((impl_BigMul.f k t0l t0m t0j t0k).bind fun bt0z => ((impl_BigAdd.f k bt0z.1 bt0z.2.1 t0n t0o).bind fun bt1c => (if bt0z.2.2 = true then (if bt1c.2.2 = true then ((laws_jtBig.f k bt1c.1 bt1c.2.1 t0h t0i).bind fun t1f => (if t1f = true then ((impl_BigCmp.f k false t0o false t0k).bind fun t1g => (if t1g = (-1) then ((laws_jtZero.f t0n t0o).bind fun t1h => (if t1h = true then (some true) else (some (t0n == t0h)))) else (none))) else (none))) else (none)) else (none)))) else (if (t0p == bt0q.2.2.2.2) = true then ((laws_jtBig.f k t0l t0m bt0q.1 bt0q.2.1).bind fun t0x => (if t0x = true then ((laws_jtBig.f k t0n t0o bt0q.2.2.1 bt0q.2.2.2.1).bind fun t0y => (some t0y)) else (none))) else (none))) else (none))) else (none))))) = some r := H; have A4 := zm A40; clear A40; replace H := Option.bind_eq_some_iff.mp H; obtain ⟨⟨t0q, t0r, t0s, t0t, t0u⟩, A50, H⟩ := H; replace H : (if (t0p != t0u) = true then (none) else ((laws_jtBig.f k t0l t0m t0q t0r).bind fun t0v => (if t0v = true then ((laws_jtBig.f k t0n t0o t0s t0t).bind fun t0w => (if t0w = true then (if t0p = true then ((impl_BigMul.f k t0l t0m t0j t0k).bind fun bt0z => ((impl_BigAdd.f k bt0z.1 bt0z.2.1 t0n t0o).bind fun bt1c => (if bt0z.2.2 = true then (if bt1c.2.2 = true then ((laws_jtBig.f k bt1c.1 bt1c.2.1 t0h t0i).bind fun t1f => (if t1f = true then ((impl_BigCmp.f k false t0o false t0k).bind fun t1g => (if t1g = (-1) then ((laws_jtZero.f t0n t0o).bind fun t1h => (if t1h = true then (some true) else (some (t0n == t0h)))) else (none))) else (none))) else (none)) else (none)))) else (if (t0p == t0u) = true then ((laws_jtBig.f k t0l t0m t0q t0r).bind fun t0x => (if t0x = true then ((laws_jtBig.f k t0n t0o t0s t0t).bind fun t0y => (some t0y)) else (none))) else (none))) else (none))) else (none)))) = some r := H
    have A5 := zm A50; clear A50
    by_cases c6 : (t0p != t0u) = true
    · rw [if_pos c6] at H
      exact absurd H (by simp)
    · rw [if_neg c6] at H
      (have c6b0 : (t0p != t0u) = false := by simpa using c6); (try (have c6b1 : decide (t0p = t0u) = true := by simpa using c6)); (try (have c6b2 : (t0p == t0u) = true := by simpa using c6)); clear c6; replace H := Option.bind_eq_some_iff.mp H; obtain ⟨t0v, A70, H⟩ := H; replace H : (if t0v = true then ((laws_jtBig.f k t0n t0o t0s t0t).bind fun t0w => (if t0w = true then (if t0p = true then ((impl_BigMul.f k t0l t0m t0j t0k).bind fun bt0z => ((impl_BigAdd.f k bt0z.1 bt0z.2.1 t0n t0o).bind fun bt1c => (if bt0z.2.2 = true then (if bt1c.2.2 = true then ((laws_jtBig.f k bt1c.1 bt1c.2.1 t0h t0i).bind fun t1f => (if t1f = true then ((impl_BigCmp.f k false t0o false t0k).bind fun t1g => (if t1g = (-1) then ((laws_jtZero.f t0n t0o).bind fun t1h => (if t1h = true then (some true) else (some (t0n == t0h)))) else (none))) else (none))) else (none)) else (none)))) else (if (t0p == t0u) = true then ((laws_jtBig.f k t0l t0m t0q t0r).bind fun t0x => (if t0x = true then ((laws_jtBig.f k t0n t0o t0s t0t).bind fun t0y => (some t0y)) else (none))) else (none))) else (none))) else (none)) = some r := H; have A7 := zm A70; clear A70
      by_cases c8 : t0v = true
      · subst c8
        (have H1 : ((laws_jtBig.f k t0n t0o t0s t0t).bind fun t0w => (if t0w = true then (if t0p = true then ((impl_BigMul.f k t0l t0m t0j t0k).bind fun bt0z => ((impl_BigAdd.f k bt0z.1 bt0z.2.1 t0n t0o).bind fun bt1c => (if bt0z.2.2 = true then (if bt1c.2.2 = true then ((laws_jtBig.f k bt1c.1 bt1c.2.1 t0h t0i).bind fun t1f => (if t1f = true then ((impl_BigCmp.f k false t0o false t0k).bind fun t1g => (if t1g = (-1) then ((laws_jtZero.f t0n t0o).bind fun t1h => (if t1h = true then (some true) else (some (t0n == t0h)))) else (none))) else (none))) else (none)) else (none)))) else (if (t0p == t0u) = true then ((laws_jtBig.f k t0l t0m t0q t0r).bind fun t0x => (if t0x = true then ((laws_jtBig.f k t0n t0o t0s t0t).bind fun t0y => (some t0y)) else (none))) else (none))) else (none))) = some r := by rw [if_pos rfl] at H; exact H); clear H; have H := H1; clear H1; replace H := Option.bind_eq_some_iff.mp H; obtain ⟨t0w, A90, H⟩ := H; replace H : (if t0w = true then (if t0p = true then ((impl_BigMul.f k t0l t0m t0j t0k).bind fun bt0z => ((impl_BigAdd.f k bt0z.1 bt0z.2.1 t0n t0o).bind fun bt1c => (if bt0z.2.2 = true then (if bt1c.2.2 = true then ((laws_jtBig.f k bt1c.1 bt1c.2.1 t0h t0i).bind fun t1f => (if t1f = true then ((impl_BigCmp.f k false t0o false t0k).bind fun t1g => (if t1g = (-1) then ((laws_jtZero.f t0n t0o).bind fun t1h => (if t1h = true then (some true) else (some (t0n == t0h)))) else (none))) else (none))) else (none)) else (none)))) else (if (t0p == t0u) = true then ((laws_jtBig.f k t0l t0m t0q t0r).bind fun t0x => (if t0x = true then ((laws_jtBig.f k t0n t0o t0s t0t).bind fun t0y => (some t0y)) else (none))) else (none))) else (none)) = some r := H; have A9 := zm A90; clear A90
        by_cases c10 : t0w = true
        · subst c10
          (have H1 : (if t0p = true then ((impl_BigMul.f k t0l t0m t0j t0k).bind fun bt0z => ((impl_BigAdd.f k bt0z.1 bt0z.2.1 t0n t0o).bind fun bt1c => (if bt0z.2.2 = true then (if bt1c.2.2 = true then ((laws_jtBig.f k bt1c.1 bt1c.2.1 t0h t0i).bind fun t1f => (if t1f = true then ((impl_BigCmp.f k false t0o false t0k).bind fun t1g => (if t1g = (-1) then ((laws_jtZero.f t0n t0o).bind fun t1h => (if t1h = true then (some true) else (some (t0n == t0h)))) else (none))) else (none))) else (none)) else (none)))) else (if (t0p == t0u) = true then ((laws_jtBig.f k t0l t0m t0q t0r).bind fun t0x => (if t0x = true then ((laws_jtBig.f k t0n t0o t0s t0t).bind fun t0y => (some t0y)) else (none))) else (none))) = some r := by rw [if_pos rfl] at H; exact H); clear H; have H := H1; clear H1
          by_cases c11 : t0p = true
          · subst c11
            (have H1 : ((impl_BigMul.f k t0l t0m t0j t0k).bind fun bt0z => ((impl_BigAdd.f k bt0z.1 bt0z.2.1 t0n t0o).bind fun bt1c => (if bt0z.2.2 = true then (if bt1c.2.2 = true then ((laws_jtBig.f k bt1c.1 bt1c.2.1 t0h t0i).bind fun t1f => (if t1f = true then ((impl_BigCmp.f k false t0o false t0k).bind fun t1g => (if t1g = (-1) then ((laws_jtZero.f t0n t0o).bind fun t1h => (if t1h = true then (some true) else (some (t0n == t0h)))) else (none))) else (none))) else (none)) else (none)))) = some r := by rw [if_pos rfl] at H; exact H); clear H; have H := H1; clear H1; replace H := Option.bind_eq_some_iff.mp H; obtain ⟨⟨t0z, t1a, t1b⟩, A0a, H⟩ := H; replace H : ((impl_BigAdd.f k t0z t1a t0n t0o).bind fun bt1c => (if t1b = true then (if bt1c.2.2 = true then ((laws_jtBig.f k bt1c.1 bt1c.2.1 t0h t0i).bind fun t1f => (if t1f = true then ((impl_BigCmp.f k false t0o false t0k).bind fun t1g => (if t1g = (-1) then ((laws_jtZero.f t0n t0o).bind fun t1h => (if t1h = true then (some true) else (some (t0n == t0h)))) else (none))) else (none))) else (none)) else (none))) = some r := H; have A12 := zm A0a; clear A0a; replace H := Option.bind_eq_some_iff.mp H; obtain ⟨⟨t1c, t1d, t1e⟩, A0b, H⟩ := H; replace H : (if t1b = true then (if t1e = true then ((laws_jtBig.f k t1c t1d t0h t0i).bind fun t1f => (if t1f = true then ((impl_BigCmp.f k false t0o false t0k).bind fun t1g => (if t1g = (-1) then ((laws_jtZero.f t0n t0o).bind fun t1h => (if t1h = true then (some true) else (some (t0n == t0h)))) else (none))) else (none))) else (none)) else (none)) = some r := H; have A13 := zm A0b; clear A0b
            by_cases c14 : t1b = true
            · subst c14
              (have H1 : (if t1e = true then ((laws_jtBig.f k t1c t1d t0h t0i).bind fun t1f => (if t1f = true then ((impl_BigCmp.f k false t0o false t0k).bind fun t1g => (if t1g = (-1) then ((laws_jtZero.f t0n t0o).bind fun t1h => (if t1h = true then (some true) else (some (t0n == t0h)))) else (none))) else (none))) else (none)) = some r := by rw [if_pos rfl] at H; exact H); clear H; have H := H1; clear H1
              by_cases c15 : t1e = true
              · subst c15
                (have H1 : ((laws_jtBig.f k t1c t1d t0h t0i).bind fun t1f => (if t1f = true then ((impl_BigCmp.f k false t0o false t0k).bind fun t1g => (if t1g = (-1) then ((laws_jtZero.f t0n t0o).bind fun t1h => (if t1h = true then (some true) else (some (t0n == t0h)))) else (none))) else (none))) = some r := by rw [if_pos rfl] at H; exact H); clear H; have H := H1; clear H1; replace H := Option.bind_eq_some_iff.mp H; obtain ⟨t1f, A0c, H⟩ := H; replace H : (if t1f = true then ((impl_BigCmp.f k false t0o false t0k).bind fun t1g => (if t1g = (-1) then ((laws_jtZero.f t0n t0o).bind fun t1h => (if t1h = true then (some true) else (some (t0n == t0h)))) else (none))) else (none)) = some r := H; have A16 := zm A0c; clear A0c
                by_cases c17 : t1f = true
                · subst c17
                  (have H1 : ((impl_BigCmp.f k false t0o false t0k).bind fun t1g => (if t1g = (-1) then ((laws_jtZero.f t0n t0o).bind fun t1h => (if t1h = true then (some true) else (some (t0n == t0h)))) else (none))) = some r := by rw [if_pos rfl] at H; exact H); clear H; have H := H1; clear H1; replace H := Option.bind_eq_some_iff.mp H; obtain ⟨t1g, A0d, H⟩ := H; replace H : (if t1g = (-1) then ((laws_jtZero.f t0n t0o).bind fun t1h => (if t1h = true then (some true) else (some (t0n == t0h)))) else (none)) = some r := H; have A18 := zm A0d; clear A0d
                  by_cases c19 : t1g = (-1)
                  · rw [if_pos c19] at H
                    have c19b0 : (t1g == (-1)) = true := beq_iff_eq.mpr c19; have c19b1 : (t1g != (-1)) = false := bne_eq_false_iff_eq.mpr c19; clear c19; replace H := Option.bind_eq_some_iff.mp H; obtain ⟨t1h, A0e, H⟩ := H; replace H : (if t1h = true then (some true) else (some (t0n == t0h))) = some r := H; have A20 := zm A0e; clear A0e
                    by_cases c21 : t1h = true
                    · subst c21
                      (have H1 : (some true) = some r := by rw [if_pos rfl] at H; exact H); clear H; have H := H1; clear H1; obtain rfl := Option.some.inj H; (have e6_ : t0u = true := by simpa using c6b0); subst e6_; have e7_ : t1g = (-1) := eq_of_beq c19b0; subst e7_; (exact Bd.mainT k A0 c0 l0 w HR0.out HC0.out c2b0 c2b1 A3.out A4.out A5.out A7.out A9.out A12.out A13.out A16.out A18.out A20.out (by simp))
                    · replace c21 := Bool.eq_false_iff.mpr c21
                      subst c21; (have H1 : (some (t0n == t0h)) = some r := by rw [if_neg (show ¬ (false = true) by decide)] at H; exact H); clear H; have H := H1; clear H1; obtain rfl := Option.some.inj H; (have e6_ : t0u = true := by simpa using c6b0); subst e6_; have e7_ : t1g = (-1) := eq_of_beq c19b0; subst e7_; (exact Bd.mainT k A0 c0 l0 w HR0.out HC0.out c2b0 c2b1 A3.out A4.out A5.out A7.out A9.out A12.out A13.out A16.out A18.out A20.out (by simp))
                  · rw [if_neg c19] at H
                    exact absurd H (by simp)
                · replace c17 := Bool.eq_false_iff.mpr c17
                  subst c17; (have H1 : (none) = some r := by rw [if_neg (show ¬ (false = true) by decide)] at H; exact H); clear H; have H := H1; clear H1; (exact absurd H (by simp))
              · replace c15 := Bool.eq_false_iff.mpr c15
                subst c15; (have H1 : (none) = some r := by rw [if_neg (show ¬ (false = true) by decide)] at H; exact H); clear H; have H := H1; clear H1; (exact absurd H (by simp))
            · replace c14 := Bool.eq_false_iff.mpr c14
              subst c14; (have H1 : (none) = some r := by rw [if_neg (show ¬ (false = true) by decide)] at H; exact H); clear H; have H := H1; clear H1; (exact absurd H (by simp))
          · replace c11 := Bool.eq_false_iff.mpr c11
            subst c11; (have H1 : (if (false == t0u) = true then ((laws_jtBig.f k t0l t0m t0q t0r).bind fun t0x => (if t0x = true then ((laws_jtBig.f k t0n t0o t0s t0t).bind fun t0y => (some t0y)) else (none))) else (none)) = some r := by rw [if_neg (show ¬ (false = true) by decide)] at H; exact H); clear H; have H := H1; clear H1
            by_cases c224 : (false == t0u) = true
            · rw [if_pos c224] at H
              have c224b0 : (false == t0u) = true := c224; (try (have c224b1 : decide (false = t0u) = true := by simpa using c224)); (try (have c224b2 : (false == t0u) = true := by simpa using c224)); clear c224; replace H := Option.bind_eq_some_iff.mp H; obtain ⟨t0x, A1i, H⟩ := H; replace H : (if t0x = true then ((laws_jtBig.f k t0n t0o t0s t0t).bind fun t0y => (some t0y)) else (none)) = some r := H; have A0f := zm A1i; clear A1i
              by_cases c226 : t0x = true
              · subst c226
                (have H1 : ((laws_jtBig.f k t0n t0o t0s t0t).bind fun t0y => (some t0y)) = some r := by rw [if_pos rfl] at H; exact H); clear H; have H := H1; clear H1; replace H := Option.bind_eq_some_iff.mp H; obtain ⟨t0y, A1j, H⟩ := H; replace H : (some t0y) = some r := H; have A0g := zm A1j; clear A1j; have e_ : t0y = true := Option.some.inj (A0g.out.symm.trans A9.out); subst e_; obtain rfl := Option.some.inj H; (have e6_ : t0u = false := by simpa using c224b0); subst e6_; (exact Bd.mainF k A0 c0 l0 w HR0.out HC0.out c2b0 c2b1 A3.out A4.out A5.out A7.out A9.out)
              · replace c226 := Bool.eq_false_iff.mpr c226
                subst c226; (have H1 : (none) = some r := by rw [if_neg (show ¬ (false = true) by decide)] at H; exact H); clear H; have H := H1; clear H1; (exact absurd H (by simp))
            · rw [if_neg c224] at H
              exact absurd H (by simp)
        · replace c10 := Bool.eq_false_iff.mpr c10
          subst c10; (have H1 : (none) = some r := by rw [if_neg (show ¬ (false = true) by decide)] at H; exact H); clear H; have H := H1; clear H1; (exact absurd H (by simp))
      · replace c8 := Bool.eq_false_iff.mpr c8
        subst c8; (have H1 : (none) = some r := by rw [if_neg (show ¬ (false = true) by decide)] at H; exact H); clear H; have H := H1; clear H1; (exact absurd H (by simp))
def laws_FnBigDiv.Pure : Prop := ∀ (l0 : List Int), l0.length ≤ maxLen → l0.length * 1 ≤ 140737488351232 → (∀ x ∈ l0, (Lit.int .u8 x).wf = true) → ∃ k, laws_FnBigDiv.f k l0 = some true
theorem laws_FnBigDiv.walk (P : laws_FnBigDiv.Pure) (a0 : Option Addr) (len0 cap0 : Nat) (z0 : List Int) (w : World) (w0 : (a0 = none ∧ len0 = 0 ∧ cap0 = 0 ∧ z0 = []) ∨ ∃ x, a0 = some x ∧ len0 ≤ cap0 ∧ cap0 ≤ maxLen ∧ z0.length = cap0 ∧ (∀ i, i < z0.length → w.cell? (x.add i) = some (.int .u8 (z0.getD i 0))) ∧ ∀ n ∈ z0, (Lit.int .u8 n).wf = true) (y0 : len0 * 1 ≤ 140737488351232) :
    Calls Try.prog 18 #[.slice a0 len0 cap0] w fun e w' => e = .returned (.bool true) ∧ Below w.heap.size w w' := by
  obtain ⟨l0, rfl, hr0, hm0, hw0, hc0⟩ := ReadsInt.ofRowC w0; obtain ⟨k, h⟩ := P l0 hm0 y0 hw0; (refine (laws_FnBigDiv.calls k _ _ l0 true w (Kd.C_of_reads (d := (0 : Int)) (h1 := fun _ => rfl) hr0) hc0 h).mono ?_); rintro e w' ⟨rfl, hd⟩; (exact ⟨rfl, hd⟩)
end Go.Proofs.Ytdemeoncjcbojaa.Pr
end
section
namespace Go.Proofs.Ytdemeoncjcbojaa.Val
open Go.RowKit Go.Proofs.Ytdemeoncjcbojaa.Pr Go.Proofs.Ytdemeoncjcbojaa.Ext Go.Proofs.Ytdemeoncjcbojaa.Jt Go.Proofs.Ytdemeoncjcbojaa.Dv Go.Proofs.YtdemeoncjcbojaaW.PrintWords Go.Proofs.YtdemeoncjcbojaaW.PrintLast Go.Proofs.YtdemeoncjcbojaaW.PrintMore
set_option linter.unusedVariables false
set_option linter.unusedSimpArgs false
theorem len41 {b : List Int} (hd : Dig b) (hl : b.length ≤ 16) {x : Int} (h0 : 0 ≤ x) (h1 : x < 10000 * val b) : (rep x).length ≤ 17 := by
  refine rep_len_le h0 ?_
  have h2 := val_lt hd
  have h3 := pw_mono hl
  rw [pw_succ]
  omega
theorem sFits_l0 {b : List Int} (hd : Dig b) (hl : b.length ≤ 16) {V : Int} (hB : 0 < val b) (hV0 : 0 ≤ V) (hV : V < 10000 * val b) : ∀ (m k : Nat) (lo hi : Int), 0 ≤ lo → lo < hi → hi ≤ 10000 → lo * val b ≤ V → V < hi * val b → hi - lo ≤ m → 6000 + m ≤ k →
    spec_l1Fits.l0 k (rep V) b lo hi = some (V / val b) := by
  intro m
  induction m with
  | zero => intro k lo hi h0 h1 h2 h3 h4 h5 hk; omega
  | succ m ih =>
    intro k lo hi h0 h1 h2 h3 h4 h5 hk
    obtain ⟨k, rfl⟩ : ∃ j, k = j + 1 := ⟨k - 1, by omega⟩
    rw [spec_l1Fits.l0, w64 (by omega) (by omega)]
    by_cases hc : hi - lo > 1
    · rw [if_pos hc, w64 (x := lo + hi) (by omega) (by omega)]
      have ht : Int.tdiv (lo + hi) 2 = (lo + hi) / 2 := Int.tdiv_eq_ediv_of_nonneg (by omega)
      rw [ht, w64 (by omega) (by omega)]
      obtain ⟨c, hcm⟩ : ∃ c, c = (lo + hi) / 2 := ⟨_, rfl⟩
      rw [← hcm]
      have c1 : lo < c := by omega
      have c2 : c < hi := by omega
      have hdc : Dig ([c] : List Int) := Dig.cons (by omega) (by omega) Dig.nil
      have hvc : val ([c] : List Int) = c := by simp [val]
      have hbc : 0 ≤ val b * c := Int.mul_nonneg (by omega) (by omega)
      have hlc : (rep (val b * c)).length ≤ 17 := len41 hd hl hbc (by have h_ := Int.mul_le_mul_of_nonneg_left (show c ≤ 9999 by omega) (Int.le_of_lt hB); omega)
      have hlv := len41 hd hl hV0 hV
      rw [sMul_ge hd hdc (by omega) (by simp) k (by omega), hvc]; simp only [bS]
      rw [sCmpAbs_ge (rep_dig _) (rep_dig _) (rep_nz _) (rep_nz _) (by omega) (by omega) k (by omega), rep_val hbc, rep_val hV0]; simp only [bS]
      by_cases hs : val b * c - V ≤ 0
      · have : sgn (val b * c - V) ≤ 0 := by unfold sgn; split <;> (try split) <;> omega
        rw [if_pos this]
        exact ih k c hi (by omega) c2 h2 (by rw [Int.mul_comm]; omega) h4 (by omega) (by omega)
      · have : ¬ (sgn (val b * c - V) ≤ 0) := by unfold sgn; split <;> (try split) <;> omega
        rw [if_neg this]
        exact ih k lo c h0 c1 (by omega) h3 (by rw [Int.mul_comm]; omega) (by omega) (by omega)
    · rw [if_neg hc]
      obtain rfl : hi = lo + 1 := by omega
      congr 1
      refine Int.le_antisymm ((Int.le_ediv_iff_mul_le hB).2 h3) ?_
      have : V / val b < lo + 1 := Int.ediv_lt_of_lt_mul hB h4
      omega
theorem sFits_ge {b : List Int} (hd : Dig b) (hl : b.length ≤ 16) {V : Int} (hB : 0 < val b) (hV0 : 0 ≤ V) (hV : V < 10000 * val b) (k : Nat) (hk : 17000 ≤ k) : spec_l1Fits.f k (rep V) b = some (V / val b) := by
  unfold spec_l1Fits.f
  exact sFits_l0 hd hl hB hV0 hV 10000 k 0 10000 (by omega) (by omega) (by omega) (by omega) hV (by omega) (by omega)
theorem sDiv_l0 {l b : List Int} (hdl : Dig l) (hll : l.length ≤ 16) (hd : Dig b) (hl : b.length ≤ 16) (hB : 0 < val b) : ∀ (m k : Nat), m ≤ l.length → 18000 + m ≤ k →
    spec_l1DivAbs.l0 k l b (outL l (val b) m) (rep (restV l (val b) m)) ((m : Int) - 1) = some (rep (val l / val b), rep (val l % val b)) := by
  intro m
  induction m with
  | zero =>
    intro k hm hk
    obtain ⟨k, rfl⟩ : ∃ j, k = j + 1 := ⟨k - 1, by omega⟩
    rw [spec_l1DivAbs.l0, if_neg (by omega), sTrim_ge _ (by rw [outL_len]; omega) k (by rw [outL_len]; omega)]; simp only [bS]
    rw [trimL_rep (outL_dig hdl hB 0), outL_all hB, rest_all]
  | succ m ih =>
    intro k hm hk
    obtain ⟨k, rfl⟩ : ∃ j, k = j + 1 := ⟨k - 1, by omega⟩
    have e1 : ((m + 1 : Nat) : Int) - 1 = (m : Int) := by omega
    have hr := rest_bd (l := l) hB (m + 1)
    have ht := top_bd hdl hB m
    have hq := qd_bd hdl hB m
    have hlr := len41 hd hl hr.1 (by omega)
    have hlt := len41 hd hl ht.1 ht.2
    have hx := hdl.getD m
    have hdy : Dig ([l.getD m 0] ++ rep (restV l (val b) (m + 1))) := Dig.cons hx.1 hx.2 (rep_dig _)
    have hty : trimL ([l.getD m 0] ++ rep (restV l (val b) (m + 1))) = rep (topV l (val b) m) := by
      rw [trimL_rep hdy]
      show rep (l.getD m 0 + 10000 * val (rep (restV l (val b) (m + 1)))) = _
      rw [rep_val hr.1]
      rfl
    have hdq : Dig ([qd l (val b) m] : List Int) := Dig.cons hq.1 hq.2 Dig.nil
    have htq : trimL ([qd l (val b) m] : List Int) = rep (qd l (val b) m) := by rw [trimL_rep hdq]; simp [val]
    have hbq : 0 ≤ val b * qd l (val b) m := Int.mul_nonneg (by omega) hq.1
    have hle : val b * qd l (val b) m ≤ topV l (val b) m := by unfold qd; exact Int.mul_ediv_self_le (by omega)
    have hsub : topV l (val b) m - val b * qd l (val b) m = restV l (val b) m := by
      have h_ := Int.mul_ediv_add_emod (topV l (val b) m) (val b)
      rw [top_mod m (by omega)] at h_
      unfold qd
      omega
    have hlq : (rep (qd l (val b) m)).length ≤ 1 := rep_len_le hq.1 (by have h1_ : pw 1 = 10000 := (by decide); omega)
    have hfit : topV l (val b) m / val b = qd l (val b) m := rfl
    rw [spec_l1DivAbs.l0, e1, if_pos (by omega), if_pos (by omega), if_pos (by omega)]; simp only [bS]
    rw [rdN, if_pos (by simp; omega), sTrim_ge _ (by simp; omega) k (by simp; omega), hty]; simp only [bS]
    rw [sFits_ge hd hl hB ht.1 ht.2 k (by omega), hfit]; simp only [bS]
    rw [if_pos (by rw [outL_len]; omega), sTrim_ge _ (by simp) k (by simp; omega), htq]; simp only [bS]
    rw [sMul_ge hd (rep_dig _) (by omega) (by omega) k (by omega), rep_val hq.1]; simp only [bS]
    rw [sSub_ge (rep_dig _) (rep_dig _) (rep_nz _) (by omega) (by rw [rep_val ht.1, rep_val hbq]; exact hle) k (by omega), rep_val ht.1, rep_val hbq, hsub]; simp only [bS]
    rw [Int.toNat_natCast, outL_step (by omega), w64 (by omega) (by omega)]
    exact ih k (by omega) (by omega)
theorem sDivAbs_ge {l b : List Int} (hdl : Dig l) (hll : l.length ≤ 16) (hd : Dig b) (hl : b.length ≤ 16) (hB : 0 < val b) (k : Nat) (hk : 18100 ≤ k) : spec_l1DivAbs.f k l b = some (rep (val l / val b), rep (val l % val b)) := by
  unfold spec_l1DivAbs.f
  have h := sDiv_l0 hdl hll hd hl hB l.length k (Nat.le_refl _) (by omega)
  rw [outL_top, rest_top, rep_zero] at h
  rw [if_pos (by omega), if_pos (by omega), Int.toNat_natCast, w64 (by omega) (by omega)]
  exact h
abbrev NoD : Bool × List Int × Bool × List Int × Bool := (false, [], false, [], false)
def divQ (n : Bool) (l : List Int) (n' : Bool) (l' : List Int) : Int := sv (n != n') (val l / val l')
def divM (n : Bool) (l l' : List Int) : Int := sv n (val l % val l')
def divR (n : Bool) (l : List Int) (n' : Bool) (l' : List Int) : Bool × List Int × Bool × List Int × Bool :=
  if okB n l = true ∧ okB n' l' = true ∧ l'.length ≠ 0 then (mkN (divQ n l n' l'), mkL (divQ n l n' l'), mkN (divM n l l'), mkL (divM n l l'), true) else NoD
theorem sv_bd {q : Bool} {v : Int} (h0 : 0 ≤ v) (h1 : v < pw 16) : -pw 16 < sv q v ∧ sv q v < pw 16 := by unfold sv; split <;> omega
theorem bigR_sv {q : Bool} {v : Int} (h0 : 0 ≤ v) (h1 : v < pw 16) : bigR (sv q v) = (mkN (sv q v), mkL (sv q v), true) := by unfold bigR; rw [if_pos (sv_bd h0 h1)]
theorem div_bd {n n' : Bool} {l l' : List Int} (h1 : BOk n l) (h2 : BOk n' l') (h0 : l'.length ≠ 0) : 0 < val l' ∧ (0 ≤ val l / val l' ∧ val l / val l' < pw 16) ∧ (0 ≤ val l % val l' ∧ val l % val l' < pw 16) := by
  have hB := nz_pos h2.2.1 h2.2.2.1 h0
  have a0 := val_nonneg h1.2.1
  have a1 : val l < pw 16 := Int.lt_of_lt_of_le (val_lt h1.2.1) (pw_mono h1.1)
  have b1 : val l' < pw 16 := Int.lt_of_lt_of_le (val_lt h2.2.1) (pw_mono h2.1)
  have q1 := Int.ediv_le_self (val l') a0
  have m1 := Int.emod_lt_of_pos (val l) hB
  exact ⟨hB, ⟨Int.ediv_nonneg a0 (by omega), by omega⟩, ⟨Int.emod_nonneg _ (by omega), by omega⟩⟩
theorem lenb (x : List Int) : ((x.length : Int) == 0) = decide (x.length = 0) := by by_cases h : x.length = 0 <;> simp [h]
theorem iBigDiv_ge (n : Bool) (l : List Int) (n' : Bool) (l' : List Int) (k : Nat) (hk : 19000 ≤ k) : impl_BigDiv.f k n l n' l' = some (divR n l n' l') := by
  obtain ⟨k, rfl⟩ : ∃ j, k = j + 1 := ⟨k - 1, by omega⟩
  unfold impl_BigDiv.f divR
  rw [bigs_f]; simp only [bS]
  by_cases h1 : okB n l = true
  · by_cases h2 : okB n' l' = true
    · by_cases h0 : l'.length = 0
      · rw [h1, h2, if_pos (by rfl), impl_BigDiv.j0, lenb, if_pos (by simpa using h0), if_neg (fun h => h.2.2 h0)]
      · have b1 := (okB_iff _ _).1 h1
        have b2 := (okB_iff _ _).1 h2
        obtain ⟨hB, ⟨q0, q1⟩, m0, m1⟩ := div_bd b1 b2 h0
        have lq := rep_len_le q0 q1
        have lm := rep_len_le m0 m1
        rw [h1, h2, if_pos (by rfl), impl_BigDiv.j0, lenb, if_neg (by simpa using h0), if_pos ⟨by first | rfl | trivial, by first | rfl | trivial, h0⟩]
        unfold impl_limbs_div.f
        rw [if_pos ⟨b1.2.1, b2.2.1, b2.2.2.1, hB, by have := b1.1; omega, by have := b2.1; omega⟩]; simp only [bS]
        rw [big_ge (rep_dig _) (by omega) _ k (by omega), sv_rep q0, bigR_sv q0 q1]; simp only [bS]
        rw [big_ge (rep_dig _) (by omega) _ k (by omega), sv_rep m0, bigR_sv m0 m1]; simp only [bS]
        rfl
    · rw [h1, Bool.eq_false_iff.mpr h2, if_neg (by decide), impl_BigDiv.j0, if_pos (by first | rfl | trivial), if_neg (fun h => by simpa using h.2.1)]
  · rw [Bool.eq_false_iff.mpr h1, if_neg (by simp), impl_BigDiv.j0, if_pos (by first | rfl | trivial), if_neg (fun h => by simpa using h.1)]
theorem sBigDiv_ge (n : Bool) (l : List Int) (n' : Bool) (l' : List Int) (k : Nat) (hk : 19000 ≤ k) : spec_BigDiv.f k n l n' l' = some (divR n l n' l') := by
  obtain ⟨k, rfl⟩ : ∃ j, k = j + 1 := ⟨k - 1, by omega⟩
  unfold spec_BigDiv.f divR
  rw [l1Ok_ge n l _ (by omega)]; simp only [bS]
  by_cases h1 : okB n l = true
  · rw [h1, if_pos (by first | rfl | trivial), l1Ok_ge n' l' _ (by omega)]; simp only [bS]
    by_cases h2 : okB n' l' = true
    · by_cases h0 : l'.length = 0
      · rw [h2, if_pos (by first | rfl | trivial), spec_BigDiv.j0, lenb, if_pos (by simpa using h0), if_neg (fun h => h.2.2 h0)]
      · have b1 := (okB_iff _ _).1 h1
        have b2 := (okB_iff _ _).1 h2
        obtain ⟨hB, ⟨q0, q1⟩, m0, m1⟩ := div_bd b1 b2 h0
        have lq := rep_len_le q0 q1
        have lm := rep_len_le m0 m1
        rw [h2, if_pos (by first | rfl | trivial), spec_BigDiv.j0, lenb, if_neg (by simpa using h0), if_pos ⟨by first | rfl | trivial, by first | rfl | trivial, h0⟩]
        rw [sDivAbs_ge b1.2.1 b1.1 b2.2.1 b2.1 hB k (by omega)]; simp only [bS]
        rw [l1Big_ge (rep_dig _) (by omega) _ k (by omega), sv_rep q0, bigR_sv q0 q1]; simp only [bS]
        rw [l1Big_ge (rep_dig _) (by omega) _ k (by omega), sv_rep m0, bigR_sv m0 m1]; simp only [bS]
        rfl
    · rw [Bool.eq_false_iff.mpr h2, if_neg (by decide), spec_BigDiv.j0, if_pos (by first | rfl | trivial), if_neg (fun h => by simpa using h.2.1)]
  · rw [Bool.eq_false_iff.mpr h1, if_neg (by decide), spec_BigDiv.j0, if_pos (by first | rfl | trivial), if_neg (fun h => by simpa using h.1)]
theorem mkL_len {x : Int} (h1 : -pw 16 < x) (h2 : x < pw 16) : (mkL x).length ≤ 16 := (mk_ok h1 h2).1
theorem divR_len (n l n' l') : (divR n l n' l').2.1.length ≤ 16 ∧ (divR n l n' l').2.2.2.1.length ≤ 16 := by
  unfold divR
  split
  · rename_i h
    obtain ⟨_, ⟨q0, q1⟩, m0, m1⟩ := div_bd ((okB_iff _ _).1 h.1) ((okB_iff _ _).1 h.2.1) h.2.2
    exact ⟨mkL_len (sv_bd q0 q1).1 (sv_bd q0 q1).2, mkL_len (sv_bd m0 m1).1 (sv_bd m0 m1).2⟩
  · simp
end Go.Proofs.Ytdemeoncjcbojaa.Val
end
section
namespace Go.Proofs.Ytdemeoncjcbojaa.Val
open Go.RowKit Go.Proofs.Ytdemeoncjcbojaa.Pr Go.Proofs.Ytdemeoncjcbojaa.Ext Go.Proofs.Ytdemeoncjcbojaa.Jt Go.Proofs.Ytdemeoncjcbojaa.Dv Go.Proofs.YtdemeoncjcbojaaW.PrintWords Go.Proofs.YtdemeoncjcbojaaW.PrintLast Go.Proofs.YtdemeoncjcbojaaW.PrintMore
set_option linter.unusedVariables false
set_option linter.unusedSimpArgs false
theorem val_mkL (x : Int) : val (mkL x) = if x < 0 then -x else x := by
  unfold mkL
  rw [rep_val (by split <;> omega)]
theorem mkL_zero : mkL 0 = [] := by unfold mkL; rw [if_neg (by omega), rep_zero]
theorem mkN_zero : mkN 0 = false := rfl
theorem sv_abs {q : Bool} {v : Int} (h : 0 ≤ v) : (if sv q v < 0 then -(sv q v) else sv q v) = v := by unfold sv; cases q <;> simp <;> omega
theorem mkN_sv {q : Bool} {v : Int} (h : 0 < v) : mkN (sv q v) = q := by unfold mkN sv; cases q <;> simp <;> omega
theorem divR_yes {n n' : Bool} {a b : List Int} (h : (divR n a n' b).2.2.2.2 = true) : BOk n a ∧ BOk n' b ∧ b.length ≠ 0 ∧ divR n a n' b = (mkN (divQ n a n' b), mkL (divQ n a n' b), mkN (divM n a b), mkL (divM n a b), true) := by
  unfold divR at h ⊢
  split at h
  · rename_i hc
    rw [if_pos hc]
    exact ⟨(okB_iff _ _).1 hc.1, (okB_iff _ _).1 hc.2.1, hc.2.2, rfl⟩
  · cases h
theorem div_back {n n' : Bool} {a b : List Int} (h1 : BOk n a) (h2 : BOk n' b) (h0 : b.length ≠ 0) : divQ n a n' b * bigv n' b + divM n a b = bigv n a ∧ (-pw 16 < divQ n a n' b * bigv n' b ∧ divQ n a n' b * bigv n' b < pw 16) := by
  obtain ⟨hB, ⟨q0, q1⟩, m0, m1⟩ := div_bd h1 h2 h0
  have hA := val_nonneg h1.2.1
  have ha : val a < pw 16 := Int.lt_of_lt_of_le (val_lt h1.2.1) (pw_mono h1.1)
  have e := Int.mul_ediv_add_emod (val a) (val b)
  have hqb : 0 ≤ val a / val b * val b := Int.mul_nonneg q0 (by omega)
  have hc : val b * (val a / val b) = val a / val b * val b := Int.mul_comm _ _
  have ek : divQ n a n' b * bigv n' b = sv n (val a / val b * val b) := by
    unfold divQ
    rw [bigv_sv, ← sv_mul]
    congr 1
    cases n <;> cases n' <;> rfl
  rw [ek]
  refine ⟨?_, sv_bd hqb (by omega)⟩
  unfold divM
  rw [bigv_sv]
  unfold sv
  cases n
  · simp only [Bool.false_eq_true, if_false]; omega
  · simp only [if_true]; omega
end Go.Proofs.Ytdemeoncjcbojaa.Val
end
section
namespace Go.Proofs.Ytdemeoncjcbojaa.Val
open Go.RowKit Go.Proofs.Ytdemeoncjcbojaa.Pr Go.Proofs.Ytdemeoncjcbojaa.Ext Go.Proofs.Ytdemeoncjcbojaa.Jt Go.Proofs.YtdemeoncjcbojaaW.PrintWords Go.Proofs.YtdemeoncjcbojaaW.PrintLast Go.Proofs.YtdemeoncjcbojaaW.PrintMore
set_option linter.unusedVariables false
set_option linter.unusedSimpArgs false
theorem wf8 {a : Int} (h : (Lit.int .u8 a).wf = true) : 0 ≤ a ∧ a ≤ 255 := by
  simp [Lit.wf, IntKind.min, IntKind.max, IntKind.signed, IntKind.bits] at h; omega
theorem rd_mem {l : List Int} {i : Int} (h0 : 0 ≤ i) (h : i < (l.length : Int)) : rd l i ∈ l := by
  have hi : i.toNat < l.length := by omega
  unfold rd
  rw [List.getD_eq_getElem?_getD, List.getElem?_eq_getElem hi]
  exact List.getElem_mem hi
theorem xor_nonneg {x y : Int} (hx : 0 ≤ x) (hx' : x < 4611686018427387904) (hy : 0 ≤ y) (hy' : y < 4611686018427387904) : 0 ≤ Go.bits .xor .i64 x y := by
  obtain ⟨a, rfl⟩ := Int.eq_ofNat_of_zero_le hx
  obtain ⟨b, rfl⟩ := Int.eq_ofNat_of_zero_le hy
  have ha : a < 2 ^ 62 := by omega
  have hb : b < 2 ^ 62 := by omega
  have hlt := Nat.xor_lt_two_pow ha hb
  have ha' : a % 2 ^ IntKind.i64.bits = a := Nat.mod_eq_of_lt (by show a < 2 ^ 64; omega)
  have hb' : b % 2 ^ IntKind.i64.bits = b := Nat.mod_eq_of_lt (by show b < 2 ^ 64; omega)
  have e : Go.bits .xor .i64 (a : Int) (b : Int) = ((a ^^^ b : Nat) : Int) := by
    simp only [Go.bits, BitVec.ofInt_natCast, BitVec.toNat_xor, BitVec.toNat_ofNat, ha', hb']
    rw [IntKind.wrap_i64]
    omega
  rw [e]
  omega
def BytesOk (b : List Int) : Prop := b.length ≤ 2000 ∧ ∀ x ∈ b, 0 ≤ x ∧ x ≤ 255
theorem pick_any {b : List Int} (hb : BytesOk b) {p n : Int} (hp : 0 ≤ p) (hp' : p ≤ 1000000) (hn : 1 ≤ n) :
    ∃ r, (∀ k, spec_l1Rd_pick.f (k + 1) b p n = some (r, p + 1)) ∧ 0 ≤ r ∧ r < n := by
  have e1 : wrap64 (p + 1) = p + 1 := w64 (by omega) (by omega)
  have e2 : wrap64 (p + 1 - 1) = p := by rw [w64 (by omega) (by omega)]; omega
  have hl := hb.1
  by_cases h0 : b.length = 0
  · refine ⟨0, fun k => ?_, by omega, by omega⟩
    have hz : ((b.length : Int) == 0) = true := by rw [h0]; rfl
    unfold spec_l1Rd_pick.f
    rw [if_neg (by omega), e1, hz]
    simp only [spec_l1Rd_pick.j0, if_true]
  · have hz : ((b.length : Int) == 0) = false := by rw [beq_eq_false_iff_ne]; omega
    by_cases hk : p < (b.length : Int)
    · have hm := hb.2 _ (rd_mem hp hk)
      refine ⟨Int.tmod (rd b p) n, fun k => ?_, Int.tmod_nonneg _ hm.1, Int.tmod_lt_of_pos _ (by omega)⟩
      unfold spec_l1Rd_pick.f
      rw [if_neg (by omega), e1, hz]
      simp only [spec_l1Rd_pick.j0]
      rw [if_neg (by decide), e2, if_pos hk, if_pos hp, if_neg (by omega), w64 (by omega) (by omega)]
    · have hL : (0 : Int) < (b.length : Int) := by omega
      have e7 : wrap64 (wrap64 (p * 7) + 3) = p * 7 + 3 := by
        rw [w64 (x := p * 7) (by omega) (by omega), w64 (by omega) (by omega)]
      have i1 := Int.tmod_nonneg (b.length : Int) hp
      have j1 := Int.tmod_lt_of_pos p hL
      have i2 := Int.tmod_nonneg (b.length : Int) (show 0 ≤ p * 7 + 3 by omega)
      have j2 := Int.tmod_lt_of_pos (p * 7 + 3) hL
      have hA := hb.2 _ (rd_mem i1 j1)
      have hB := hb.2 _ (rd_mem i2 j2)
      have hq0 : 0 ≤ Int.tdiv p (b.length : Int) := Int.tdiv_nonneg hp (by omega)
      have hq1 : Int.tdiv p (b.length : Int) ≤ p := by
        rw [Int.tdiv_eq_ediv_of_nonneg hp]; exact Int.ediv_le_self _ hp
      generalize hAe : rd b (Int.tmod p (b.length : Int)) = A at hA
      generalize hBe : rd b (Int.tmod (p * 7 + 3) (b.length : Int)) = B at hB
      generalize hQe : Int.tdiv p (b.length : Int) = Q at hq0 hq1
      have hX : 0 ≤ wrap64 (wrap64 (wrap64 (wrap64 (wrap64 A * 131) + wrap64 (wrap64 B * 1117)) + wrap64 (p * 29)) + wrap64 (wrap64 Q * 53)) ∧
          wrap64 (wrap64 (wrap64 (wrap64 (wrap64 A * 131) + wrap64 (wrap64 B * 1117)) + wrap64 (p * 29)) + wrap64 (wrap64 Q * 53)) < 1000000000 := by
        rw [w64 (x := A) (by omega) (by omega), w64 (x := B) (by omega) (by omega), w64 (x := Q) (by omega) (by omega), w64 (x := A * 131) (by omega) (by omega), w64 (x := B * 1117) (by omega) (by omega),
          w64 (x := p * 29) (by omega) (by omega), w64 (x := Q * 53) (by omega) (by omega), w64 (x := A * 131 + B * 1117) (by omega) (by omega), w64 (x := A * 131 + B * 1117 + p * 29) (by omega) (by omega),
          w64 (by omega) (by omega)]
        omega
      generalize hXe : wrap64 (wrap64 (wrap64 (wrap64 (wrap64 A * 131) + wrap64 (wrap64 B * 1117)) + wrap64 (p * 29)) + wrap64 (wrap64 Q * 53)) = X at hX
      have hY : 0 ≤ wrap64 (Int.tdiv X 64) ∧ wrap64 (Int.tdiv X 64) < 1000000000 := by
        rw [Int.tdiv_eq_ediv_of_nonneg hX.1, w64 (by omega) (by omega)]; omega
      refine ⟨Int.tmod (Go.bits .xor .i64 X (wrap64 (Int.tdiv X 64))) n, fun k => ?_, Int.tmod_nonneg _ (xor_nonneg hX.1 (by omega) hY.1 (by omega)), Int.tmod_lt_of_pos _ (by omega)⟩
      unfold spec_l1Rd_pick.f
      rw [if_neg (by omega), e1, hz]
      simp only [spec_l1Rd_pick.j0]
      rw [if_neg (by decide), e2, if_neg hk, if_neg (by omega), if_pos i1, if_pos j1, e7, if_pos i2, if_pos j2, if_neg (by omega), hAe, hBe, hQe, hXe]
theorem open_any {l : List Int} (hl : ∀ x ∈ l, (Lit.int .u8 x).wf = true) : ∃ b, spec_l1Open.f l = some (b, 0) ∧ BytesOk b := by
  unfold spec_l1Open.f
  by_cases h : (l.length : Int) > 2000
  · rw [if_pos h, if_pos (by omega)]
    exact ⟨_, rfl, by rw [List.length_take]; omega, fun x hx => wf8 (hl x (List.mem_of_mem_take hx))⟩
  · rw [if_neg h]
    exact ⟨_, rfl, by omega, fun x hx => wf8 (hl x hx)⟩
theorem one_any {b : List Int} (hb : BytesOk b) {p : Int} (hp : 0 ≤ p) (hp' : p ≤ 1000000) {l : List Int} (hl : 1 ≤ l.length) :
    ∃ r, (∀ k, spec_l1Rd_one.f (k + 1) b p l = some (r, p + 1)) ∧ r ∈ l := by
  obtain ⟨i, hi, h0, h1⟩ := pick_any hb hp hp' (n := (l.length : Int)) (by omega)
  refine ⟨rd l i, fun k => ?_, rd_mem h0 h1⟩
  unfold spec_l1Rd_one.f
  rw [hi k]
  simp only [Option.bind_some]
  rw [if_pos h0, if_pos h1]
theorem pick_ge {b : List Int} (hb : BytesOk b) {p n : Int} (hp : 0 ≤ p) (hp' : p ≤ 1000000) (hn : 1 ≤ n) :
    ∃ r, (∀ k, 1 ≤ k → spec_l1Rd_pick.f k b p n = some (r, p + 1)) ∧ 0 ≤ r ∧ r < n := by
  obtain ⟨r, h, h0, h1⟩ := pick_any hb hp hp' hn
  exact ⟨r, fun k hk => by obtain ⟨m, rfl⟩ : ∃ m, k = m + 1 := ⟨k - 1, by omega⟩; exact h m, h0, h1⟩
theorem one_ge {b : List Int} (hb : BytesOk b) {p : Int} (hp : 0 ≤ p) (hp' : p ≤ 1000000) {l : List Int} (hl : 1 ≤ l.length) :
    ∃ r, (∀ k, 1 ≤ k → spec_l1Rd_one.f k b p l = some (r, p + 1)) ∧ r ∈ l := by
  obtain ⟨r, h, h0⟩ := one_any hb hp hp' hl
  exact ⟨r, fun k hk => by obtain ⟨m, rfl⟩ : ∃ m, k = m + 1 := ⟨k - 1, by omega⟩; exact h m, h0⟩
theorem size_of (xs : List Int) : (strOfNums xs).size = xs.length := by unfold strOfNums; simp [ByteArray.size]
theorem size_app (a b : ByteArray) : (a ++ b).size = a.size + b.size := ByteArray.size_append
theorem figs_l0 {b : List Int} (hb : BytesOk b) (n : Int) (hn : n ≤ 100) : ∀ (m : Nat) (s : ByteArray) (p : Int), 0 ≤ p → p + 2 * m ≤ 900000 → (s.size : Int) + m = n →
    ∃ r p', (∀ k, m + 2 ≤ k → spec_l14Figs.l0 k n s b p = some (r, p')) ∧ (r.size : Int) = n ∧ p ≤ p' ∧ p' ≤ p + 2 * m := by
  intro m
  induction m with
  | zero =>
    intro s p hp hp' hs
    refine ⟨s, p, fun k hk => ?_, by omega, by omega, by omega⟩
    obtain ⟨k, rfl⟩ : ∃ j, k = j + 1 := ⟨k - 1, by omega⟩
    rw [spec_l14Figs.l0, if_neg (by omega)]
  | succ m ih =>
    intro s p hp hp' hs
    obtain ⟨x, hx, _, _⟩ := pick_ge hb hp (by omega) (n := 10) (by omega)
    obtain ⟨y, hy, _⟩ := one_ge hb (p := p + 1) (by omega) (by omega) (l := [0, 0, 9, 9, 5, 1, x]) (by simp)
    obtain ⟨r, p', hr, h1, h2, h3⟩ := ih (s ++ strOfNums [(wrap64 (48 + y)) % 256]) (p + 1 + 1) (by omega) (by omega) (by rw [size_app, size_of]; simp; omega)
    refine ⟨r, p', fun k hk => ?_, h1, by omega, by omega⟩
    obtain ⟨k, rfl⟩ : ∃ j, k = j + 1 := ⟨k - 1, by omega⟩
    rw [spec_l14Figs.l0, if_pos (by omega), hx k (by omega)]
    simp only [Option.bind_some]
    rw [hy k (by omega)]
    simp only [Option.bind_some]
    rw [if_pos (by rw [size_of]; simp; omega)]
    exact hr k (by omega)
theorem figs_any {b : List Int} (hb : BytesOk b) {p : Int} (hp : 0 ≤ p) (hp' : p ≤ 500000) {n : Int} (hn : n ≤ 100) :
    ∃ r p', (∀ k, 200 ≤ k → spec_l14Figs.f k b p n = some (r, p')) ∧ r.size ≤ 101 ∧ p ≤ p' ∧ p' ≤ p + 300 := by
  by_cases h1 : n < 1
  · refine ⟨⟨#[48]⟩, p, fun k hk => ?_, by decide, by omega, by omega⟩
    unfold spec_l14Figs.f
    rw [if_pos h1]
  · obtain ⟨x, hx, _, _⟩ := pick_ge hb hp (by omega) (n := 9) (by omega)
    obtain ⟨r, p', hr, q1, q2, q3⟩ := figs_l0 hb n hn (n.toNat - 1) (strOfNums [(wrap64 (49 + x)) % 256]) (p + 1) (by omega) (by omega) (by rw [size_of]; simp; omega)
    refine ⟨r, p', fun k hk => ?_, by omega, by omega, by omega⟩
    unfold spec_l14Figs.f
    rw [if_neg h1, hx k (by omega)]
    simp only [Option.bind_some]
    exact hr k (by omega)
theorem many_l0 (s : ByteArray) (hs : s.size = 1) : ∀ (m : Nat) (a : ByteArray), a.size + m ≤ 1000 → ∃ r, (∀ k, m + 1 ≤ k → spec_l1Many.l0 k s (m : Int) a = some r) ∧ r.size = a.size + m := by
  intro m
  induction m with
  | zero =>
    intro a ha
    refine ⟨a, fun k hk => ?_, by omega⟩
    obtain ⟨k, rfl⟩ : ∃ j, k = j + 1 := ⟨k - 1, by omega⟩
    rw [spec_l1Many.l0, if_neg (by omega)]
  | succ m ih =>
    intro a ha
    obtain ⟨r, hr, h⟩ := ih (a ++ s) (by rw [size_app]; omega)
    refine ⟨r, fun k hk => ?_, by rw [size_app] at h; omega⟩
    obtain ⟨k, rfl⟩ : ∃ j, k = j + 1 := ⟨k - 1, by omega⟩
    rw [spec_l1Many.l0, if_pos (by omega), if_pos (by omega), w64 (by omega) (by omega), show (((m + 1 : Nat) : Int) - 1) = (m : Int) from by omega]
    exact hr k (by omega)
theorem many_any (s : ByteArray) (hs : s.size = 1) (n : Int) (hn : n ≤ 100) : ∃ r, (∀ k, 200 ≤ k → spec_l1Many.f k s n = some r) ∧ r.size ≤ 100 := by
  by_cases h0 : n ≤ 0
  · refine ⟨⟨#[]⟩, fun k hk => ?_, by decide⟩
    obtain ⟨k, rfl⟩ : ∃ j, k = j + 1 := ⟨k - 1, by omega⟩
    unfold spec_l1Many.f
    rw [spec_l1Many.l0, if_neg (by omega)]
  · obtain ⟨r, hr, h⟩ := many_l0 s hs n.toNat ⟨#[]⟩ (by show 0 + n.toNat ≤ 1000; omega)
    refine ⟨r, fun k hk => ?_, by rw [h]; show 0 + n.toNat ≤ 100; omega⟩
    unfold spec_l1Many.f
    have e := hr k (by omega)
    rw [show ((n.toNat : Nat) : Int) = n from by omega] at e
    exact e
theorem fromFig_l1 (s : ByteArray) (hs : s.size ≤ 200) (acc : List Int) (ha : acc.length ≤ 1000) (x4 : Nat) (h4 : x4 ≤ s.size) (K : Nat) (R : List Int → Prop)
    (hnext : ∀ y, ∃ r, (∀ k, K ≤ k → spec_l1FromFigures.l0 k (s.extract 0 x4) (acc ++ [y]) = some r) ∧ R r) :
    ∀ (m i : Nat) (x5 : Int), i + m = s.size → ∃ r, (∀ k, m + 1 + K ≤ k → spec_l1FromFigures.l1 k s acc (x4 : Int) x5 (i : Int) = some r) ∧ R r := by
  intro m
  induction m with
  | zero =>
    intro i x5 hi
    obtain ⟨r, hr, h⟩ := hnext x5
    refine ⟨r, fun k hk => ?_, h⟩
    obtain ⟨k, rfl⟩ : ∃ j, k = j + 1 := ⟨k - 1, by omega⟩
    rw [spec_l1FromFigures.l1, if_neg (by omega), if_pos (by omega), if_pos (by omega), if_pos (by omega), Int.toNat_natCast]
    exact hr k (by omega)
  | succ m ih =>
    intro i x5 hi
    obtain ⟨r, hr, h⟩ := ih (i + 1) (wrap64 ((wrap64 (x5 * 10)) + (((bt s (i : Int)) - 48) % 256))) (by omega)
    refine ⟨r, fun k hk => ?_, h⟩
    obtain ⟨k, rfl⟩ : ∃ j, k = j + 1 := ⟨k - 1, by omega⟩
    rw [spec_l1FromFigures.l1, if_pos (by omega), if_pos (by omega), w64 (x := (i : Int) + 1) (by omega) (by omega), show ((i : Int) + 1) = ((i + 1 : Nat) : Int) from by omega]
    exact hr k (by omega)
set_option maxRecDepth 20000 in
theorem fromFig_l0 : ∀ (n : Nat) (s : ByteArray) (acc : List Int), s.size = n → n ≤ 200 → acc.length + n ≤ 1000 → ∃ r, (∀ k, 10 * n + 1200 ≤ k → spec_l1FromFigures.l0 k s acc = some r) ∧ r.length ≤ 1000 := by
  intro n
  induction n using Nat.strongRecOn with
  | ind n ih =>
    intro s acc hs hn hl
    by_cases h0 : s.size = 0
    · refine ⟨trimL acc, fun k hk => ?_, by have := trimL_len acc; omega⟩
      obtain ⟨k, rfl⟩ : ∃ j, k = j + 1 := ⟨k - 1, by omega⟩
      rw [spec_l1FromFigures.l0, if_neg (by omega), sTrim_ge acc (by omega) k (by omega)]; rfl
    · have hx : ∃ x4 : Nat, x4 + 1 ≤ s.size ∧ s.size ≤ x4 + 4 ∧ ∀ k, spec_l1FromFigures.l0 (k + 1) s acc = spec_l1FromFigures.j1 k s acc (x4 : Int) := by
        by_cases h4 : (s.size : Int) - 4 < 0
        · refine ⟨0, by omega, by omega, fun k => ?_⟩
          rw [spec_l1FromFigures.l0, if_pos (by omega), w64 (by omega) (by omega), if_pos h4]; rfl
        · refine ⟨s.size - 4, by omega, by omega, fun k => ?_⟩
          rw [spec_l1FromFigures.l0, if_pos (by omega), w64 (by omega) (by omega), if_neg h4, show ((s.size : Int) - 4) = ((s.size - 4 : Nat) : Int) from by omega]
      obtain ⟨x4, a1, a2, hk0⟩ := hx
      have hsz : (s.extract 0 x4).size = x4 := by rw [ByteArray.size_extract]; omega
      obtain ⟨r, hr, h⟩ := fromFig_l1 s (by omega) acc (by omega) x4 (by omega) (10 * x4 + 1200) (fun r => r.length ≤ 1000)
        (fun y => ih x4 (by omega) (s.extract 0 x4) (acc ++ [y]) hsz (by omega) (by simp; omega)) (s.size - x4) x4 0 (by omega)
      refine ⟨r, fun k hk => ?_, h⟩
      obtain ⟨k, rfl⟩ : ∃ j, k = j + 2 := ⟨k - 2, by omega⟩
      rw [hk0, spec_l1FromFigures.j1]
      exact hr k (by omega)
theorem fromFig_any (s : ByteArray) (hs : s.size ≤ 150) : ∃ r, (∀ k, 2800 ≤ k → spec_l1FromFigures.f k s = some r) ∧ r.length ≤ 1000 := by
  obtain ⟨r, hr, h⟩ := fromFig_l0 s.size s [] rfl (by omega) (by simp; omega)
  exact ⟨r, fun k hk => hr k (by omega), h⟩
theorem l1Big_any (neg : Bool) (l : List Int) (hl : l.length ≤ 1000) : ∃ n r ok, (∀ k, 1010 ≤ k → spec_l1Big.f k neg l = some (n, r, ok)) ∧ r.length ≤ 16 := by
  by_cases h : ((trimL l).length : Int) > 16
  · refine ⟨false, [], false, fun k hk => ?_, by simp⟩
    unfold spec_l1Big.f
    rw [sTrim_ge l (by omega) k (by omega)]
    simp only [Option.bind_some]
    rw [if_pos h]
  · cases neg
    · refine ⟨false, trimL l, true, fun k hk => ?_, by omega⟩
      unfold spec_l1Big.f
      rw [sTrim_ge l (by omega) k (by omega)]
      simp only [Option.bind_some]
      rw [if_neg h, if_neg (by decide)]
    · refine ⟨decide (0 < (trimL l).length), trimL l, true, fun k hk => ?_, by omega⟩
      unfold spec_l1Big.f
      rw [sTrim_ge l (by omega) k (by omega)]
      simp only [Option.bind_some]
      rw [if_neg h, if_pos trivial]
theorem bigJ1_any {b : List Int} (hb : BytesOk b) {p : Int} (hp : 0 ≤ p) (hp' : p ≤ 500000) {n : Int} (hn : n ≤ 100) (s : ByteArray) (hs : s.size ≤ 150) :
    ∃ g r p', (∀ k, 3000 ≤ k → spec_l14Big.j1 k n s b p = some (g, r, p')) ∧ r.length ≤ 16 ∧ p ≤ p' ∧ p' ≤ p + 10 := by
  obtain ⟨x, hx, _, _⟩ := pick_ge hb hp (by omega) (n := 6) (by omega)
  obtain ⟨y, hy, _, _⟩ := pick_ge hb (p := p + 1) (by omega) (by omega) (n := 3) (by omega)
  by_cases h0 : x = 0
  · obtain ⟨t, ht, hts⟩ := many_any (⟨#[57]⟩ : ByteArray) rfl n hn
    obtain ⟨f, hf, hfl⟩ := fromFig_any t (by omega)
    obtain ⟨g, r, ok, hg, hr⟩ := l1Big_any (y == 0) f hfl
    refine ⟨g, r, p + 1 + 1, fun k hk => ?_, hr, by omega, by omega⟩
    obtain ⟨k, rfl⟩ : ∃ j, k = j + 1 := ⟨k - 1, by omega⟩
    rw [spec_l14Big.j1, hx k (by omega)]; simp only [Option.bind_some]
    rw [if_pos h0, ht k (by omega)]; simp only [Option.bind_some]
    rw [hy k (by omega)]; simp only [Option.bind_some]
    rw [hf k (by omega)]; simp only [Option.bind_some]
    rw [hg k (by omega)]; rfl
  · obtain ⟨f, hf, hfl⟩ := fromFig_any s hs
    obtain ⟨g, r, ok, hg, hr⟩ := l1Big_any (y == 0) f hfl
    refine ⟨g, r, p + 1 + 1, fun k hk => ?_, hr, by omega, by omega⟩
    obtain ⟨k, rfl⟩ : ∃ j, k = j + 1 := ⟨k - 1, by omega⟩
    rw [spec_l14Big.j1, hx k (by omega)]; simp only [Option.bind_some]
    rw [if_neg h0, hy k (by omega)]; simp only [Option.bind_some]
    rw [hf k (by omega)]; simp only [Option.bind_some]
    rw [hg k (by omega)]; rfl
theorem bigJ0_any {b : List Int} (hb : BytesOk b) {p : Int} (hp : 0 ≤ p) (hp' : p ≤ 400000) {n : Int} (hn0 : 0 ≤ n) (hn : n ≤ 100) :
    ∃ g r p', (∀ k, 3010 ≤ k → spec_l14Big.j0 k n b p = some (g, r, p')) ∧ r.length ≤ 16 ∧ p ≤ p' ∧ p' ≤ p + 400 := by
  obtain ⟨f, q, hf, hfs, q1, q2⟩ := figs_any hb hp (by omega) hn
  obtain ⟨x, hx, _, _⟩ := pick_ge hb (p := q) (by omega) (by omega) (n := 6) (by omega)
  by_cases h0 : x = 0
  · obtain ⟨t, ht, hts⟩ := many_any (⟨#[48]⟩ : ByteArray) rfl (wrap64 (n - 1)) (by rw [w64 (by omega) (by omega)]; omega)
    obtain ⟨g, r, p', hj, hr, z1, z2⟩ := bigJ1_any hb (p := q + 1) (by omega) (by omega) hn ((⟨#[49]⟩ : ByteArray) ++ t) (by rw [size_app]; show 1 + t.size ≤ 150; omega)
    refine ⟨g, r, p', fun k hk => ?_, hr, by omega, by omega⟩
    obtain ⟨k, rfl⟩ : ∃ j, k = j + 1 := ⟨k - 1, by omega⟩
    rw [spec_l14Big.j0, hf k (by omega)]; simp only [Option.bind_some]
    rw [hx k (by omega)]; simp only [Option.bind_some]
    rw [if_pos h0, ht k (by omega)]; simp only [Option.bind_some]
    rw [if_pos (by omega)]
    exact hj k (by omega)
  · obtain ⟨g, r, p', hj, hr, z1, z2⟩ := bigJ1_any hb (p := q + 1) (by omega) (by omega) hn f (by omega)
    refine ⟨g, r, p', fun k hk => ?_, hr, by omega, by omega⟩
    obtain ⟨k, rfl⟩ : ∃ j, k = j + 1 := ⟨k - 1, by omega⟩
    rw [spec_l14Big.j0, hf k (by omega)]; simp only [Option.bind_some]
    rw [hx k (by omega)]; simp only [Option.bind_some]
    rw [if_neg h0]
    exact hj k (by omega)
theorem big_any {b : List Int} (hb : BytesOk b) {p : Int} (hp : 0 ≤ p) (hp' : p ≤ 300000) {n : Int} (hn : 1 ≤ n) (hn' : n ≤ 64) :
    ∃ g r p', (∀ k, 3020 ≤ k → spec_l14Big.f k b p n = some (g, r, p')) ∧ r.length ≤ 16 ∧ p ≤ p' ∧ p' ≤ p + 500 := by
  obtain ⟨x, hx, x0, x1⟩ := pick_ge hb hp (by omega) (n := 64) (by omega)
  obtain ⟨y, hy, hym⟩ := one_ge hb (p := p + 1) (by omega) (by omega) (l := [0, 1, 1, 2, 3, 4, 5, 8, 9, 12, 17, 29, 30, 31, 33, 63, 64, wrap64 (1 + x)]) (by simp)
  have hy64 : 0 ≤ y ∧ y ≤ 64 := by
    rw [w64 (by omega) (by omega)] at hym
    simp only [List.mem_cons, List.not_mem_nil, or_false] at hym
    omega
  by_cases hc : y > n
  · obtain ⟨z, hz, z0, z1⟩ := pick_ge hb (p := p + 1 + 1) (by omega) (by omega) hn
    obtain ⟨g, r, p', hj, hr, w1, w2⟩ := bigJ0_any hb (p := p + 1 + 1 + 1) (by omega) (by omega) (n := wrap64 (1 + z)) (by rw [w64 (by omega) (by omega)]; omega) (by rw [w64 (by omega) (by omega)]; omega)
    refine ⟨g, r, p', fun k hk => ?_, hr, by omega, by omega⟩
    unfold spec_l14Big.f
    rw [hx k (by omega)]; simp only [Option.bind_some]
    rw [hy k (by omega)]; simp only [Option.bind_some]
    rw [if_pos hc, hz k (by omega)]; simp only [Option.bind_some]
    exact hj k (by omega)
  · obtain ⟨g, r, p', hj, hr, w1, w2⟩ := bigJ0_any hb (p := p + 1 + 1) (by omega) (by omega) (n := y) (by omega) (by omega)
    refine ⟨g, r, p', fun k hk => ?_, hr, by omega, by omega⟩
    unfold spec_l14Big.f
    rw [hx k (by omega)]; simp only [Option.bind_some]
    rw [hy k (by omega)]; simp only [Option.bind_some]
    rw [if_neg hc]
    exact hj k (by omega)
theorem anyBig_l0 {b : List Int} {p : Int} (g : Bool) : ∀ (m : Nat) (l : List Int), l.length ≤ 100 → 17 ≤ l.length + m → ∃ r, (∀ k, m + 1 ≤ k → spec_l14AnyBig.l0 k b p g l = some (g, r, p)) ∧ r.length ≤ 100 + m := by
  intro m
  induction m with
  | zero =>
    intro l h1 h2
    refine ⟨l, fun k hk => ?_, by omega⟩
    obtain ⟨k, rfl⟩ : ∃ j, k = j + 1 := ⟨k - 1, by omega⟩
    rw [spec_l14AnyBig.l0, if_neg (by omega)]
  | succ m ih =>
    intro l h1 h2
    by_cases h : (l.length : Int) < 17
    · obtain ⟨r, hr, hl⟩ := ih (l ++ [1]) (by simp; omega) (by simp; omega)
      refine ⟨r, fun k hk => ?_, by omega⟩
      obtain ⟨k, rfl⟩ : ∃ j, k = j + 1 := ⟨k - 1, by omega⟩
      rw [spec_l14AnyBig.l0, if_pos h, if_pos (by omega)]
      exact hr k (by omega)
    · refine ⟨l, fun k hk => ?_, by omega⟩
      obtain ⟨k, rfl⟩ : ∃ j, k = j + 1 := ⟨k - 1, by omega⟩
      rw [spec_l14AnyBig.l0, if_neg h]
theorem anyBig_any {b : List Int} (hb : BytesOk b) {p : Int} (hp : 0 ≤ p) (hp' : p ≤ 200000) :
    ∃ g r p', (∀ k, 3030 ≤ k → spec_l14AnyBig.f k b p = some (g, r, p')) ∧ r.length ≤ 200 ∧ p ≤ p' ∧ p' ≤ p + 600 := by
  obtain ⟨g, l, q, hg, hl, q1, q2⟩ := big_any hb hp (by omega) (n := 64) (by omega) (by omega)
  obtain ⟨x, hx, _, _⟩ := pick_ge hb (p := q) (by omega) (by omega) (n := 30) (by omega)
  by_cases h0 : x = 0
  · refine ⟨g, l ++ [0], q + 1, fun k hk => ?_, by simp; omega, by omega, by omega⟩
    unfold spec_l14AnyBig.f
    rw [hg k (by omega)]; simp only [Option.bind_some]
    rw [hx k (by omega)]; simp only [Option.bind_some]
    rw [if_pos h0, if_pos (by omega)]
  · by_cases h1 : x = 1
    · obtain ⟨y, hy, _⟩ := one_ge hb (p := q + 1) (by omega) (by omega) (l := [10000, (-1)]) (by decide)
      refine ⟨g, l ++ [y], q + 1 + 1, fun k hk => ?_, by simp; omega, by omega, by omega⟩
      unfold spec_l14AnyBig.f
      rw [hg k (by omega)]; simp only [Option.bind_some]
      rw [hx k (by omega)]; simp only [Option.bind_some]
      rw [if_neg h0, if_pos h1, hy k (by omega)]; simp only [Option.bind_some]
      rw [if_pos (by omega)]
    · by_cases h2 : x = 2
      · refine ⟨true, [], q + 1, fun k hk => ?_, by simp, by omega, by omega⟩
        unfold spec_l14AnyBig.f
        rw [hg k (by omega)]; simp only [Option.bind_some]
        rw [hx k (by omega)]; simp only [Option.bind_some]
        rw [if_neg h0, if_neg h1, if_pos h2]
      · by_cases h3 : x = 3
        · obtain ⟨r, hr, hrl⟩ := anyBig_l0 (b := b) (p := q + 1) g 17 l (by omega) (by omega)
          refine ⟨g, r, q + 1, fun k hk => ?_, by omega, by omega, by omega⟩
          unfold spec_l14AnyBig.f
          rw [hg k (by omega)]; simp only [Option.bind_some]
          rw [hx k (by omega)]; simp only [Option.bind_some]
          rw [if_neg h0, if_neg h1, if_neg h2, if_pos h3]
          exact hr k (by omega)
        · refine ⟨g, l, q + 1, fun k hk => ?_, by omega, by omega, by omega⟩
          unfold spec_l14AnyBig.f
          rw [hg k (by omega)]; simp only [Option.bind_some]
          rw [hx k (by omega)]; simp only [Option.bind_some]
          rw [if_neg h0, if_neg h1, if_neg h2, if_neg h3]
end Go.Proofs.Ytdemeoncjcbojaa.Val
end
section
namespace Go.Proofs.Ytdemeoncjcbojaa.Pure
open Go.RowKit Go.Proofs.Ytdemeoncjcbojaa.Pr Go.Proofs.Ytdemeoncjcbojaa.Ext Go.Proofs.Ytdemeoncjcbojaa.Jt Go.Proofs.Ytdemeoncjcbojaa.Val Go.Proofs.YtdemeoncjcbojaaW.PrintWords Go.Proofs.YtdemeoncjcbojaaW.PrintLast Go.Proofs.YtdemeoncjcbojaaW.PrintMore
set_option linter.unusedVariables false
set_option linter.unusedSimpArgs false
namespace BFnBigDiv
theorem drawDiv_any {l : List Int} (hl : ∀ x ∈ l, (Lit.int .u8 x).wf = true) : ∃ g r g' r', (∀ k, 3200 ≤ k → spec_DrawBigDiv.f k l = some (g, r, g', r')) ∧ r.length ≤ 200 ∧ r'.length ≤ 200 := by
  obtain ⟨b, hb, hB⟩ := open_any hl
  obtain ⟨g, r, p, hg, hr, p1, p2⟩ := anyBig_any hB (p := 0) (by omega) (by omega)
  obtain ⟨x, hx, x0, x1⟩ := pick_ge hB (p := p) (by omega) (by omega) (n := 8) (by omega)
  by_cases h0 : x = 0
  · obtain ⟨g', r', p', hg', hr', p1', p2'⟩ := anyBig_any hB (p := p + 1) (by omega) (by omega)
    refine ⟨g, r, g', r', fun k hk => ?_, hr, hr'⟩
    unfold spec_DrawBigDiv.f
    rw [hb]; simp only [bS]
    rw [hg k (by omega)]; simp only [bS]
    rw [hx k (by omega)]; simp only [bS]
    rw [if_pos h0, hg' k (by omega)]; simp only [bS]
  · obtain ⟨y, hy, y0, y1⟩ := pick_ge hB (p := p + 1) (by omega) (by omega) (n := 34) (by omega)
    obtain ⟨g', r', p', hg', hr', p1', p2'⟩ := big_any hB (p := p + 1 + 1) (by omega) (by omega) (n := 1 + y) (by omega) (by omega)
    refine ⟨g, r, g', r', fun k hk => ?_, hr, by omega⟩
    unfold spec_DrawBigDiv.f
    rw [hb]; simp only [bS]
    rw [hg k (by omega)]; simp only [bS]
    rw [hx k (by omega)]; simp only [bS]
    rw [if_neg h0, hy k (by omega)]; simp only [bS]
    rw [w64 (by omega) (by omega), hg' k (by omega)]; simp only [bS]
end BFnBigDiv
open BFnBigDiv
theorem FnBigDiv : laws_FnBigDiv.Pure := by
  intro l _ _ hl
  refine ⟨30000, ?_⟩
  unfold laws_FnBigDiv.f
  by_cases hlen : (l.length : Int) > 1048576
  · rw [if_pos hlen]
  · rw [if_neg hlen]
    obtain ⟨n, a, n', b, hd, ha, hb⟩ := drawDiv_any hl
    rw [hd 30000 (by omega)]; simp only [bS]
    rw [iBigDiv_ge n a n' b 30000 (by omega)]; simp only [bS]
    rw [sBigDiv_ge n a n' b 30000 (by omega)]; simp only [bS]
    have hxl := divR_len n a n' b
    rw [if_neg (by simp), jtBig_ge _ _ _ _ (by omega) 30000 (by omega)]; simp only [bS]
    rw [if_pos (by simp), jtBig_ge _ _ _ _ (by omega) 30000 (by omega)]; simp only [bS]
    rw [if_pos (by simp)]
    by_cases hok : (divR n a n' b).2.2.2.2 = true
    · obtain ⟨b1, b2, h0, he⟩ := divR_yes hok
      obtain ⟨hB, ⟨q0, q1⟩, m0, m1⟩ := div_bd b1 b2 h0
      obtain ⟨e1, e2⟩ := div_back b1 b2 h0
      have oq := okB_mk (sv_bd (q := (n != n')) q0 q1)
      have om := okB_mk (sv_bd (q := n) m0 m1)
      have hab := bigv_bd b1
      rw [if_pos hok, he]
      have hm : mulR (mkN (divQ n a n' b)) (mkL (divQ n a n' b)) n' b = (mkN (divQ n a n' b * bigv n' b), mkL (divQ n a n' b * bigv n' b), true) := by
        unfold mulR
        rw [if_pos ⟨oq, (okB_iff _ _).2 b2⟩, mk_v]
        unfold bigR
        rw [if_pos e2]
      have hs : addR (mkN (divQ n a n' b * bigv n' b)) (mkL (divQ n a n' b * bigv n' b)) (mkN (divM n a b)) (mkL (divM n a b)) = (n, a, true) := by
        unfold addR
        rw [if_pos ⟨okB_mk e2, om⟩, mk_v, mk_v, e1, bigR_ok b1]
      have hM : val (mkL (divM n a b)) = val a % val b := by rw [val_mkL]; exact sv_abs m0
      have hc : cmpR false (mkL (divM n a b)) false b = -1 := by
        have o1 : okB false (mkL (divM n a b)) = true := (okB_iff _ _).2 ⟨mkL_len (sv_bd (q := n) m0 m1).1 (sv_bd (q := n) m0 m1).2, rep_dig _, rep_nz _, fun h => by cases h⟩
        have o2 : okB false b = true := (okB_iff _ _).2 ⟨b2.1, b2.2.1, b2.2.2.1, fun h => by cases h⟩
        unfold cmpR
        rw [if_pos ⟨o1, o2⟩]
        have hlt := Int.emod_lt_of_pos (val a) hB
        show sgn (val (mkL (divM n a b)) - val b) = -1
        rw [hM]
        exact sgn_neg (by omega)
      rw [iBigMul_ge _ _ n' b 30000 (by omega)]; simp only [bS]
      rw [hm, iBigAdd_ge _ _ _ _ 30000 (by omega)]; simp only [bS]
      rw [hs, if_pos (by first | rfl | trivial), if_pos (by first | rfl | trivial), jtBig_ge _ _ _ _ (show a.length ≤ 1000 by omega) 30000 (by omega)]; simp only [bS]
      rw [if_pos (by simp), iBigCmp_ge _ _ _ _ 30000 (by omega)]; simp only [bS]
      rw [hc, if_pos (by first | rfl | trivial), jtZero_f]; simp only [bS]
      by_cases hz : val a % val b = 0
      · have hd0 : divM n a b = 0 := by unfold divM sv; rw [hz]; simp
        rw [hd0, mkN_zero, mkL_zero]
        rfl
      · have hn : mkN (divM n a b) = n := mkN_sv (by omega)
        have hl0 : mkL (divM n a b) ≠ [] := fun h => by
          rw [h, val_nil] at hM
          omega
        rw [hn, if_neg (by simp [hl0])]
        simp
    · rw [if_neg hok]
      simp
end Go.Proofs.Ytdemeoncjcbojaa.Pure
end
