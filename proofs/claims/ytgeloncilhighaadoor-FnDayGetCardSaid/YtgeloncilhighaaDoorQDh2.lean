/- What the claim's row needs of the contracts and words below it, and no more. -/
import Derived.Test.YtgeloncilhighaaDoorQDh1
import Derived.Lib.ItoaNum
import Derived.Lib.Atoi
section
namespace Go.Proofs.YtgeloncilhighaaDoor.Pr
open Go.RowKit Go.Proofs.YtgeloncilhighaaDoorW.PrintWords Go.Proofs.YtgeloncilhighaaDoorW.PrintLast Go.Proofs.YtgeloncilhighaaDoor.Ext Go.Proofs.YtgeloncilhighaaDoorW.PrintMore
attribute [local go_sem] max2_int min2_int max_two min_two max_three min_three max_four min_four
set_option linter.unusedVariables false
set_option linter.unusedSimpArgs false
def IsS79 (w0 W : World) (g : Nat) (f0 : List Int) (f1 : Int) : Prop := ∃ A0 c0, W.heap[g]? = some (.cells #[.slice A0 f0.length c0, .int .i64 f1] 79 (0, 0)) ∧ w0.heap.size ≤ g ∧ Kd.C (Kd.int .u8) w0 A0 f0.length f0
theorem IsS79.grown {w0 W : World} {g : Nat} {f0 : List Int} {f1 : Int} {W1 : World} {row : Option Nat} (h : IsS79 w0 W g f0 f1) (hw : W.grownBy W1 row) (hne : some g ≠ row) : IsS79 w0 W1 g f0 f1 := by
  obtain ⟨A0, c0, hb, hg, hr0⟩ := h
  exact ⟨A0, c0, blk_grown hb hw hne, hg, hr0⟩
theorem IsS79.below {w0 W : World} {g : Nat} {f0 : List Int} {f1 : Int} {W1 : World} (h : IsS79 w0 W g f0 f1) (hw : Below W.heap.size W W1) : IsS79 w0 W1 g f0 f1 := h.grown (grown_of_below hw none) (by simp)
theorem IsS79.drewN {w0 W : World} {g : Nat} {f0 : List Int} {f1 : Int} (h : IsS79 w0 W g f0 f1) (m : Nat) : IsS79 w0 (W.drewN m) g f0 f1 := h
theorem IsS79.drew {w0 W : World} {g : Nat} {f0 : List Int} {f1 : Int} (h : IsS79 w0 W g f0 f1) : IsS79 w0 W.drew g f0 f1 := h
theorem IsS79.apart {w0 W : World} {g : Nat} {f0 : List Int} {f1 : Int} {α : Type} {d : Kd α} {e : Nat} {base : Nat} {ok : Nat → Prop} {v : Value} {xs : List α} (h : IsS79 w0 W g f0 f1) (ho : d.R e W base ok v xs) (ht : ∀ q, q ∈ e :: d.E → q ≠ 79) : d.R e W base (fun k => ok k ∧ k ≠ g) v xs := by
  obtain ⟨A0, c0, hb, hg, hr0⟩ := h
  exact Kd.R_types ho hb ht
theorem IsS79.own_ne {w0 W : World} {g : Nat} {f0 : List Int} {f1 : Int} {α : Type} {d : Kd α} {e : Nat} {base : Nat} {ok : Nat → Prop} {v : Value} {xs : List α} (h : IsS79 w0 W g f0 f1) (ho : d.R e W base ok v xs) (ht : e ≠ 79) : some g ≠ v.ownBlock := by
  obtain ⟨A0, c0, hb, hg, hr0⟩ := h
  exact Kd.R_ne ho hb ht
theorem IsS79.ge {w0 W : World} {g : Nat} {f0 : List Int} {f1 : Int} (h : IsS79 w0 W g f0 f1) : w0.heap.size ≤ g := by
  obtain ⟨A0, c0, hb, hg, hr0⟩ := h
  exact hg
theorem cellS79_0 {W : World} {g : Nat} {A0 : Option Addr} {c0 : Nat} {f0 : List Int} {f1 : Int} (h : W.heap[g]? = some (.cells #[.slice A0 f0.length c0, .int .i64 f1] 79 (0, 0))) : W.cell? ⟨g, 0, none⟩ = some (.slice A0 f0.length c0) := (blk_cell h 0).trans rfl
theorem cellS79_1 {W : World} {g : Nat} {A0 : Option Addr} {c0 : Nat} {f0 : List Int} {f1 : Int} (h : W.heap[g]? = some (.cells #[.slice A0 f0.length c0, .int .i64 f1] 79 (0, 0))) : W.cell? ⟨g, 1, none⟩ = some (.int .i64 f1) := (blk_cell h 1).trans rfl
theorem IsS79.set_1 {w0 W : World} {g : Nat} {f0 : List Int} {f1 : Int} (h : IsS79 w0 W g f0 f1) (x : Int) : IsS79 w0 (W.setCell ⟨g, 1, none⟩ (.int .i64 x)) g f0 x := by
  obtain ⟨A0, c0, hb, hg, hr0⟩ := h
  exact ⟨A0, c0, by simpa using blk_set hb 1 (.int .i64 x), hg, hr0⟩
def spec_l1Rd_pick.j0 : Nat → Int → Bool → List Int → Int → Option (Int × Int)
  | 0, _, _, _, _ => none
  | k + 1, x1, x24, x1000, x1001 => if x24 = true then (some (0, x1001)) else (if (wrap64 (x1001 - 1)) < (x1000.length : Int) then (if 0 ≤ (wrap64 (x1001 - 1)) then (if x1 = 0 then (none) else (some (Int.tmod (wrap64 (rd x1000 (wrap64 (x1001 - 1)))) x1, x1001))) else (none)) else (if (x1000.length : Int) = 0 then (none) else (if 0 ≤ (Int.tmod (wrap64 (x1001 - 1)) (x1000.length : Int)) then (if (Int.tmod (wrap64 (x1001 - 1)) (x1000.length : Int)) < (x1000.length : Int) then (if 0 ≤ (Int.tmod (wrap64 ((wrap64 ((wrap64 (x1001 - 1)) * 7)) + 3)) (x1000.length : Int)) then (if (Int.tmod (wrap64 ((wrap64 ((wrap64 (x1001 - 1)) * 7)) + 3)) (x1000.length : Int)) < (x1000.length : Int) then (if x1 = 0 then (none) else (some (Int.tmod (Go.bits .xor .i64 (wrap64 ((wrap64 ((wrap64 ((wrap64 ((wrap64 (rd x1000 (Int.tmod (wrap64 (x1001 - 1)) (x1000.length : Int)))) * 131)) + (wrap64 ((wrap64 (rd x1000 (Int.tmod (wrap64 ((wrap64 ((wrap64 (x1001 - 1)) * 7)) + 3)) (x1000.length : Int)))) * 1117)))) + (wrap64 ((wrap64 (x1001 - 1)) * 29)))) + (wrap64 ((wrap64 (Int.tdiv (wrap64 (x1001 - 1)) (x1000.length : Int))) * 53)))) (wrap64 (Int.tdiv (wrap64 ((wrap64 ((wrap64 ((wrap64 ((wrap64 (rd x1000 (Int.tmod (wrap64 (x1001 - 1)) (x1000.length : Int)))) * 131)) + (wrap64 ((wrap64 (rd x1000 (Int.tmod (wrap64 ((wrap64 ((wrap64 (x1001 - 1)) * 7)) + 3)) (x1000.length : Int)))) * 1117)))) + (wrap64 ((wrap64 (x1001 - 1)) * 29)))) + (wrap64 ((wrap64 (Int.tdiv (wrap64 (x1001 - 1)) (x1000.length : Int))) * 53)))) 64))) x1, x1001))) else (none)) else (none)) else (none)) else (none))))
def spec_l1Rd_pick.f (k : Nat) (s0_0 : List Int) (s0_1 : Int) (a1 : Int) : Option (Int × Int) := if a1 < 1 then (spec_l1Rd_pick.j0 k a1 true s0_0 (wrap64 (s0_1 + 1))) else (spec_l1Rd_pick.j0 k a1 ((s0_0.length : Int) == 0) s0_0 (wrap64 (s0_1 + 1)))
set_option maxHeartbeats 8000000 in
set_option maxRecDepth 100000 in
theorem spec_l1Rd_pick.calls (k : Nat) (g : Nat) (s0_0 : List Int) (s0_1 : Int) (a1 : Int) (r1 : Int) (r2 : Int) (w0 w : World) (hI : IsS79 w0 w g s0_0 s0_1) (hB : Below w0.heap.size w0 w) (h : spec_l1Rd_pick.f k s0_0 s0_1 a1 = some (r1, r2)) :
    Calls Tryd.prog 47 #[.pointer (some ⟨g, 0, none⟩), .int .i64 a1] w fun e w' => e = .returned (.int .i64 r1) ∧ IsS79 w0 w' g s0_0 r2 ∧ Below w0.heap.size w0 w' ∧ KeepBut w w' g none := by
  have HI0 := Aside0.mk hI
  have HK := Aside0.mk (KeepBut.refl w g none)
  have HL := Aside0.mk hB.size
  clear hI
  have HW0 := Aside0.mk hB.size
  have HB := Aside0.mk hB
  clear hB
  have H : (if a1 < 1 then (spec_l1Rd_pick.j0 k a1 true s0_0 (wrap64 (s0_1 + 1))) else (spec_l1Rd_pick.j0 k a1 ((s0_0.length : Int) == 0) s0_0 (wrap64 (s0_1 + 1)))) = some (r1, r2) := h
  clear h
  have HC3 := Aside0.mk H
  clear H
  obtain ⟨ASz4_0, cSz4_0, HGz4, hgz4, HSz4_0⟩ := HI0.out
  have hcz4_0 := cellS79_0 HGz4
  have hcz4_1 := cellS79_1 HGz4
  have hfz4_1 := blk_frozen HGz4 1
  clear HGz4 hgz4
  go_enter Tryd.func47, Tryd.ntmps47
  go_upto_region 2 with (fail)
  repeat (go_quiet (fail); go_upto_region 2 with (fail))
  go_cut [24] (fun v24 wc => ∃ (kq : Nat) (x24_2 : Bool), v24 = .bool x24_2 ∧ Aside0 (spec_l1Rd_pick.j0 kq a1 x24_2 s0_0 (wrap64 (s0_1 + 1)) = some (r1, r2)) ∧ Aside0 (kq ≤ k) ∧ Aside0 (IsS79 w0 wc g s0_0 (wrap64 (s0_1 + 1))) ∧ Aside0 (KeepBut w wc g none) ∧ Aside0 (Below w0.heap.size w0 wc))
  case first =>
    have H := HC3.out
    clear HC3
    by_cases c5 : a1 < 1
    · rw [if_pos c5] at H
      have c5b0 : decide (a1 < 1) = true := decide_eq_true c5
      clear c5
      (first | rw [c5b0] | (simp only [i64_w, i32_w]; rw [c5b0]) | skip)
      have H' := Aside0.mk H
      clear H
      go_wp2
      repeat (go_quiet (fail); try go_wp2)
      go_meet
      case rel => exact ⟨_, (true), (by first | rfl | (simp; done) | (simp [*]; done)), H', ⟨by first | omega | exact Nat.le_refl _⟩, ⟨by repeat (first | (with_reducible first | exact HI0.out | apply IsS79.alloc | apply IsS79.drewN | apply IsS79.drew | apply IsS79.set_1) | exact HI0.out)⟩, ⟨by repeat (first | (with_reducible first | exact HK.out | apply KeepBut.set_ | apply keep_drewN | apply keep_drew | apply keep_alloc) | exact HK.out)⟩, ⟨by repeat (first | (with_reducible first | exact HB.out | apply below_alloc | apply pw_below_drewN | apply below_drew1 | refine below_set ?_ (IsS79.ge HI0.out)) | exact HB.out)⟩⟩
    · rw [if_neg c5] at H
      have c5b0 : decide (a1 < 1) = false := decide_eq_false c5
      clear c5
      (first | rw [c5b0] | (simp only [i64_w, i32_w]; rw [c5b0]) | skip)
      have H' := Aside0.mk H
      clear H
      obtain ⟨ASz6_0, cSz6_0, HGz6, hgz6, HSz6_0⟩ := HI0.out
      have hcz6_0 := cellS79_0 HGz6
      have hcz6_1 := cellS79_1 HGz6
      have hfz6_1 := blk_frozen HGz6 1
      clear HGz6 hgz6
      go_wp2
      repeat (go_quiet (fail); try go_wp2)
      go_meet
      case rel => exact ⟨_, (((s0_0.length : Int) == 0)), (by first | rfl | (simp; done) | (simp [*]; done)), H', ⟨by first | omega | exact Nat.le_refl _⟩, ⟨by repeat (first | (with_reducible first | exact HI0.out | apply IsS79.alloc | apply IsS79.drewN | apply IsS79.drew | apply IsS79.set_1) | exact HI0.out)⟩, ⟨by repeat (first | (with_reducible first | exact HK.out | apply KeepBut.set_ | apply keep_drewN | apply keep_drew | apply keep_alloc) | exact HK.out)⟩, ⟨by repeat (first | (with_reducible first | exact HB.out | apply below_alloc | apply pw_below_drewN | apply below_drew1 | refine below_set ?_ (IsS79.ge HI0.out)) | exact HB.out)⟩⟩
  case rest =>
    clear HC3
    try clear p2
    try clear c4
    try clear c5
    try clear c5b0
    try clear p6
    try clear hcz4_0
    try clear hcz4_1
    try clear hcz6_0
    try clear hcz6_1
    try clear hfz4_1
    try clear hfz6_1
    obtain ⟨kq, x24_2, rfl, HA, HJ2, HI0, HK, HB⟩ := hcut
    cases kq with
    | zero => exact absurd HA.out (by simp [spec_l1Rd_pick.j0])
    | succ kj2 =>
      have H := HA.out
      clear HA
      simp only [spec_l1Rd_pick.j0] at H
      by_cases c7 : x24_2 = true
      · subst c7
        have H1 : (some (0, (wrap64 (s0_1 + 1)))) = some (r1, r2) := by rw [if_pos rfl] at H; exact H
        clear H
        have H := H1
        clear H1
        simp only [Option.some.injEq, Prod.mk.injEq] at H
        obtain ⟨rfl, rfl⟩ := H
        go_wp2
        repeat (go_quiet (fail); try go_wp2)
        go_ret
        exact ⟨by first | rfl | (simp [errW_none, errW_some] <;> rfl) | (simp [*, errW_none, errW_some] <;> rfl), by repeat (first | (with_reducible first | exact HI0.out | apply IsS79.alloc | apply IsS79.drewN | apply IsS79.drew | apply IsS79.set_1) | exact HI0.out), by repeat (first | (with_reducible first | exact HB.out | apply below_alloc | apply pw_below_drewN | apply below_drew1 | refine below_set ?_ (IsS79.ge HI0.out)) | exact HB.out), by repeat (first | (with_reducible first | exact HK.out | apply KeepBut.set_ | apply keep_drewN | apply keep_drew | apply keep_alloc) | exact HK.out)⟩
      · replace c7 := Bool.eq_false_iff.mpr c7
        subst c7
        have H1 : (if (wrap64 ((wrap64 (s0_1 + 1)) - 1)) < (s0_0.length : Int) then (if 0 ≤ (wrap64 ((wrap64 (s0_1 + 1)) - 1)) then (if a1 = 0 then (none) else (some (Int.tmod (wrap64 (rd s0_0 (wrap64 ((wrap64 (s0_1 + 1)) - 1)))) a1, (wrap64 (s0_1 + 1))))) else (none)) else (if (s0_0.length : Int) = 0 then (none) else (if 0 ≤ (Int.tmod (wrap64 ((wrap64 (s0_1 + 1)) - 1)) (s0_0.length : Int)) then (if (Int.tmod (wrap64 ((wrap64 (s0_1 + 1)) - 1)) (s0_0.length : Int)) < (s0_0.length : Int) then (if 0 ≤ (Int.tmod (wrap64 ((wrap64 ((wrap64 ((wrap64 (s0_1 + 1)) - 1)) * 7)) + 3)) (s0_0.length : Int)) then (if (Int.tmod (wrap64 ((wrap64 ((wrap64 ((wrap64 (s0_1 + 1)) - 1)) * 7)) + 3)) (s0_0.length : Int)) < (s0_0.length : Int) then (if a1 = 0 then (none) else (some (Int.tmod (Go.bits .xor .i64 (wrap64 ((wrap64 ((wrap64 ((wrap64 ((wrap64 (rd s0_0 (Int.tmod (wrap64 ((wrap64 (s0_1 + 1)) - 1)) (s0_0.length : Int)))) * 131)) + (wrap64 ((wrap64 (rd s0_0 (Int.tmod (wrap64 ((wrap64 ((wrap64 ((wrap64 (s0_1 + 1)) - 1)) * 7)) + 3)) (s0_0.length : Int)))) * 1117)))) + (wrap64 ((wrap64 ((wrap64 (s0_1 + 1)) - 1)) * 29)))) + (wrap64 ((wrap64 (Int.tdiv (wrap64 ((wrap64 (s0_1 + 1)) - 1)) (s0_0.length : Int))) * 53)))) (wrap64 (Int.tdiv (wrap64 ((wrap64 ((wrap64 ((wrap64 ((wrap64 (rd s0_0 (Int.tmod (wrap64 ((wrap64 (s0_1 + 1)) - 1)) (s0_0.length : Int)))) * 131)) + (wrap64 ((wrap64 (rd s0_0 (Int.tmod (wrap64 ((wrap64 ((wrap64 ((wrap64 (s0_1 + 1)) - 1)) * 7)) + 3)) (s0_0.length : Int)))) * 1117)))) + (wrap64 ((wrap64 ((wrap64 (s0_1 + 1)) - 1)) * 29)))) + (wrap64 ((wrap64 (Int.tdiv (wrap64 ((wrap64 (s0_1 + 1)) - 1)) (s0_0.length : Int))) * 53)))) 64))) a1, (wrap64 (s0_1 + 1))))) else (none)) else (none)) else (none)) else (none)))) = some (r1, r2) := by rw [if_neg (show ¬ (false = true) by decide)] at H; exact H
        clear H
        have H := H1
        clear H1
        by_cases c8 : (wrap64 ((wrap64 (s0_1 + 1)) - 1)) < (s0_0.length : Int)
        · rw [if_pos c8] at H
          have c8b0 : decide ((wrap64 ((wrap64 (s0_1 + 1)) - 1)) < (s0_0.length : Int)) = true := decide_eq_true c8
          clear c8
          obtain ⟨ji9, hji9⟩ : ∃ j_ : Int, (wrap64 ((wrap64 (s0_1 + 1)) - 1)) = j_ := ⟨_, rfl⟩
          replace H : (if 0 ≤ (ji9) then (if a1 = 0 then (none) else (some (Int.tmod (wrap64 (rd s0_0 (ji9))) a1, (wrap64 (s0_1 + 1))))) else (none)) = some (r1, r2) := by first | (rw [hji9] at H; exact H) | (simp only [hji9] at H ⊢; exact H)
          (try rw [hji9] at c8b0)
          have hji9w : (IntKind.i64.wrap ((wrap64 (s0_1 + 1)) - 1)) = ji9 := (i64_w _).trans hji9
          by_cases c10 : 0 ≤ (ji9)
          · rw [if_pos c10] at H
            have c10b0 : decide (0 ≤ (ji9)) = true := decide_eq_true c10
            clear c10
            by_cases c11 : a1 = 0
            · rw [if_pos c11] at H
              exact absurd H (by simp)
            · rw [if_neg c11] at H
              have c11b0 : (a1 == 0) = false := beq_eq_false_iff_ne.mpr c11
              have c11b1 : (a1 != 0) = true := bne_iff_ne.mpr c11
              simp only [Option.some.injEq, Prod.mk.injEq] at H
              obtain ⟨rfl, rfl⟩ := H
              obtain ⟨ASz12_0, cSz12_0, HGz12, hgz12, HSz12_0⟩ := HI0.out
              have hcz12_0 := cellS79_0 HGz12
              have hcz12_1 := cellS79_1 HGz12
              have hfz12_1 := blk_frozen HGz12 1
              clear HGz12 hgz12
              have p290 : 0 ≤ ((ji9) : Int) := of_decide_eq_true (by first | (with_reducible assumption) | assumption)
              have q290 : (ji9) < (s0_0.length : Int) := of_decide_eq_true (by first | (with_reducible assumption) | assumption)
              obtain ⟨ad290, e290, hx290_0⟩ := Kd.at_int HSz12_0 (ji9) p290 q290
              cases e290
              replace hx290_0 := pw_cell_below HB.out hx290_0
              replace p290 := eq_true p290
              replace q290 := eq_true q290
              go_wp2
              repeat (go_quiet (fail); try go_wp2)
              go_ret
              exact ⟨by first | rfl | (simp [errW_none, errW_some] <;> rfl) | (simp only [← hji9]; first | rfl | (simp [errW_none, errW_some] <;> rfl)) | (simp [*, errW_none, errW_some] <;> rfl), by repeat (first | (with_reducible first | exact HI0.out | apply IsS79.alloc | apply IsS79.drewN | apply IsS79.drew | apply IsS79.set_1) | exact HI0.out), by repeat (first | (with_reducible first | exact HB.out | apply below_alloc | apply pw_below_drewN | apply below_drew1 | refine below_set ?_ (IsS79.ge HI0.out)) | exact HB.out), by repeat (first | (with_reducible first | exact HK.out | apply KeepBut.set_ | apply keep_drewN | apply keep_drew | apply keep_alloc) | exact HK.out)⟩
          · rw [if_neg c10] at H
            exact absurd H (by simp)
        · rw [if_neg c8] at H
          have c8b0 : decide ((wrap64 ((wrap64 (s0_1 + 1)) - 1)) < (s0_0.length : Int)) = false := decide_eq_false c8
          clear c8
          by_cases c13 : (s0_0.length : Int) = 0
          · rw [if_pos c13] at H
            exact absurd H (by simp)
          · rw [if_neg c13] at H
            have c13b0 : ((s0_0.length : Int) == 0) = false := beq_eq_false_iff_ne.mpr c13
            have c13b1 : ((s0_0.length : Int) != 0) = true := bne_iff_ne.mpr c13
            have c13b2 : ¬ (s0_0 = []) := fun h_ => c13 (by rw [h_]; rfl)
            obtain ⟨ji14, hji14⟩ : ∃ j_ : Int, (Int.tmod (wrap64 ((wrap64 (s0_1 + 1)) - 1)) (s0_0.length : Int)) = j_ := ⟨_, rfl⟩
            replace H : (if 0 ≤ (ji14) then (if (ji14) < (s0_0.length : Int) then (if 0 ≤ (Int.tmod (wrap64 ((wrap64 ((wrap64 ((wrap64 (s0_1 + 1)) - 1)) * 7)) + 3)) (s0_0.length : Int)) then (if (Int.tmod (wrap64 ((wrap64 ((wrap64 ((wrap64 (s0_1 + 1)) - 1)) * 7)) + 3)) (s0_0.length : Int)) < (s0_0.length : Int) then (if a1 = 0 then (none) else (some (Int.tmod (Go.bits .xor .i64 (wrap64 ((wrap64 ((wrap64 ((wrap64 ((wrap64 (rd s0_0 (ji14))) * 131)) + (wrap64 ((wrap64 (rd s0_0 (Int.tmod (wrap64 ((wrap64 ((wrap64 ((wrap64 (s0_1 + 1)) - 1)) * 7)) + 3)) (s0_0.length : Int)))) * 1117)))) + (wrap64 ((wrap64 ((wrap64 (s0_1 + 1)) - 1)) * 29)))) + (wrap64 ((wrap64 (Int.tdiv (wrap64 ((wrap64 (s0_1 + 1)) - 1)) (s0_0.length : Int))) * 53)))) (wrap64 (Int.tdiv (wrap64 ((wrap64 ((wrap64 ((wrap64 ((wrap64 (rd s0_0 (ji14))) * 131)) + (wrap64 ((wrap64 (rd s0_0 (Int.tmod (wrap64 ((wrap64 ((wrap64 ((wrap64 (s0_1 + 1)) - 1)) * 7)) + 3)) (s0_0.length : Int)))) * 1117)))) + (wrap64 ((wrap64 ((wrap64 (s0_1 + 1)) - 1)) * 29)))) + (wrap64 ((wrap64 (Int.tdiv (wrap64 ((wrap64 (s0_1 + 1)) - 1)) (s0_0.length : Int))) * 53)))) 64))) a1, (wrap64 (s0_1 + 1))))) else (none)) else (none)) else (none)) else (none)) = some (r1, r2) := by first | (rw [hji14] at H; exact H) | (simp only [hji14] at H ⊢; exact H)
            by_cases c15 : 0 ≤ (ji14)
            · rw [if_pos c15] at H
              have c15b0 : decide (0 ≤ (ji14)) = true := decide_eq_true c15
              clear c15
              by_cases c16 : (ji14) < (s0_0.length : Int)
              · rw [if_pos c16] at H
                have c16b0 : decide ((ji14) < (s0_0.length : Int)) = true := decide_eq_true c16
                clear c16
                obtain ⟨ji17, hji17⟩ : ∃ j_ : Int, (Int.tmod (wrap64 ((wrap64 ((wrap64 ((wrap64 (s0_1 + 1)) - 1)) * 7)) + 3)) (s0_0.length : Int)) = j_ := ⟨_, rfl⟩
                replace H : (if 0 ≤ (ji17) then (if (ji17) < (s0_0.length : Int) then (if a1 = 0 then (none) else (some (Int.tmod (Go.bits .xor .i64 (wrap64 ((wrap64 ((wrap64 ((wrap64 ((wrap64 (rd s0_0 (ji14))) * 131)) + (wrap64 ((wrap64 (rd s0_0 (ji17))) * 1117)))) + (wrap64 ((wrap64 ((wrap64 (s0_1 + 1)) - 1)) * 29)))) + (wrap64 ((wrap64 (Int.tdiv (wrap64 ((wrap64 (s0_1 + 1)) - 1)) (s0_0.length : Int))) * 53)))) (wrap64 (Int.tdiv (wrap64 ((wrap64 ((wrap64 ((wrap64 ((wrap64 (rd s0_0 (ji14))) * 131)) + (wrap64 ((wrap64 (rd s0_0 (ji17))) * 1117)))) + (wrap64 ((wrap64 ((wrap64 (s0_1 + 1)) - 1)) * 29)))) + (wrap64 ((wrap64 (Int.tdiv (wrap64 ((wrap64 (s0_1 + 1)) - 1)) (s0_0.length : Int))) * 53)))) 64))) a1, (wrap64 (s0_1 + 1))))) else (none)) else (none)) = some (r1, r2) := by first | (rw [hji17] at H; exact H) | (simp only [hji17] at H ⊢; exact H)
                by_cases c18 : 0 ≤ (ji17)
                · rw [if_pos c18] at H
                  have c18b0 : decide (0 ≤ (ji17)) = true := decide_eq_true c18
                  clear c18
                  by_cases c19 : (ji17) < (s0_0.length : Int)
                  · rw [if_pos c19] at H
                    have c19b0 : decide ((ji17) < (s0_0.length : Int)) = true := decide_eq_true c19
                    clear c19
                    by_cases c20 : a1 = 0
                    · rw [if_pos c20] at H
                      exact absurd H (by simp)
                    · rw [if_neg c20] at H
                      have c20b0 : (a1 == 0) = false := beq_eq_false_iff_ne.mpr c20
                      have c20b1 : (a1 != 0) = true := bne_iff_ne.mpr c20
                      simp only [Option.some.injEq, Prod.mk.injEq] at H
                      obtain ⟨rfl, rfl⟩ := H
                      obtain ⟨ASz21_0, cSz21_0, HGz21, hgz21, HSz21_0⟩ := HI0.out
                      have hcz21_0 := cellS79_0 HGz21
                      have hcz21_1 := cellS79_1 HGz21
                      have hfz21_1 := blk_frozen HGz21 1
                      clear HGz21 hgz21
                      have p291 : 0 ≤ ((ji14) : Int) := of_decide_eq_true (by first | (with_reducible assumption) | assumption)
                      have q291 : (ji14) < (s0_0.length : Int) := of_decide_eq_true (by first | (with_reducible assumption) | assumption)
                      obtain ⟨ad291, e291, hx291_0⟩ := Kd.at_int HSz21_0 (ji14) p291 q291
                      cases e291
                      replace hx291_0 := pw_cell_below HB.out hx291_0
                      replace p291 := eq_true p291
                      replace q291 := eq_true q291
                      have p292 : 0 ≤ ((ji17) : Int) := of_decide_eq_true (by first | (with_reducible assumption) | assumption)
                      have q292 : (ji17) < (s0_0.length : Int) := of_decide_eq_true (by first | (with_reducible assumption) | assumption)
                      obtain ⟨ad292, e292, hx292_0⟩ := Kd.at_int HSz21_0 (ji17) p292 q292
                      obtain rfl : ad291 = ad292 := (by injection e292)
                      replace hx292_0 := pw_cell_below HB.out hx292_0
                      replace p292 := eq_true p292
                      replace q292 := eq_true q292
                      go_wp2
                      repeat (go_quiet (fail); try go_wp2)
                      go_ret
                      exact ⟨by first | rfl | (simp [errW_none, errW_some] <;> rfl) | (simp only [← hji14, ← hji17]; first | rfl | (simp [errW_none, errW_some] <;> rfl)) | (simp [*, errW_none, errW_some] <;> rfl), by repeat (first | (with_reducible first | exact HI0.out | apply IsS79.alloc | apply IsS79.drewN | apply IsS79.drew | apply IsS79.set_1) | exact HI0.out), by repeat (first | (with_reducible first | exact HB.out | apply below_alloc | apply pw_below_drewN | apply below_drew1 | refine below_set ?_ (IsS79.ge HI0.out)) | exact HB.out), by repeat (first | (with_reducible first | exact HK.out | apply KeepBut.set_ | apply keep_drewN | apply keep_drew | apply keep_alloc) | exact HK.out)⟩
                  · rw [if_neg c19] at H
                    exact absurd H (by simp)
                · rw [if_neg c18] at H
                  exact absurd H (by simp)
              · rw [if_neg c16] at H
                exact absurd H (by simp)
            · rw [if_neg c15] at H
              exact absurd H (by simp)
def spec_l1Rd_one.f (k : Nat) (s0_0 : List Int) (s0_1 : Int) (l1 : List Int) : Option (Int × Int) := (spec_l1Rd_pick.f k s0_0 s0_1 (l1.length : Int)).bind fun bt293 => (if 0 ≤ bt293.1 then (if bt293.1 < (l1.length : Int) then (some (rd l1 bt293.1, bt293.2)) else (none)) else (none))
set_option maxHeartbeats 8000000 in
set_option maxRecDepth 100000 in
theorem spec_l1Rd_one.calls (k : Nat) (g : Nat) (s0_0 : List Int) (s0_1 : Int) (A1 : Option Addr) (c1 : Nat) (l1 : List Int) (r1 : Int) (r2 : Int) (w0 w : World) (hI : IsS79 w0 w g s0_0 s0_1) (hB : Below w0.heap.size w0 w) (hr1 : Kd.C (Kd.int .i64) w A1 l1.length l1) (hc1 : l1.length ≤ c1) (hf1 : ∀ ad, A1 = some ad → 0 < l1.length → ad.block ≠ g) (h : spec_l1Rd_one.f k s0_0 s0_1 l1 = some (r1, r2)) :
    Calls Tryd.prog 73 #[.pointer (some ⟨g, 0, none⟩), .slice A1 l1.length c1] w fun e w' => e = .returned (.int .i64 r1) ∧ IsS79 w0 w' g s0_0 r2 ∧ Below w0.heap.size w0 w' ∧ KeepBut w w' g none := by
  have HR1 := Aside0.mk hr1
  have HC1 := Aside0.mk hc1
  clear hr1 hc1
  have HI0 := Aside0.mk hI
  have HK := Aside0.mk (KeepBut.refl w g none)
  have HL := Aside0.mk hB.size
  clear hI
  have HW0 := Aside0.mk hB.size
  have HB := Aside0.mk hB
  clear hB
  have H : ((spec_l1Rd_pick.f k s0_0 s0_1 (l1.length : Int)).bind fun bt293 => (if 0 ≤ bt293.1 then (if bt293.1 < (l1.length : Int) then (some (rd l1 bt293.1, bt293.2)) else (none)) else (none))) = some (r1, r2) := h
  clear h
  replace H := Option.bind_eq_some_iff.mp H
  obtain ⟨⟨t293, t294⟩, A30, H⟩ := H
  replace H : (if 0 ≤ t293 then (if t293 < (l1.length : Int) then (some (rd l1 t293, t294)) else (none)) else (none)) = some (r1, r2) := H
  have A3 := Aside0.mk A30
  clear A30
  by_cases c4 : 0 ≤ t293
  · rw [if_pos c4] at H
    have c4b0 : decide (0 ≤ t293) = true := decide_eq_true c4
    clear c4
    by_cases c5 : t293 < (l1.length : Int)
    · rw [if_pos c5] at H
      have c5b0 : decide (t293 < (l1.length : Int)) = true := decide_eq_true c5
      clear c5
      simp only [Option.some.injEq, Prod.mk.injEq] at H
      obtain ⟨rfl, rfl⟩ := H
      go_enter Tryd.func73, Tryd.ntmps73
      go_wp2_with (first | ((with_reducible refine gate_callee (f := 47) rfl ?_); refine goesL_ (some 9) rfl rfl Tryd.func47 (by kernel_rfl) rfl #[.pointer (some ⟨g, 0, none⟩), .int .i64 (l1.length : Int)] rfl za ?_; (with_reducible refine (spec_l1Rd_pick.calls k g s0_0 s0_1 (l1.length : Int) t293 t294 w0 _ ?side1 ?side2 A3.out).mono ?_); (case side1 => repeat (first | (with_reducible first | exact HI0.out | apply IsS79.alloc | apply IsS79.drewN | apply IsS79.drew | apply IsS79.set_1) | exact HI0.out)); (case side2 => repeat (first | (with_reducible first | exact HB.out | apply below_alloc | apply pw_below_drewN | apply below_drew1 | refine below_set ?_ (IsS79.ge HI0.out)) | exact HB.out)); rintro e w6 ⟨rfl, hi, hb, hk⟩; refine ⟨_, rfl, ?_⟩; have n0_ := Aside0.mk (KeepBut.trans (by repeat (first | (with_reducible first | exact HK.out | apply KeepBut.set_ | apply keep_drewN | apply keep_drew | apply keep_alloc) | exact HK.out)) hk (.inl rfl)); have n1_ := Aside0.mk (hb); have n2_ := Aside0.mk (hi); clear HK; clear HB; clear HI0; have HK := n0_; have HB := n1_; have HI0 := n2_; clear n0_ n1_ n2_; (try clear hb); (try clear hb2); (try clear hk); (try clear hi); have p295 : 0 ≤ (t293 : Int) := of_decide_eq_true (by first | (with_reducible assumption) | assumption); have q295 : t293 < (l1.length : Int) := of_decide_eq_true (by first | (with_reducible assumption) | assumption); obtain ⟨ad295, e295, hx295_0⟩ := Kd.at_int HR1.out t293 p295 q295; cases e295; replace hx295_0 := keep_cell HK.out hx295_0 (by first | (rw [add_block]; exact hf1 _ rfl (by omega)) | exact hf1 _ rfl (by omega) | exact hf1 ad295 rfl (by omega)); replace p295 := eq_true p295; replace q295 := eq_true q295))
      go_ret
      exact ⟨by first | rfl | (simp [errW_none, errW_some] <;> rfl) | (simp [*, errW_none, errW_some] <;> rfl), by repeat (first | (with_reducible first | exact HI0.out | apply IsS79.alloc | apply IsS79.drewN | apply IsS79.drew | apply IsS79.set_1) | exact HI0.out), by repeat (first | (with_reducible first | exact HB.out | apply below_alloc | apply pw_below_drewN | apply below_drew1 | refine below_set ?_ (IsS79.ge HI0.out)) | exact HB.out), by repeat (first | (with_reducible first | exact HK.out | apply KeepBut.set_ | apply keep_drewN | apply keep_drew | apply keep_alloc) | exact HK.out)⟩
    · rw [if_neg c5] at H
      exact absurd H (by simp)
  · rw [if_neg c4] at H
    exact absurd H (by simp)
def spec_l14Span.f (k : Nat) (s0_0 : List Int) (s0_1 : Int) : Option (Int × Int × Int) := (spec_l1Rd_pick.f k s0_0 s0_1 5).bind fun bt297 => (if bt297.1 = 0 then ((spec_l1Rd_one.f k s0_0 bt297.2 (([0, 120000, (-120000), 119987, (-119988)] : List Int))).bind fun bt302 => ((spec_l1Rd_one.f k s0_0 bt302.2 (([0, 4000000, (-4000000)] : List Int))).bind fun bt307 => (some (bt302.1, bt307.1, bt307.2)))) else (if bt297.1 = 1 then ((spec_l1Rd_pick.f k s0_0 bt297.2 30).bind fun bt309 => (some (wrap64 (bt309.1 - 15), 0, bt309.2))) else (if bt297.1 = 2 then ((spec_l1Rd_pick.f k s0_0 bt297.2 80).bind fun bt311 => (some (0, wrap64 (bt311.1 - 40), bt311.2))) else ((spec_l1Rd_pick.f k s0_0 bt297.2 60).bind fun bt313 => ((spec_l1Rd_pick.f k s0_0 bt313.2 60).bind fun bt315 => (some (wrap64 (bt313.1 - 30), wrap64 (bt315.1 - 30), bt315.2)))))))
def spec_l14AnySpan.j0 : Nat → List Int → Int → Int → Int → Option (Int × Int × Int)
  | 0, _, _, _, _ => none
  | k + 1, x1000, x1001, x322000, x322001 => (spec_l1Rd_pick.f k x1000 x1001 20).bind fun bt329 => (if bt329.1 = 0 then ((spec_l1Rd_one.f k x1000 bt329.2 (([4000001, (-4000001)] : List Int))).bind fun bt334 => (some (x322000, bt334.1, bt334.2))) else (some (x322000, x322001, bt329.2)))
def spec_l14AnySpan.f (k : Nat) (s0_0 : List Int) (s0_1 : Int) : Option (Int × Int × Int) := (spec_l14Span.f k s0_0 s0_1).bind fun bt318 => ((spec_l1Rd_pick.f k s0_0 bt318.2.2 20).bind fun bt322 => (if bt322.1 = 0 then ((spec_l1Rd_one.f k s0_0 bt322.2 (([120001, (-120001)] : List Int))).bind fun bt327 => (spec_l14AnySpan.j0 k s0_0 bt327.2 bt327.1 bt318.2.1)) else (spec_l14AnySpan.j0 k s0_0 bt322.2 bt318.1 bt318.2.1)))
def spec_l1Open.f (l0 : List Int) : Option (List Int × Int) := if (l0.length : Int) > 2000 then (if 2000 ≤ (l0.length : Int) then (some (l0.take 2000, 0)) else (none)) else (some (l0, 0))
set_option maxHeartbeats 8000000 in
set_option maxRecDepth 100000 in
theorem spec_l1Open.calls (A0 : Option Addr) (c0 : Nat) (l0 : List Int) (r1 : List Int) (r2 : Int) (w0 w : World) (hB : Below w0.heap.size w0 w) (hr0 : Kd.C (Kd.int .u8) w0 A0 l0.length l0) (hc0 : l0.length ≤ c0) (h : spec_l1Open.f l0 = some (r1, r2)) :
    Calls Tryd.prog 45 #[.slice A0 l0.length c0] w fun e w' => ∃ g_ : Nat, e = .returned (.pointer (some ⟨g_, 0, none⟩)) ∧ IsS79 w0 w' g_ r1 r2 ∧ Below w0.heap.size w0 w' ∧ Below w.heap.size w w' := by
  have hu79 := Tryd.underlying79
  have HR0 := Aside0.mk hr0
  have HC0 := Aside0.mk hc0
  clear hr0 hc0
  have HBW := Aside0.mk (Below.refl w.heap.size w)
  have HW0 := Aside0.mk hB.size
  have HB := Aside0.mk hB
  clear hB
  have H : (if (l0.length : Int) > 2000 then (if 2000 ≤ (l0.length : Int) then (some (l0.take 2000, 0)) else (none)) else (some (l0, 0))) = some (r1, r2) := h
  clear h
  by_cases c2 : (l0.length : Int) > 2000
  · rw [if_pos c2] at H
    have c2b0 : decide (2000 < (l0.length : Int)) = true := decide_eq_true c2
    have c2b1 : decide (2000 < l0.length) = true := decide_eq_true (by omega)
    clear c2
    by_cases c3 : 2000 ≤ (l0.length : Int)
    · rw [if_pos c3] at H
      have c3b0 := eq_true c3
      have c3b1 : decide (2000 ≤ (l0.length : Int)) = true := decide_eq_true c3
      clear c3
      simp only [Option.some.injEq, Prod.mk.injEq] at H
      obtain ⟨rfl, rfl⟩ := H
      obtain ⟨i04, hi04, _, hsz4, _⟩ := info_parts info5
      obtain ⟨hcut4, hA4, hC4⟩ := print_take_of (P := Tryd.prog) (Value.int .u8) 0 40 5 .i64 Tryd.underlying40 hi04 hsz4 A0 c0 l0 2000 (by omega) (of_decide_eq_true (by first | (with_reducible assumption) | assumption)) HC0.out
      have HR336 := Aside0.mk (Kd.C_of_reads (h1 := fun _ => rfl) (hA4 _ (Kd.reads_of_C HR0.out)))
      have HC336 := Aside0.mk hC4
      clear hA4 hC4 hi04 hsz4
      go_enter Tryd.func45, Tryd.ntmps45
      go_wp2_with (first | ((with_reducible refine gate_dst (N := 10) rfl ?_); refine box_event ?hg (N := 10) ?hd (cs := #[.slice A0 (l0.take 2000).length c0, .int .i64 0]) (t := 79) ?hr ?_; (case hd => rfl); (case hg => rfl); (case hr => first | (go_simp; done) | (go_simp; rfl)); intro gb337 hg w5 hbox hb; have n0_ := Aside0.mk (below_step HBW.out hb); have n1_ := Aside0.mk (below_step zb hb); have n2_ := Aside0.mk (hbox); have n3_ := Aside0.mk ((by rw [hg]; exact (below_size (by repeat (first | (with_reducible first | exact HBW.out | apply below_alloc | apply pw_below_drewN | apply below_drew1) | exact HBW.out))) : w.heap.size ≤ gb337)); have n4_ := Aside0.mk ((Nat.le_trans HW0.out (by rw [hg]; exact (below_size (by repeat (first | (with_reducible first | exact HBW.out | apply below_alloc | apply pw_below_drewN | apply below_drew1) | exact HBW.out))) : w.heap.size ≤ gb337) : w0.heap.size ≤ gb337)); clear HBW; clear HB; have HBW := n0_; have HB := n1_; have BK337 := n2_; have GW337 := n3_; have GE337 := n4_; clear n0_ n1_ n2_ n3_ n4_; clear hb hbox hg))
      go_ret
      exact ⟨_, rfl, (show IsS79 w0 _ gb337 (l0.take 2000) 0 from ⟨_, _, by (with_reducible repeat (first | refine blk_drewN ?_ _ | refine blk_drew ?_ | refine blk_alloc ?_ _)); exact BK337.out, GE337.out, HR336.out⟩), zb, by repeat (first | (with_reducible first | exact HBW.out | apply below_alloc | apply pw_below_drewN | apply below_drew1 | refine below_set ?_ GW337.out) | exact HBW.out)⟩
    · rw [if_neg c3] at H
      exact absurd H (by simp)
  · rw [if_neg c2] at H
    have c2b0 : decide (2000 < (l0.length : Int)) = false := decide_eq_false c2
    have c2b1 : decide (2000 < l0.length) = false := decide_eq_false (by omega)
    clear c2
    simp only [Option.some.injEq, Prod.mk.injEq] at H
    obtain ⟨rfl, rfl⟩ := H
    go_enter Tryd.func45, Tryd.ntmps45
    go_wp2_with (first | ((with_reducible refine gate_dst (N := 10) rfl ?_); refine box_event ?hg (N := 10) ?hd (cs := #[.slice A0 l0.length c0, .int .i64 0]) (t := 79) ?hr ?_; (case hd => rfl); (case hg => rfl); (case hr => first | (go_simp; done) | (go_simp; rfl)); intro gb338 hg w6 hbox hb; have n0_ := Aside0.mk (below_step HBW.out hb); have n1_ := Aside0.mk (below_step zb hb); have n2_ := Aside0.mk (hbox); have n3_ := Aside0.mk ((by rw [hg]; exact (below_size (by repeat (first | (with_reducible first | exact HBW.out | apply below_alloc | apply pw_below_drewN | apply below_drew1) | exact HBW.out))) : w.heap.size ≤ gb338)); have n4_ := Aside0.mk ((Nat.le_trans HW0.out (by rw [hg]; exact (below_size (by repeat (first | (with_reducible first | exact HBW.out | apply below_alloc | apply pw_below_drewN | apply below_drew1) | exact HBW.out))) : w.heap.size ≤ gb338) : w0.heap.size ≤ gb338)); clear HBW; clear HB; have HBW := n0_; have HB := n1_; have BK338 := n2_; have GW338 := n3_; have GE338 := n4_; clear n0_ n1_ n2_ n3_ n4_; clear hb hbox hg))
    go_ret
    exact ⟨_, rfl, (show IsS79 w0 _ gb338 l0 0 from ⟨_, _, by (with_reducible repeat (first | refine blk_drewN ?_ _ | refine blk_drew ?_ | refine blk_alloc ?_ _)); exact BK338.out, GE338.out, HR0.out⟩), zb, by repeat (first | (with_reducible first | exact HBW.out | apply below_alloc | apply pw_below_drewN | apply below_drew1 | refine below_set ?_ GW338.out) | exact HBW.out)⟩
def spec_DrawSpanPut.f (k : Nat) (l0 : List Int) : Option (Int × Int) := (spec_l1Open.f l0).bind fun bt340 => ((spec_l14AnySpan.f k bt340.1 bt340.2).bind fun bt343 => (some (bt343.1, bt343.2.1)))
def spec_SpanOk.f (a0_0 : Int) (a0_1 : Int) : Option (Bool) := (spec_l3SpanOk.f a0_0 a0_1).bind fun t347 => (some t347)
def spec_l1Rd_of.f (k : Nat) (s0_0 : List Int) (s0_1 : Int) (l1 : List ByteArray) : Option (ByteArray × Int) := (spec_l1Rd_pick.f k s0_0 s0_1 (l1.length : Int)).bind fun bt348 => (if 0 ≤ bt348.1 then (if bt348.1 < (l1.length : Int) then (some (rdOf ByteArray.empty l1 bt348.1, bt348.2)) else (none)) else (none))
set_option maxHeartbeats 8000000 in
set_option maxRecDepth 100000 in
theorem spec_l1Rd_of.calls (k : Nat) (g : Nat) (s0_0 : List Int) (s0_1 : Int) (A1 : Option Addr) (c1 : Nat) (l1 : List ByteArray) (r1 : ByteArray) (r2 : Int) (w0 w : World) (hI : IsS79 w0 w g s0_0 s0_1) (hB : Below w0.heap.size w0 w) (hr1 : Kd.C Kd.string w A1 l1.length l1) (hc1 : l1.length ≤ c1) (hf1 : ∀ ad, A1 = some ad → 0 < l1.length → ad.block ≠ g) (h : spec_l1Rd_of.f k s0_0 s0_1 l1 = some (r1, r2)) :
    Calls Tryd.prog 48 #[.pointer (some ⟨g, 0, none⟩), .slice A1 l1.length c1] w fun e w' => e = .returned (.string r1) ∧ IsS79 w0 w' g s0_0 r2 ∧ Below w0.heap.size w0 w' ∧ KeepBut w w' g none := by
  have HR1 := Aside0.mk hr1
  have HC1 := Aside0.mk hc1
  clear hr1 hc1
  have HI0 := Aside0.mk hI
  have HK := Aside0.mk (KeepBut.refl w g none)
  have HL := Aside0.mk hB.size
  clear hI
  have HW0 := Aside0.mk hB.size
  have HB := Aside0.mk hB
  clear hB
  have H : ((spec_l1Rd_pick.f k s0_0 s0_1 (l1.length : Int)).bind fun bt348 => (if 0 ≤ bt348.1 then (if bt348.1 < (l1.length : Int) then (some (rdOf ByteArray.empty l1 bt348.1, bt348.2)) else (none)) else (none))) = some (r1, r2) := h
  clear h
  replace H := Option.bind_eq_some_iff.mp H
  obtain ⟨⟨t348, t349⟩, A30, H⟩ := H
  replace H : (if 0 ≤ t348 then (if t348 < (l1.length : Int) then (some (rdOf ByteArray.empty l1 t348, t349)) else (none)) else (none)) = some (r1, r2) := H
  have A3 := Aside0.mk A30
  clear A30
  by_cases c4 : 0 ≤ t348
  · rw [if_pos c4] at H
    have c4b0 : decide (0 ≤ t348) = true := decide_eq_true c4
    clear c4
    by_cases c5 : t348 < (l1.length : Int)
    · rw [if_pos c5] at H
      have c5b0 : decide (t348 < (l1.length : Int)) = true := decide_eq_true c5
      clear c5
      simp only [Option.some.injEq, Prod.mk.injEq] at H
      obtain ⟨rfl, rfl⟩ := H
      go_enter Tryd.func48, Tryd.ntmps48
      go_wp2_with (first | ((with_reducible refine gate_callee (f := 47) rfl ?_); refine goesL_ (some 9) rfl rfl Tryd.func47 (by kernel_rfl) rfl #[.pointer (some ⟨g, 0, none⟩), .int .i64 (l1.length : Int)] rfl za ?_; (with_reducible refine (spec_l1Rd_pick.calls k g s0_0 s0_1 (l1.length : Int) t348 t349 w0 _ ?side1 ?side2 A3.out).mono ?_); (case side1 => repeat (first | (with_reducible first | exact HI0.out | apply IsS79.alloc | apply IsS79.drewN | apply IsS79.drew | apply IsS79.set_1) | exact HI0.out)); (case side2 => repeat (first | (with_reducible first | exact HB.out | apply below_alloc | apply pw_below_drewN | apply below_drew1 | refine below_set ?_ (IsS79.ge HI0.out)) | exact HB.out)); rintro e w6 ⟨rfl, hi, hb, hk⟩; refine ⟨_, rfl, ?_⟩; have n0_ := Aside0.mk (KeepBut.trans (by repeat (first | (with_reducible first | exact HK.out | apply KeepBut.set_ | apply keep_drewN | apply keep_drew | apply keep_alloc) | exact HK.out)) hk (.inl rfl)); have n1_ := Aside0.mk (hb); have n2_ := Aside0.mk (hi); clear HK; clear HB; clear HI0; have HK := n0_; have HB := n1_; have HI0 := n2_; clear n0_ n1_ n2_; (try clear hb); (try clear hb2); (try clear hk); (try clear hi); have p350 : 0 ≤ (t348 : Int) := of_decide_eq_true (by first | (with_reducible assumption) | assumption); have q350 : t348 < (l1.length : Int) := of_decide_eq_true (by first | (with_reducible assumption) | assumption); obtain ⟨ad350, e350, hx350_0⟩ := Kd.at_string HR1.out t348 p350 q350; cases e350; replace hx350_0 := keep_cell HK.out hx350_0 (by first | (rw [add_block]; exact hf1 _ rfl (by omega)) | exact hf1 _ rfl (by omega) | exact hf1 ad350 rfl (by omega)); replace p350 := eq_true p350; replace q350 := eq_true q350))
      go_ret
      exact ⟨by first | rfl | (simp [errW_none, errW_some] <;> rfl) | (simp [*, errW_none, errW_some] <;> rfl), by repeat (first | (with_reducible first | exact HI0.out | apply IsS79.alloc | apply IsS79.drewN | apply IsS79.drew | apply IsS79.set_1) | exact HI0.out), by repeat (first | (with_reducible first | exact HB.out | apply below_alloc | apply pw_below_drewN | apply below_drew1 | refine below_set ?_ (IsS79.ge HI0.out)) | exact HB.out), by repeat (first | (with_reducible first | exact HK.out | apply KeepBut.set_ | apply keep_drewN | apply keep_drew | apply keep_alloc) | exact HK.out)⟩
    · rw [if_neg c5] at H
      exact absurd H (by simp)
  · rw [if_neg c4] at H
    exact absurd H (by simp)
def spec_l14Bent.f (k : Nat) (s0_0 : List Int) (s0_1 : Int) (a1 : ByteArray) : Option (ByteArray × Int) := (spec_l1Rd_pick.f k s0_0 s0_1 (wrap64 ((a1.size : Int) + 1))).bind fun bt351 => ((spec_l1Rd_pick.f k s0_0 bt351.2 6).bind fun bt353 => (if bt353.1 = 0 then (if bt351.1 < (a1.size : Int) then (if 0 ≤ bt351.1 then (if bt351.1 ≤ (a1.size : Int) then ((spec_l1Rd_of.f k s0_0 bt353.2 (([(⟨#[48]⟩ : ByteArray), (⟨#[57]⟩ : ByteArray), (⟨#[45]⟩ : ByteArray), (⟨#[46]⟩ : ByteArray), (⟨#[32]⟩ : ByteArray), (⟨#[120]⟩ : ByteArray), (⟨#[44]⟩ : ByteArray), (⟨#[58]⟩ : ByteArray), (⟨#[39]⟩ : ByteArray), (⟨#[33]⟩ : ByteArray), (⟨#[59]⟩ : ByteArray)] : List ByteArray))).bind fun bt358 => (if (a1.extract 0 (bt351.1 : Int).toNat).size + bt358.1.size ≤ 9223372036854775807 then (if 0 ≤ (wrap64 (bt351.1 + 1)) then (if (wrap64 (bt351.1 + 1)) ≤ (a1.size : Int) then (if ((a1.extract 0 (bt351.1 : Int).toNat) ++ bt358.1).size + (a1.extract ((wrap64 (bt351.1 + 1)) : Int).toNat a1.size).size ≤ 9223372036854775807 then (some (((a1.extract 0 (bt351.1 : Int).toNat) ++ bt358.1) ++ (a1.extract ((wrap64 (bt351.1 + 1)) : Int).toNat a1.size), bt358.2)) else (none)) else (none)) else (none)) else (none))) else (none)) else (none)) else (some (a1, bt353.2))) else (if bt353.1 = 1 then (if 0 ≤ bt351.1 then (if bt351.1 ≤ (a1.size : Int) then (some (a1.extract 0 (bt351.1 : Int).toNat, bt353.2)) else (none)) else (none)) else (if bt353.1 = 2 then ((spec_l1Rd_of.f k s0_0 bt353.2 (([(⟨#[120]⟩ : ByteArray), (⟨#[48]⟩ : ByteArray), (⟨#[32]⟩ : ByteArray), (⟨#[39]⟩ : ByteArray), (⟨#[59]⟩ : ByteArray), (⟨#[10]⟩ : ByteArray)] : List ByteArray))).bind fun bt363 => (if a1.size + bt363.1.size ≤ 9223372036854775807 then (some (a1 ++ bt363.1, bt363.2)) else (none))) else (if bt353.1 = 3 then (if 0 ≤ bt351.1 then (if bt351.1 ≤ (a1.size : Int) then ((spec_l1Rd_of.f k s0_0 bt353.2 (([(⟨#[48]⟩ : ByteArray), (⟨#[45]⟩ : ByteArray), (⟨#[46]⟩ : ByteArray), (⟨#[32]⟩ : ByteArray), (⟨#[40]⟩ : ByteArray), (⟨#[49]⟩ : ByteArray)] : List ByteArray))).bind fun bt368 => (if (a1.extract 0 (bt351.1 : Int).toNat).size + bt368.1.size ≤ 9223372036854775807 then (if ((a1.extract 0 (bt351.1 : Int).toNat) ++ bt368.1).size + (a1.extract (bt351.1 : Int).toNat a1.size).size ≤ 9223372036854775807 then (some (((a1.extract 0 (bt351.1 : Int).toNat) ++ bt368.1) ++ (a1.extract (bt351.1 : Int).toNat a1.size), bt368.2)) else (none)) else (none))) else (none)) else (none)) else (some (a1, bt353.2)))))))
def spec_l14Bent.T5 : Bool × List (List Nat × List Nat) := (true, [([], []), ([], []), ([0, 1], [0, 1]), ([], []), ([], []), ([3, 4], [3, 4]), ([2, 5], [2, 5]), ([], []), ([], []), ([8], [8]), ([7, 9], [7, 9]), ([6, 10], [6, 10]), ([11, 5, 0, 1, 2, 3, 4, 5, 6, 7, 8, 9, 10, 11], [11])])
def spec_l14Bent.B5 : List Nat := [0, 0, 3, 0, 0, 24, 63, 0, 0, 256, 896, 2047, 4095]
theorem spec_l14Bent.tab5 : rtab .any (opsOf Tryd.f49 5) = spec_l14Bent.T5 := by kernel_rfl
theorem spec_l14Bent.bits5 : waitsOk spec_l14Bent.T5.2 spec_l14Bent.B5 = true := by kernel_rfl
def spec_l14Bent.T11 : Bool × List (List Nat × List Nat) := (true, [([], []), ([], []), ([0, 1], [0, 1]), ([], []), ([], []), ([3, 4], [3, 4]), ([2, 5], [2, 5]), ([], []), ([], []), ([7, 8], [7, 8]), ([6, 9], [6, 9]), ([10, 5, 0, 1, 2, 3, 4, 5, 6, 7, 8, 9, 10], [10])])
def spec_l14Bent.B11 : List Nat := [0, 0, 3, 0, 0, 24, 63, 0, 0, 384, 1023, 2047]
theorem spec_l14Bent.tab11 : rtab .any (opsOf Tryd.f49 11) = spec_l14Bent.T11 := by kernel_rfl
theorem spec_l14Bent.bits11 : waitsOk spec_l14Bent.T11.2 spec_l14Bent.B11 = true := by kernel_rfl
set_option maxHeartbeats 8000000 in
set_option maxRecDepth 100000 in
theorem spec_l14Bent.calls (k : Nat) (g : Nat) (s0_0 : List Int) (s0_1 : Int) (a1 : ByteArray) (r1 : ByteArray) (r2 : Int) (w0 w : World) (hI : IsS79 w0 w g s0_0 s0_1) (hB : Below w0.heap.size w0 w) (h : spec_l14Bent.f k s0_0 s0_1 a1 = some (r1, r2)) :
    Calls Tryd.prog 49 #[.pointer (some ⟨g, 0, none⟩), .string a1] w fun e w' => e = .returned (.string r1) ∧ IsS79 w0 w' g s0_0 r2 ∧ Below w0.heap.size w0 w' ∧ KeepBut w w' g none := by
  have HI0 := Aside0.mk hI
  have HK := Aside0.mk (KeepBut.refl w g none)
  have HL := Aside0.mk hB.size
  clear hI
  have HW0 := Aside0.mk hB.size
  have HB := Aside0.mk hB
  clear hB
  have H : ((spec_l1Rd_pick.f k s0_0 s0_1 (wrap64 ((a1.size : Int) + 1))).bind fun bt351 => ((spec_l1Rd_pick.f k s0_0 bt351.2 6).bind fun bt353 => (if bt353.1 = 0 then (if bt351.1 < (a1.size : Int) then (if 0 ≤ bt351.1 then (if bt351.1 ≤ (a1.size : Int) then ((spec_l1Rd_of.f k s0_0 bt353.2 (([(⟨#[48]⟩ : ByteArray), (⟨#[57]⟩ : ByteArray), (⟨#[45]⟩ : ByteArray), (⟨#[46]⟩ : ByteArray), (⟨#[32]⟩ : ByteArray), (⟨#[120]⟩ : ByteArray), (⟨#[44]⟩ : ByteArray), (⟨#[58]⟩ : ByteArray), (⟨#[39]⟩ : ByteArray), (⟨#[33]⟩ : ByteArray), (⟨#[59]⟩ : ByteArray)] : List ByteArray))).bind fun bt358 => (if (a1.extract 0 (bt351.1 : Int).toNat).size + bt358.1.size ≤ 9223372036854775807 then (if 0 ≤ (wrap64 (bt351.1 + 1)) then (if (wrap64 (bt351.1 + 1)) ≤ (a1.size : Int) then (if ((a1.extract 0 (bt351.1 : Int).toNat) ++ bt358.1).size + (a1.extract ((wrap64 (bt351.1 + 1)) : Int).toNat a1.size).size ≤ 9223372036854775807 then (some (((a1.extract 0 (bt351.1 : Int).toNat) ++ bt358.1) ++ (a1.extract ((wrap64 (bt351.1 + 1)) : Int).toNat a1.size), bt358.2)) else (none)) else (none)) else (none)) else (none))) else (none)) else (none)) else (some (a1, bt353.2))) else (if bt353.1 = 1 then (if 0 ≤ bt351.1 then (if bt351.1 ≤ (a1.size : Int) then (some (a1.extract 0 (bt351.1 : Int).toNat, bt353.2)) else (none)) else (none)) else (if bt353.1 = 2 then ((spec_l1Rd_of.f k s0_0 bt353.2 (([(⟨#[120]⟩ : ByteArray), (⟨#[48]⟩ : ByteArray), (⟨#[32]⟩ : ByteArray), (⟨#[39]⟩ : ByteArray), (⟨#[59]⟩ : ByteArray), (⟨#[10]⟩ : ByteArray)] : List ByteArray))).bind fun bt363 => (if a1.size + bt363.1.size ≤ 9223372036854775807 then (some (a1 ++ bt363.1, bt363.2)) else (none))) else (if bt353.1 = 3 then (if 0 ≤ bt351.1 then (if bt351.1 ≤ (a1.size : Int) then ((spec_l1Rd_of.f k s0_0 bt353.2 (([(⟨#[48]⟩ : ByteArray), (⟨#[45]⟩ : ByteArray), (⟨#[46]⟩ : ByteArray), (⟨#[32]⟩ : ByteArray), (⟨#[40]⟩ : ByteArray), (⟨#[49]⟩ : ByteArray)] : List ByteArray))).bind fun bt368 => (if (a1.extract 0 (bt351.1 : Int).toNat).size + bt368.1.size ≤ 9223372036854775807 then (if ((a1.extract 0 (bt351.1 : Int).toNat) ++ bt368.1).size + (a1.extract (bt351.1 : Int).toNat a1.size).size ≤ 9223372036854775807 then (some (((a1.extract 0 (bt351.1 : Int).toNat) ++ bt368.1) ++ (a1.extract (bt351.1 : Int).toNat a1.size), bt368.2)) else (none)) else (none))) else (none)) else (none)) else (some (a1, bt353.2)))))))) = some (r1, r2) := h
  clear h
  replace H := Option.bind_eq_some_iff.mp H
  obtain ⟨⟨t351, t352⟩, A30, H⟩ := H
  replace H : ((spec_l1Rd_pick.f k s0_0 t352 6).bind fun bt353 => (if bt353.1 = 0 then (if t351 < (a1.size : Int) then (if 0 ≤ t351 then (if t351 ≤ (a1.size : Int) then ((spec_l1Rd_of.f k s0_0 bt353.2 (([(⟨#[48]⟩ : ByteArray), (⟨#[57]⟩ : ByteArray), (⟨#[45]⟩ : ByteArray), (⟨#[46]⟩ : ByteArray), (⟨#[32]⟩ : ByteArray), (⟨#[120]⟩ : ByteArray), (⟨#[44]⟩ : ByteArray), (⟨#[58]⟩ : ByteArray), (⟨#[39]⟩ : ByteArray), (⟨#[33]⟩ : ByteArray), (⟨#[59]⟩ : ByteArray)] : List ByteArray))).bind fun bt358 => (if (a1.extract 0 (t351 : Int).toNat).size + bt358.1.size ≤ 9223372036854775807 then (if 0 ≤ (wrap64 (t351 + 1)) then (if (wrap64 (t351 + 1)) ≤ (a1.size : Int) then (if ((a1.extract 0 (t351 : Int).toNat) ++ bt358.1).size + (a1.extract ((wrap64 (t351 + 1)) : Int).toNat a1.size).size ≤ 9223372036854775807 then (some (((a1.extract 0 (t351 : Int).toNat) ++ bt358.1) ++ (a1.extract ((wrap64 (t351 + 1)) : Int).toNat a1.size), bt358.2)) else (none)) else (none)) else (none)) else (none))) else (none)) else (none)) else (some (a1, bt353.2))) else (if bt353.1 = 1 then (if 0 ≤ t351 then (if t351 ≤ (a1.size : Int) then (some (a1.extract 0 (t351 : Int).toNat, bt353.2)) else (none)) else (none)) else (if bt353.1 = 2 then ((spec_l1Rd_of.f k s0_0 bt353.2 (([(⟨#[120]⟩ : ByteArray), (⟨#[48]⟩ : ByteArray), (⟨#[32]⟩ : ByteArray), (⟨#[39]⟩ : ByteArray), (⟨#[59]⟩ : ByteArray), (⟨#[10]⟩ : ByteArray)] : List ByteArray))).bind fun bt363 => (if a1.size + bt363.1.size ≤ 9223372036854775807 then (some (a1 ++ bt363.1, bt363.2)) else (none))) else (if bt353.1 = 3 then (if 0 ≤ t351 then (if t351 ≤ (a1.size : Int) then ((spec_l1Rd_of.f k s0_0 bt353.2 (([(⟨#[48]⟩ : ByteArray), (⟨#[45]⟩ : ByteArray), (⟨#[46]⟩ : ByteArray), (⟨#[32]⟩ : ByteArray), (⟨#[40]⟩ : ByteArray), (⟨#[49]⟩ : ByteArray)] : List ByteArray))).bind fun bt368 => (if (a1.extract 0 (t351 : Int).toNat).size + bt368.1.size ≤ 9223372036854775807 then (if ((a1.extract 0 (t351 : Int).toNat) ++ bt368.1).size + (a1.extract (t351 : Int).toNat a1.size).size ≤ 9223372036854775807 then (some (((a1.extract 0 (t351 : Int).toNat) ++ bt368.1) ++ (a1.extract (t351 : Int).toNat a1.size), bt368.2)) else (none)) else (none))) else (none)) else (none)) else (some (a1, bt353.2))))))) = some (r1, r2) := H
  have A3 := Aside0.mk A30
  clear A30
  replace H := Option.bind_eq_some_iff.mp H
  obtain ⟨⟨t353, t354⟩, A40, H⟩ := H
  replace H : (if t353 = 0 then (if t351 < (a1.size : Int) then (if 0 ≤ t351 then (if t351 ≤ (a1.size : Int) then ((spec_l1Rd_of.f k s0_0 t354 (([(⟨#[48]⟩ : ByteArray), (⟨#[57]⟩ : ByteArray), (⟨#[45]⟩ : ByteArray), (⟨#[46]⟩ : ByteArray), (⟨#[32]⟩ : ByteArray), (⟨#[120]⟩ : ByteArray), (⟨#[44]⟩ : ByteArray), (⟨#[58]⟩ : ByteArray), (⟨#[39]⟩ : ByteArray), (⟨#[33]⟩ : ByteArray), (⟨#[59]⟩ : ByteArray)] : List ByteArray))).bind fun bt358 => (if (a1.extract 0 (t351 : Int).toNat).size + bt358.1.size ≤ 9223372036854775807 then (if 0 ≤ (wrap64 (t351 + 1)) then (if (wrap64 (t351 + 1)) ≤ (a1.size : Int) then (if ((a1.extract 0 (t351 : Int).toNat) ++ bt358.1).size + (a1.extract ((wrap64 (t351 + 1)) : Int).toNat a1.size).size ≤ 9223372036854775807 then (some (((a1.extract 0 (t351 : Int).toNat) ++ bt358.1) ++ (a1.extract ((wrap64 (t351 + 1)) : Int).toNat a1.size), bt358.2)) else (none)) else (none)) else (none)) else (none))) else (none)) else (none)) else (some (a1, t354))) else (if t353 = 1 then (if 0 ≤ t351 then (if t351 ≤ (a1.size : Int) then (some (a1.extract 0 (t351 : Int).toNat, t354)) else (none)) else (none)) else (if t353 = 2 then ((spec_l1Rd_of.f k s0_0 t354 (([(⟨#[120]⟩ : ByteArray), (⟨#[48]⟩ : ByteArray), (⟨#[32]⟩ : ByteArray), (⟨#[39]⟩ : ByteArray), (⟨#[59]⟩ : ByteArray), (⟨#[10]⟩ : ByteArray)] : List ByteArray))).bind fun bt363 => (if a1.size + bt363.1.size ≤ 9223372036854775807 then (some (a1 ++ bt363.1, bt363.2)) else (none))) else (if t353 = 3 then (if 0 ≤ t351 then (if t351 ≤ (a1.size : Int) then ((spec_l1Rd_of.f k s0_0 t354 (([(⟨#[48]⟩ : ByteArray), (⟨#[45]⟩ : ByteArray), (⟨#[46]⟩ : ByteArray), (⟨#[32]⟩ : ByteArray), (⟨#[40]⟩ : ByteArray), (⟨#[49]⟩ : ByteArray)] : List ByteArray))).bind fun bt368 => (if (a1.extract 0 (t351 : Int).toNat).size + bt368.1.size ≤ 9223372036854775807 then (if ((a1.extract 0 (t351 : Int).toNat) ++ bt368.1).size + (a1.extract (t351 : Int).toNat a1.size).size ≤ 9223372036854775807 then (some (((a1.extract 0 (t351 : Int).toNat) ++ bt368.1) ++ (a1.extract (t351 : Int).toNat a1.size), bt368.2)) else (none)) else (none))) else (none)) else (none)) else (some (a1, t354)))))) = some (r1, r2) := H
  have A4 := Aside0.mk A40
  clear A40
  by_cases c5 : t353 = 0
  · rw [if_pos c5] at H
    have c5b0 : (t353 == 0) = true := beq_iff_eq.mpr c5
    have c5b1 : (t353 != 0) = false := bne_eq_false_iff_eq.mpr c5
    clear c5
    by_cases c6 : t351 < (a1.size : Int)
    · rw [if_pos c6] at H
      have c6b0 : decide (t351 < (a1.size : Int)) = true := decide_eq_true c6
      clear c6
      by_cases c7 : 0 ≤ t351
      · rw [if_pos c7] at H
        have c7b0 := eq_true c7
        have c7b1 : decide (0 ≤ t351) = true := decide_eq_true c7
        clear c7
        by_cases c8 : t351 ≤ (a1.size : Int)
        · rw [if_pos c8] at H
          have c8b0 := eq_true c8
          have c8b1 : decide (t351 ≤ (a1.size : Int)) = true := decide_eq_true c8
          clear c8
          obtain ⟨y355, hy355⟩ : ∃ y_ : List ByteArray, y_ = (([(⟨#[48]⟩ : ByteArray), (⟨#[57]⟩ : ByteArray), (⟨#[45]⟩ : ByteArray), (⟨#[46]⟩ : ByteArray), (⟨#[32]⟩ : ByteArray), (⟨#[120]⟩ : ByteArray), (⟨#[44]⟩ : ByteArray), (⟨#[58]⟩ : ByteArray), (⟨#[39]⟩ : ByteArray), (⟨#[33]⟩ : ByteArray), (⟨#[59]⟩ : ByteArray)] : List ByteArray)) := ⟨_, rfl⟩
          replace H : ((spec_l1Rd_of.f k s0_0 t354 y355).bind fun bt358 => (if (a1.extract 0 (t351 : Int).toNat).size + bt358.1.size ≤ 9223372036854775807 then (if 0 ≤ (wrap64 (t351 + 1)) then (if (wrap64 (t351 + 1)) ≤ (a1.size : Int) then (if ((a1.extract 0 (t351 : Int).toNat) ++ bt358.1).size + (a1.extract ((wrap64 (t351 + 1)) : Int).toNat a1.size).size ≤ 9223372036854775807 then (some (((a1.extract 0 (t351 : Int).toNat) ++ bt358.1) ++ (a1.extract ((wrap64 (t351 + 1)) : Int).toNat a1.size), bt358.2)) else (none)) else (none)) else (none)) else (none))) = some (r1, r2) := by first | (rw [hy355]; with_reducible exact H) | (have H2_ := (Option.bind_some _ _).symm.trans H; rw [hy355]; with_reducible exact H2_) | (have H2_ := (Option.bind_some _ _).symm.trans H; with_reducible exact H2_) | with_reducible exact H | (rw [hy355]; exact H) | exact H
          have Ny355 := Aside0.mk hy355
          clear hy355
          replace H := Option.bind_eq_some_iff.mp H
          obtain ⟨⟨t358, t359⟩, A90, H⟩ := H
          replace H : (if (a1.extract 0 (t351 : Int).toNat).size + t358.size ≤ 9223372036854775807 then (if 0 ≤ (wrap64 (t351 + 1)) then (if (wrap64 (t351 + 1)) ≤ (a1.size : Int) then (if ((a1.extract 0 (t351 : Int).toNat) ++ t358).size + (a1.extract ((wrap64 (t351 + 1)) : Int).toNat a1.size).size ≤ 9223372036854775807 then (some (((a1.extract 0 (t351 : Int).toNat) ++ t358) ++ (a1.extract ((wrap64 (t351 + 1)) : Int).toNat a1.size), t359)) else (none)) else (none)) else (none)) else (none)) = some (r1, r2) := H
          have A9 := Aside0.mk A90
          clear A90
          by_cases c10 : (a1.extract 0 (t351 : Int).toNat).size + t358.size ≤ 9223372036854775807
          · rw [if_pos c10] at H
            have c10b0 := eq_true c10
            have c10b1 : decide ((a1.extract 0 (t351 : Int).toNat).size + t358.size ≤ 9223372036854775807) = true := decide_eq_true c10
            try have c10b2 : (9223372036854775807 < (a1.extract 0 (t351 : Int).toNat).size + t358.size) = False := eq_false (Nat.not_lt.2 c10)
            try have c10bs : (9223372036854775807 < t351.toNat + t358.size) = False := eq_false (by have q0_ : ((t351 : Int) : Int) ≤ (a1.size : Int) := (by first | exact of_eq_true (by assumption) | exact Int.le_of_lt (of_eq_true (by assumption)) | exact of_decide_eq_true (by assumption) | exact Int.le_of_lt (of_decide_eq_true (by assumption))); have h_ := c10; simp only [ByteArray.size_append, ByteArray.size_extract] at h_; omega)
            obtain ⟨ji11, hji11⟩ : ∃ j_ : Int, (wrap64 (t351 + 1)) = j_ := ⟨_, rfl⟩
            replace H : (if 0 ≤ (ji11) then (if (ji11) ≤ (a1.size : Int) then (if ((a1.extract 0 (t351 : Int).toNat) ++ t358).size + (a1.extract ((ji11) : Int).toNat a1.size).size ≤ 9223372036854775807 then (some (((a1.extract 0 (t351 : Int).toNat) ++ t358) ++ (a1.extract ((ji11) : Int).toNat a1.size), t359)) else (none)) else (none)) else (none)) = some (r1, r2) := by first | (rw [hji11] at H; exact H) | (simp only [hji11] at H ⊢; exact H)
            (try rw [hji11] at A3)
            (try rw [hji11] at A4)
            (try rw [hji11] at A9)
            have hji11w : (IntKind.i64.wrap (t351 + 1)) = ji11 := (i64_w _).trans hji11
            by_cases c12 : 0 ≤ (ji11)
            · rw [if_pos c12] at H
              have c12b0 := eq_true c12
              have c12b1 : decide (0 ≤ (ji11)) = true := decide_eq_true c12
              clear c12
              by_cases c13 : (ji11) ≤ (a1.size : Int)
              · rw [if_pos c13] at H
                have c13b0 := eq_true c13
                have c13b1 : decide ((ji11) ≤ (a1.size : Int)) = true := decide_eq_true c13
                clear c13
                by_cases c14 : ((a1.extract 0 (t351 : Int).toNat) ++ t358).size + (a1.extract ((ji11) : Int).toNat a1.size).size ≤ 9223372036854775807
                · rw [if_pos c14] at H
                  have c14b0 := eq_true c14
                  have c14b1 : decide (((a1.extract 0 (t351 : Int).toNat) ++ t358).size + (a1.extract ((ji11) : Int).toNat a1.size).size ≤ 9223372036854775807) = true := decide_eq_true c14
                  try have c14b2 : (9223372036854775807 < ((a1.extract 0 (t351 : Int).toNat) ++ t358).size + (a1.extract ((ji11) : Int).toNat a1.size).size) = False := eq_false (Nat.not_lt.2 c14)
                  try have c14bs : (9223372036854775807 < t351.toNat + t358.size + (a1.size - ji11.toNat)) = False := eq_false (by have q0_ : ((t351 : Int) : Int) ≤ (a1.size : Int) := (by first | exact of_eq_true (by assumption) | exact Int.le_of_lt (of_eq_true (by assumption)) | exact of_decide_eq_true (by assumption) | exact Int.le_of_lt (of_decide_eq_true (by assumption))); have h_ := c14; simp only [ByteArray.size_append, ByteArray.size_extract] at h_; omega)
                  simp only [Option.some.injEq, Prod.mk.injEq] at H
                  obtain ⟨rfl, rfl⟩ := H
                  go_enter Tryd.func49, Tryd.ntmps49
                  try go_wp2_with (first | ((with_reducible refine gate_callee (f := 47) rfl ?_); refine goesL_ (some 10) rfl rfl Tryd.func47 (by kernel_rfl) rfl #[.pointer (some ⟨g, 0, none⟩), .int .i64 (wrap64 ((a1.size : Int) + 1))] rfl za ?_; (with_reducible refine (spec_l1Rd_pick.calls k g s0_0 s0_1 (wrap64 ((a1.size : Int) + 1)) t351 t352 w0 _ ?side1 ?side2 A3.out).mono ?_); (case side1 => repeat (first | (with_reducible first | exact HI0.out | apply IsS79.alloc | apply IsS79.drewN | apply IsS79.drew | apply IsS79.set_1) | exact HI0.out)); (case side2 => repeat (first | (with_reducible first | exact HB.out | apply below_alloc | apply pw_below_drewN | apply below_drew1 | refine below_set ?_ (IsS79.ge HI0.out)) | exact HB.out)); rintro e w15 ⟨rfl, hi, hb, hk⟩; refine ⟨_, rfl, ?_⟩; have n0_ := Aside0.mk (KeepBut.trans (by repeat (first | (with_reducible first | exact HK.out | apply KeepBut.set_ | apply keep_drewN | apply keep_drew | apply keep_alloc) | exact HK.out)) hk (.inl rfl)); have n1_ := Aside0.mk (hb); have n2_ := Aside0.mk (hi); clear HK; clear HB; clear HI0; have HK := n0_; have HB := n1_; have HI0 := n2_; clear n0_ n1_ n2_; (try clear hb); (try clear hb2); (try clear hk); (try clear hi)) | ((with_reducible refine gate_callee (f := 47) rfl ?_); refine goesL_ (some 12) rfl rfl Tryd.func47 (by kernel_rfl) rfl #[.pointer (some ⟨g, 0, none⟩), .int .i64 6] rfl za ?_; (with_reducible refine (spec_l1Rd_pick.calls k g s0_0 t352 6 t353 t354 w0 _ ?side1 ?side2 A4.out).mono ?_); (case side1 => repeat (first | (with_reducible first | exact HI0.out | apply IsS79.alloc | apply IsS79.drewN | apply IsS79.drew | apply IsS79.set_1) | exact HI0.out)); (case side2 => repeat (first | (with_reducible first | exact HB.out | apply below_alloc | apply pw_below_drewN | apply below_drew1 | refine below_set ?_ (IsS79.ge HI0.out)) | exact HB.out)); rintro e w16 ⟨rfl, hi, hb, hk⟩; refine ⟨_, rfl, ?_⟩; have n0_ := Aside0.mk (KeepBut.trans (by repeat (first | (with_reducible first | exact HK.out | apply KeepBut.set_ | apply keep_drewN | apply keep_drew | apply keep_alloc) | exact HK.out)) hk (.inl rfl)); have n1_ := Aside0.mk (hb); have n2_ := Aside0.mk (hi); clear HK; clear HB; clear HI0; have HK := n0_; have HB := n1_; have HI0 := n2_; clear n0_ n1_ n2_; (try clear hb); (try clear hb2); (try clear hk); (try clear hi)))
                  have n0_ := Aside0.mk (IsS79.drew HI0.out)
                  have n1_ := Aside0.mk (keep_drew HK.out)
                  have n2_ := Aside0.mk (below_drew1 HB.out)
                  clear HI0
                  clear HK
                  clear HB
                  have HI0 := n0_
                  have HK := n1_
                  have HB := n2_
                  clear n0_ n1_ n2_
                  refine start_ (n := 13) (S := fun w' => True) (ds := []) #[false, false, false, false, false, false, false, false, false, false, false, false, false] (by kernel_rfl) rfl rfl trivial (fun hHeld => ?_); refine with_tabW spec_l14Bent.tab5 spec_l14Bent.bits5 (fun HT_ HW_ => ?_)
                  generalize w16.drew = w17 at HI0 HK HB hHeld ⊢
                  refine pure_ (i := 0) (N := some 19) (v := ?_) (a' := ?_) #[true, false, false, false, false, false, false, false, false, false, false, false, false] rfl rfl (any_of HT_.out (by kernel_rfl)) (fun _ _ _ h => h) (Or.inl ⟨by rfl, ?_⟩) ?_ ?_
                  rotate_left
                  · intro w'
                    go_simp
                    with_reducible rfl
                  rotate_left
                  · simp only [Act.put, List.setIfInBounds_toArray, List.set_cons_zero, List.set_cons_succ, i64_w, i32_w]
                    rfl
                  refine pure_ (i := 1) (N := some 20) (v := ?_) (a' := ?_) #[true, true, false, false, false, false, false, false, false, false, false, false, false] rfl rfl (any_of HT_.out (by kernel_rfl)) (fun _ _ _ h => h) (Or.inl ⟨by rfl, ?_⟩) ?_ ?_
                  rotate_left
                  · intro w'
                    go_simp
                    with_reducible rfl
                  rotate_left
                  · simp only [Act.put, List.setIfInBounds_toArray, List.set_cons_zero, List.set_cons_succ, i64_w, i32_w]
                    rfl
                  refine pure_ (i := 2) (N := some 21) (v := ?_) (a' := ?_) #[true, true, true, false, false, false, false, false, false, false, false, false, false] rfl rfl (any_of HT_.out (by kernel_rfl)) (fun _ _ _ h => h) (Or.inl ⟨by rfl, ?_⟩) ?_ ?_
                  rotate_left
                  · intro w'
                    go_simp
                    with_reducible rfl
                  rotate_left
                  · simp only [Act.put, List.setIfInBounds_toArray, List.set_cons_zero, List.set_cons_succ, i64_w, i32_w]
                    rfl
                  refine pure_ (i := 3) (N := some 22) (v := ?_) (a' := ?_) #[true, true, true, true, false, false, false, false, false, false, false, false, false] rfl rfl (any_of HT_.out (by kernel_rfl)) (fun _ _ _ h => h) (Or.inl ⟨by rfl, ?_⟩) ?_ ?_
                  rotate_left
                  · intro w'
                    go_simp
                    with_reducible rfl
                  rotate_left
                  · simp only [Act.put, List.setIfInBounds_toArray, List.set_cons_zero, List.set_cons_succ, i64_w, i32_w]
                    rfl
                  refine pure_ (i := 7) (N := some 26) (v := ?_) (a' := ?_) #[true, true, true, true, false, false, false, true, false, false, false, false, false] rfl rfl (any_of HT_.out (by kernel_rfl)) (fun _ _ _ h => h) (Or.inl ⟨by rfl, ?_⟩) ?_ ?_
                  rotate_left
                  · intro w'
                    go_simp
                    with_reducible rfl
                  rotate_left
                  · simp only [Act.put, List.setIfInBounds_toArray, List.set_cons_zero, List.set_cons_succ, i64_w, i32_w]
                    rfl
                  refine pure_ (i := 8) (N := some 27) (v := ?_) (a' := ?_) #[true, true, true, true, false, false, false, true, true, false, false, false, false] rfl rfl (any_of HT_.out (by kernel_rfl)) (fun _ _ _ h => h) (Or.inl ⟨by rfl, ?_⟩) ?_ ?_
                  rotate_left
                  · intro w'
                    go_simp
                    with_reducible rfl
                  rotate_left
                  · simp only [Act.put, List.setIfInBounds_toArray, List.set_cons_zero, List.set_cons_succ, i64_w, i32_w]
                    rfl
                  refine pure_ (i := 9) (N := some 28) (v := ?_) (a' := ?_) #[true, true, true, true, false, false, false, true, true, true, false, false, false] rfl rfl (any_of HT_.out (by kernel_rfl)) (fun _ _ _ h => h) (Or.inl ⟨by rfl, ?_⟩) ?_ ?_
                  rotate_left
                  · intro w'
                    go_simp
                    with_reducible rfl
                  rotate_left
                  · simp only [Act.put, List.setIfInBounds_toArray, List.set_cons_zero, List.set_cons_succ, i64_w, i32_w]
                    rfl
                  refine pure_ (i := 10) (N := some 29) (v := ?_) (a' := ?_) #[true, true, true, true, false, false, false, true, true, true, true, false, false] rfl rfl (any_of HT_.out (by kernel_rfl)) (fun _ _ _ h => h) (Or.inl ⟨by rfl, ?_⟩) ?_ ?_
                  rotate_left
                  · intro w'
                    go_simp
                    with_reducible rfl
                  rotate_left
                  · simp only [Act.put, List.setIfInBounds_toArray, List.set_cons_zero, List.set_cons_succ, i64_w, i32_w]
                    rfl
                  refine one_ (i := 4) (N := some 23) #[true, true, true, true, true, false, false, true, true, true, true, false, false] rfl rfl (one_of HT_.out (by kernel_rfl)) (by decide) (fun K hK => ?_)
                  refine Kd.R_lit_step Kd.string _ 9 ?hg (N := 23) ?hd (xs := ([(⟨#[48]⟩ : ByteArray), (⟨#[57]⟩ : ByteArray), (⟨#[45]⟩ : ByteArray), (⟨#[46]⟩ : ByteArray), (⟨#[32]⟩ : ByteArray), (⟨#[120]⟩ : ByteArray), (⟨#[44]⟩ : ByteArray), (⟨#[58]⟩ : ByteArray), (⟨#[39]⟩ : ByteArray), (⟨#[33]⟩ : ByteArray), (⟨#[59]⟩ : ByteArray)] : List ByteArray)) (inner := [.string (⟨#[48]⟩ : ByteArray), .string (⟨#[57]⟩ : ByteArray), .string (⟨#[45]⟩ : ByteArray), .string (⟨#[46]⟩ : ByteArray), .string (⟨#[32]⟩ : ByteArray), .string (⟨#[120]⟩ : ByteArray), .string (⟨#[44]⟩ : ByteArray), .string (⟨#[58]⟩ : ByteArray), .string (⟨#[39]⟩ : ByteArray), .string (⟨#[33]⟩ : ByteArray), .string (⟨#[59]⟩ : ByteArray)]) (ok := fun _ => True) (okp := fun _ => True) ?hr ?hp (fun _ hk => hk) trivial (Below.refl _ _) (Nat.le_refl _) (by simp) ?_; (case hd => rfl); (case hg => rfl); (case hr => first | (go_simp; done) | (go_simp; rfl)); (case hp => exact (Reps.one (show Kd.M Kd.string _ _ _ (⟨#[48]⟩ : ByteArray) [.string (⟨#[48]⟩ : ByteArray)] from rfl) (Reps.one (show Kd.M Kd.string _ _ _ (⟨#[57]⟩ : ByteArray) [.string (⟨#[57]⟩ : ByteArray)] from rfl) (Reps.one (show Kd.M Kd.string _ _ _ (⟨#[45]⟩ : ByteArray) [.string (⟨#[45]⟩ : ByteArray)] from rfl) (Reps.one (show Kd.M Kd.string _ _ _ (⟨#[46]⟩ : ByteArray) [.string (⟨#[46]⟩ : ByteArray)] from rfl) (Reps.one (show Kd.M Kd.string _ _ _ (⟨#[32]⟩ : ByteArray) [.string (⟨#[32]⟩ : ByteArray)] from rfl) (Reps.one (show Kd.M Kd.string _ _ _ (⟨#[120]⟩ : ByteArray) [.string (⟨#[120]⟩ : ByteArray)] from rfl) (Reps.one (show Kd.M Kd.string _ _ _ (⟨#[44]⟩ : ByteArray) [.string (⟨#[44]⟩ : ByteArray)] from rfl) (Reps.one (show Kd.M Kd.string _ _ _ (⟨#[58]⟩ : ByteArray) [.string (⟨#[58]⟩ : ByteArray)] from rfl) (Reps.one (show Kd.M Kd.string _ _ _ (⟨#[39]⟩ : ByteArray) [.string (⟨#[39]⟩ : ByteArray)] from rfl) (Reps.one (show Kd.M Kd.string _ _ _ (⟨#[33]⟩ : ByteArray) [.string (⟨#[33]⟩ : ByteArray)] from rfl) (Reps.one (show Kd.M Kd.string _ _ _ (⟨#[59]⟩ : ByteArray) [.string (⟨#[59]⟩ : ByteArray)] from rfl) (Reps.none _ _)))))))))))))
                  intro v356 w18 ho19 hb hg_ hnew_
                  clear hg_ hnew_
                  (first | rw [← Ny355.out] at ho19 | (simp only [Int.reduceToNat] at ho19; rw [← Ny355.out] at ho19))
                  have n0_ := Aside0.mk (Kd.R_lower ho19 (keep_size (w := w) (g := g) (row := none) (by repeat (first | (with_reducible first | exact HK.out | apply KeepBut.set_ | apply keep_drewN | apply keep_drew | apply keep_alloc) | exact HK.out))))
                  have n1_ := Aside0.mk (IsS79.below (by repeat (first | (with_reducible first | exact HI0.out | apply IsS79.alloc | apply IsS79.drewN | apply IsS79.drew | apply IsS79.set_1) | exact HI0.out)) hb)
                  have n2_ := Aside0.mk (KeepBut.trans (by repeat (first | (with_reducible first | exact HK.out | apply KeepBut.set_ | apply keep_drewN | apply keep_drew | apply keep_alloc) | exact HK.out)) (KeepBut.of_below hb g none) (.inl rfl))
                  have n3_ := Aside0.mk (below_step (by repeat (first | (with_reducible first | exact HB.out | apply below_alloc | apply pw_below_drewN | apply below_drew1 | refine below_set ?_ (IsS79.ge HI0.out)) | exact HB.out)) hb)
                  clear HI0
                  clear HK
                  clear HB
                  have HO357 := n0_
                  have HI0 := n1_
                  have HK := n2_
                  have HB := n3_
                  clear n0_ n1_ n2_ n3_
                  clear hb ho19
                  obtain ⟨Ao20, co20, eo20⟩ := Kd.R_slice HO357.out
                  (first | subst eo20 | (injection eo20 with f1_ f2_ f3_; have f4_ := f1_.symm; have f5_ := f3_.symm; clear f1_ f2_ f3_; subst f4_; subst f5_))
                  refine hK.out _ _ trivial (fun hHeld => ?_)
                  clear hK K
                  refine norm_ (a' := ?_) ?_ ?_
                  rotate_left
                  · show Act.put _ (some 23) _ = _
                    simp only [Act.put, List.setIfInBounds_toArray, List.set_cons_zero, List.set_cons_succ, i64_w, i32_w]
                    rfl
                  refine one_ (i := 5) (N := some 24) #[true, true, true, true, true, true, false, true, true, true, true, false, false] rfl rfl (one_of HT_.out (by kernel_rfl)) (by decide) (fun K hK => ?_)
                  refine goes_ Tryd.func48 (by kernel_rfl) rfl #[.pointer (some ⟨g, 0, none⟩), .slice Ao20 y355.length co20] (by rfl) rfl rfl za ?_
                  with_reducible refine (spec_l1Rd_of.calls k g s0_0 t354 _ _ y355 t358 t359 w0 _ ?side1 ?side2 ?side3 ?side4 ?side5 A9.out).mono ?_
                  (case side1 => repeat (first | (with_reducible first | exact HI0.out | apply IsS79.alloc | apply IsS79.drewN | apply IsS79.drew | apply IsS79.set_1) | exact HI0.out))
                  (case side2 => repeat (first | (with_reducible first | exact HB.out | apply below_alloc | apply pw_below_drewN | apply below_drew1 | refine below_set ?_ (IsS79.ge HI0.out)) | exact HB.out))
                  (case side3 => repeat (first | exact (Kd.R_reads' HO357.out).2.2 | (with_reducible refine Kd.C_alloc ?_ _) | (with_reducible refine Kd.C_drewN ?_ _) | (with_reducible refine Kd.C_drew ?_)))
                  (case side4 => exact (Kd.R_reads' HO357.out).2.1)
                  (case side5 => exact far_slice (IsS79.own_ne HI0.out HO357.out (by decide)))
                  rintro e w21 ⟨rfl, hi, hb, hk⟩
                  refine ⟨_, rfl, ?_⟩
                  have n0_ := Aside0.mk (Kd.R_mono (Kd.R_keep (IsS79.apart (show IsS79 w0 _ g s0_0 t354 from by repeat (first | (with_reducible first | exact HI0.out | apply IsS79.alloc | apply IsS79.drewN | apply IsS79.drew | apply IsS79.set_1) | exact HI0.out)) (zR HO357.out) (by decide)) hk (fun _ h => h.2)) (fun _ h => h.1))
                  have n1_ := Aside0.mk (KeepBut.trans (by repeat (first | (with_reducible first | exact HK.out | apply KeepBut.set_ | apply keep_drewN | apply keep_drew | apply keep_alloc) | exact HK.out)) hk (.inl rfl))
                  have n2_ := Aside0.mk (hb)
                  have n3_ := Aside0.mk (hi)
                  clear HO357
                  clear HK
                  clear HB
                  clear HI0
                  have HO357 := n0_
                  have HK := n1_
                  have HB := n2_
                  have HI0 := n3_
                  clear n0_ n1_ n2_ n3_
                  (try clear hb)
                  (try clear hb2)
                  (try clear hk)
                  (try clear hi)
                  refine hK.out _ _ trivial (fun hHeld => ?_)
                  clear hK K
                  refine norm_ (a' := ?_) ?_ ?_
                  rotate_left
                  · show Act.put _ (some 24) _ = _
                    simp only [Act.put, List.setIfInBounds_toArray, List.set_cons_zero, List.set_cons_succ, i64_w, i32_w]
                    rfl
                  refine pure_ (i := 6) (N := some 25) (v := ?_) (a' := ?_) #[true, true, true, true, true, true, true, true, true, true, true, false, false] rfl rfl (any_of HT_.out (by kernel_rfl)) (fun _ _ _ h => h) (Or.inl ⟨by rfl, ?_⟩) ?_ ?_
                  rotate_left
                  · intro w'
                    go_simp
                    with_reducible rfl
                  rotate_left
                  · simp only [Act.put, List.setIfInBounds_toArray, List.set_cons_zero, List.set_cons_succ, i64_w, i32_w]
                    rfl
                  refine pure_ (i := 11) (N := some 30) (v := ?_) (a' := ?_) #[true, true, true, true, true, true, true, true, true, true, true, true, false] rfl rfl (any_of HT_.out (by kernel_rfl)) (fun _ _ _ h => h) (Or.inl ⟨by rfl, ?_⟩) ?_ ?_
                  rotate_left
                  · intro w'
                    go_simp
                    with_reducible rfl
                  rotate_left
                  · simp only [Act.put, List.setIfInBounds_toArray, List.set_cons_zero, List.set_cons_succ, i64_w, i32_w]
                    rfl
                  refine pure_ (i := 12) (N := some 4) (v := ?_) (a' := ?_) #[true, true, true, true, true, true, true, true, true, true, true, true, true] rfl rfl (any_of HT_.out (by kernel_rfl)) (fun _ _ _ h => h) (Or.inl ⟨by rfl, ?_⟩) ?_ ?_
                  rotate_left
                  · intro w'
                    go_simp
                    with_reducible rfl
                  rotate_left
                  · simp only [Act.put, List.setIfInBounds_toArray, List.set_cons_zero, List.set_cons_succ, i64_w, i32_w]
                    rfl
                  refine done_ (done_of HT_.out (by kernel_rfl)) ?_
                  try go_wp2
                  go_ret
                  exact ⟨by first | rfl | (simp [errW_none, errW_some] <;> rfl) | (simp only [← hji11]; first | rfl | (simp [errW_none, errW_some] <;> rfl)) | (simp [*, errW_none, errW_some] <;> rfl), by repeat (first | (with_reducible first | exact HI0.out | apply IsS79.alloc | apply IsS79.drewN | apply IsS79.drew | apply IsS79.set_1) | exact HI0.out), by repeat (first | (with_reducible first | exact HB.out | apply below_alloc | apply pw_below_drewN | apply below_drew1 | refine below_set ?_ (IsS79.ge HI0.out)) | exact HB.out), by repeat (first | (with_reducible first | exact HK.out | apply KeepBut.set_ | apply keep_drewN | apply keep_drew | apply keep_alloc) | exact HK.out)⟩
                · rw [if_neg c14] at H
                  exact absurd H (by simp)
              · rw [if_neg c13] at H
                exact absurd H (by simp)
            · rw [if_neg c12] at H
              exact absurd H (by simp)
          · rw [if_neg c10] at H
            exact absurd H (by simp)
        · rw [if_neg c8] at H
          exact absurd H (by simp)
      · rw [if_neg c7] at H
        exact absurd H (by simp)
    · rw [if_neg c6] at H
      have c6b0 : decide (t351 < (a1.size : Int)) = false := decide_eq_false c6
      clear c6
      simp only [Option.some.injEq, Prod.mk.injEq] at H
      obtain ⟨rfl, rfl⟩ := H
      go_enter Tryd.func49, Tryd.ntmps49
      go_wp2_with (first | ((with_reducible refine gate_callee (f := 47) rfl ?_); refine goesL_ (some 10) rfl rfl Tryd.func47 (by kernel_rfl) rfl #[.pointer (some ⟨g, 0, none⟩), .int .i64 (wrap64 ((a1.size : Int) + 1))] rfl za ?_; (with_reducible refine (spec_l1Rd_pick.calls k g s0_0 s0_1 (wrap64 ((a1.size : Int) + 1)) t351 t352 w0 _ ?side1 ?side2 A3.out).mono ?_); (case side1 => repeat (first | (with_reducible first | exact HI0.out | apply IsS79.alloc | apply IsS79.drewN | apply IsS79.drew | apply IsS79.set_1) | exact HI0.out)); (case side2 => repeat (first | (with_reducible first | exact HB.out | apply below_alloc | apply pw_below_drewN | apply below_drew1 | refine below_set ?_ (IsS79.ge HI0.out)) | exact HB.out)); rintro e w22 ⟨rfl, hi, hb, hk⟩; refine ⟨_, rfl, ?_⟩; have n0_ := Aside0.mk (KeepBut.trans (by repeat (first | (with_reducible first | exact HK.out | apply KeepBut.set_ | apply keep_drewN | apply keep_drew | apply keep_alloc) | exact HK.out)) hk (.inl rfl)); have n1_ := Aside0.mk (hb); have n2_ := Aside0.mk (hi); clear HK; clear HB; clear HI0; have HK := n0_; have HB := n1_; have HI0 := n2_; clear n0_ n1_ n2_; (try clear hb); (try clear hb2); (try clear hk); (try clear hi)) | ((with_reducible refine gate_callee (f := 47) rfl ?_); refine goesL_ (some 12) rfl rfl Tryd.func47 (by kernel_rfl) rfl #[.pointer (some ⟨g, 0, none⟩), .int .i64 6] rfl za ?_; (with_reducible refine (spec_l1Rd_pick.calls k g s0_0 t352 6 t353 t354 w0 _ ?side1 ?side2 A4.out).mono ?_); (case side1 => repeat (first | (with_reducible first | exact HI0.out | apply IsS79.alloc | apply IsS79.drewN | apply IsS79.drew | apply IsS79.set_1) | exact HI0.out)); (case side2 => repeat (first | (with_reducible first | exact HB.out | apply below_alloc | apply pw_below_drewN | apply below_drew1 | refine below_set ?_ (IsS79.ge HI0.out)) | exact HB.out)); rintro e w23 ⟨rfl, hi, hb, hk⟩; refine ⟨_, rfl, ?_⟩; have n0_ := Aside0.mk (KeepBut.trans (by repeat (first | (with_reducible first | exact HK.out | apply KeepBut.set_ | apply keep_drewN | apply keep_drew | apply keep_alloc) | exact HK.out)) hk (.inl rfl)); have n1_ := Aside0.mk (hb); have n2_ := Aside0.mk (hi); clear HK; clear HB; clear HI0; have HK := n0_; have HB := n1_; have HI0 := n2_; clear n0_ n1_ n2_; (try clear hb); (try clear hb2); (try clear hk); (try clear hi)))
      go_ret
      exact ⟨by first | rfl | (simp [errW_none, errW_some] <;> rfl) | (simp [*, errW_none, errW_some] <;> rfl), by repeat (first | (with_reducible first | exact HI0.out | apply IsS79.alloc | apply IsS79.drewN | apply IsS79.drew | apply IsS79.set_1) | exact HI0.out), by repeat (first | (with_reducible first | exact HB.out | apply below_alloc | apply pw_below_drewN | apply below_drew1 | refine below_set ?_ (IsS79.ge HI0.out)) | exact HB.out), by repeat (first | (with_reducible first | exact HK.out | apply KeepBut.set_ | apply keep_drewN | apply keep_drew | apply keep_alloc) | exact HK.out)⟩
  · rw [if_neg c5] at H
    have c5b0 : (t353 == 0) = false := beq_eq_false_iff_ne.mpr c5
    have c5b1 : (t353 != 0) = true := bne_iff_ne.mpr c5
    by_cases c24 : t353 = 1
    · rw [if_pos c24] at H
      have c24b0 : (t353 == 1) = true := beq_iff_eq.mpr c24
      have c24b1 : (t353 != 1) = false := bne_eq_false_iff_eq.mpr c24
      clear c24
      by_cases c25 : 0 ≤ t351
      · rw [if_pos c25] at H
        have c25b0 := eq_true c25
        have c25b1 : decide (0 ≤ t351) = true := decide_eq_true c25
        clear c25
        by_cases c26 : t351 ≤ (a1.size : Int)
        · rw [if_pos c26] at H
          have c26b0 := eq_true c26
          have c26b1 : decide (t351 ≤ (a1.size : Int)) = true := decide_eq_true c26
          clear c26
          simp only [Option.some.injEq, Prod.mk.injEq] at H
          obtain ⟨rfl, rfl⟩ := H
          go_enter Tryd.func49, Tryd.ntmps49
          go_wp2_with (first | ((with_reducible refine gate_callee (f := 47) rfl ?_); refine goesL_ (some 10) rfl rfl Tryd.func47 (by kernel_rfl) rfl #[.pointer (some ⟨g, 0, none⟩), .int .i64 (wrap64 ((a1.size : Int) + 1))] rfl za ?_; (with_reducible refine (spec_l1Rd_pick.calls k g s0_0 s0_1 (wrap64 ((a1.size : Int) + 1)) t351 t352 w0 _ ?side1 ?side2 A3.out).mono ?_); (case side1 => repeat (first | (with_reducible first | exact HI0.out | apply IsS79.alloc | apply IsS79.drewN | apply IsS79.drew | apply IsS79.set_1) | exact HI0.out)); (case side2 => repeat (first | (with_reducible first | exact HB.out | apply below_alloc | apply pw_below_drewN | apply below_drew1 | refine below_set ?_ (IsS79.ge HI0.out)) | exact HB.out)); rintro e w27 ⟨rfl, hi, hb, hk⟩; refine ⟨_, rfl, ?_⟩; have n0_ := Aside0.mk (KeepBut.trans (by repeat (first | (with_reducible first | exact HK.out | apply KeepBut.set_ | apply keep_drewN | apply keep_drew | apply keep_alloc) | exact HK.out)) hk (.inl rfl)); have n1_ := Aside0.mk (hb); have n2_ := Aside0.mk (hi); clear HK; clear HB; clear HI0; have HK := n0_; have HB := n1_; have HI0 := n2_; clear n0_ n1_ n2_; (try clear hb); (try clear hb2); (try clear hk); (try clear hi)) | ((with_reducible refine gate_callee (f := 47) rfl ?_); refine goesL_ (some 12) rfl rfl Tryd.func47 (by kernel_rfl) rfl #[.pointer (some ⟨g, 0, none⟩), .int .i64 6] rfl za ?_; (with_reducible refine (spec_l1Rd_pick.calls k g s0_0 t352 6 t353 t354 w0 _ ?side1 ?side2 A4.out).mono ?_); (case side1 => repeat (first | (with_reducible first | exact HI0.out | apply IsS79.alloc | apply IsS79.drewN | apply IsS79.drew | apply IsS79.set_1) | exact HI0.out)); (case side2 => repeat (first | (with_reducible first | exact HB.out | apply below_alloc | apply pw_below_drewN | apply below_drew1 | refine below_set ?_ (IsS79.ge HI0.out)) | exact HB.out)); rintro e w28 ⟨rfl, hi, hb, hk⟩; refine ⟨_, rfl, ?_⟩; have n0_ := Aside0.mk (KeepBut.trans (by repeat (first | (with_reducible first | exact HK.out | apply KeepBut.set_ | apply keep_drewN | apply keep_drew | apply keep_alloc) | exact HK.out)) hk (.inl rfl)); have n1_ := Aside0.mk (hb); have n2_ := Aside0.mk (hi); clear HK; clear HB; clear HI0; have HK := n0_; have HB := n1_; have HI0 := n2_; clear n0_ n1_ n2_; (try clear hb); (try clear hb2); (try clear hk); (try clear hi)))
          go_ret
          exact ⟨by first | rfl | (simp [errW_none, errW_some] <;> rfl) | (simp [*, errW_none, errW_some] <;> rfl), by repeat (first | (with_reducible first | exact HI0.out | apply IsS79.alloc | apply IsS79.drewN | apply IsS79.drew | apply IsS79.set_1) | exact HI0.out), by repeat (first | (with_reducible first | exact HB.out | apply below_alloc | apply pw_below_drewN | apply below_drew1 | refine below_set ?_ (IsS79.ge HI0.out)) | exact HB.out), by repeat (first | (with_reducible first | exact HK.out | apply KeepBut.set_ | apply keep_drewN | apply keep_drew | apply keep_alloc) | exact HK.out)⟩
        · rw [if_neg c26] at H
          exact absurd H (by simp)
      · rw [if_neg c25] at H
        exact absurd H (by simp)
    · rw [if_neg c24] at H
      have c24b0 : (t353 == 1) = false := beq_eq_false_iff_ne.mpr c24
      have c24b1 : (t353 != 1) = true := bne_iff_ne.mpr c24
      by_cases c29 : t353 = 2
      · rw [if_pos c29] at H
        have c29b0 : (t353 == 2) = true := beq_iff_eq.mpr c29
        have c29b1 : (t353 != 2) = false := bne_eq_false_iff_eq.mpr c29
        clear c29
        obtain ⟨y360, hy360⟩ : ∃ y_ : List ByteArray, y_ = (([(⟨#[120]⟩ : ByteArray), (⟨#[48]⟩ : ByteArray), (⟨#[32]⟩ : ByteArray), (⟨#[39]⟩ : ByteArray), (⟨#[59]⟩ : ByteArray), (⟨#[10]⟩ : ByteArray)] : List ByteArray)) := ⟨_, rfl⟩
        replace H : ((spec_l1Rd_of.f k s0_0 t354 y360).bind fun bt363 => (if a1.size + bt363.1.size ≤ 9223372036854775807 then (some (a1 ++ bt363.1, bt363.2)) else (none))) = some (r1, r2) := by first | (rw [hy360]; with_reducible exact H) | (have H2_ := (Option.bind_some _ _).symm.trans H; rw [hy360]; with_reducible exact H2_) | (have H2_ := (Option.bind_some _ _).symm.trans H; with_reducible exact H2_) | with_reducible exact H | (rw [hy360]; exact H) | exact H
        have Ny360 := Aside0.mk hy360
        clear hy360
        replace H := Option.bind_eq_some_iff.mp H
        obtain ⟨⟨t363, t364⟩, A300, H⟩ := H
        replace H : (if a1.size + t363.size ≤ 9223372036854775807 then (some (a1 ++ t363, t364)) else (none)) = some (r1, r2) := H
        have A30 := Aside0.mk A300
        clear A300
        by_cases c31 : a1.size + t363.size ≤ 9223372036854775807
        · rw [if_pos c31] at H
          have c31b0 := eq_true c31
          have c31b1 : decide (a1.size + t363.size ≤ 9223372036854775807) = true := decide_eq_true c31
          try have c31b2 : (9223372036854775807 < a1.size + t363.size) = False := eq_false (Nat.not_lt.2 c31)
          simp only [Option.some.injEq, Prod.mk.injEq] at H
          obtain ⟨rfl, rfl⟩ := H
          go_enter Tryd.func49, Tryd.ntmps49
          go_wp2_with (first | ((with_reducible refine gate_callee (f := 47) rfl ?_); refine goesL_ (some 10) rfl rfl Tryd.func47 (by kernel_rfl) rfl #[.pointer (some ⟨g, 0, none⟩), .int .i64 (wrap64 ((a1.size : Int) + 1))] rfl za ?_; (with_reducible refine (spec_l1Rd_pick.calls k g s0_0 s0_1 (wrap64 ((a1.size : Int) + 1)) t351 t352 w0 _ ?side1 ?side2 A3.out).mono ?_); (case side1 => repeat (first | (with_reducible first | exact HI0.out | apply IsS79.alloc | apply IsS79.drewN | apply IsS79.drew | apply IsS79.set_1) | exact HI0.out)); (case side2 => repeat (first | (with_reducible first | exact HB.out | apply below_alloc | apply pw_below_drewN | apply below_drew1 | refine below_set ?_ (IsS79.ge HI0.out)) | exact HB.out)); rintro e w32 ⟨rfl, hi, hb, hk⟩; refine ⟨_, rfl, ?_⟩; have n0_ := Aside0.mk (KeepBut.trans (by repeat (first | (with_reducible first | exact HK.out | apply KeepBut.set_ | apply keep_drewN | apply keep_drew | apply keep_alloc) | exact HK.out)) hk (.inl rfl)); have n1_ := Aside0.mk (hb); have n2_ := Aside0.mk (hi); clear HK; clear HB; clear HI0; have HK := n0_; have HB := n1_; have HI0 := n2_; clear n0_ n1_ n2_; (try clear hb); (try clear hb2); (try clear hk); (try clear hi)) | ((with_reducible refine gate_callee (f := 47) rfl ?_); refine goesL_ (some 12) rfl rfl Tryd.func47 (by kernel_rfl) rfl #[.pointer (some ⟨g, 0, none⟩), .int .i64 6] rfl za ?_; (with_reducible refine (spec_l1Rd_pick.calls k g s0_0 t352 6 t353 t354 w0 _ ?side1 ?side2 A4.out).mono ?_); (case side1 => repeat (first | (with_reducible first | exact HI0.out | apply IsS79.alloc | apply IsS79.drewN | apply IsS79.drew | apply IsS79.set_1) | exact HI0.out)); (case side2 => repeat (first | (with_reducible first | exact HB.out | apply below_alloc | apply pw_below_drewN | apply below_drew1 | refine below_set ?_ (IsS79.ge HI0.out)) | exact HB.out)); rintro e w33 ⟨rfl, hi, hb, hk⟩; refine ⟨_, rfl, ?_⟩; have n0_ := Aside0.mk (KeepBut.trans (by repeat (first | (with_reducible first | exact HK.out | apply KeepBut.set_ | apply keep_drewN | apply keep_drew | apply keep_alloc) | exact HK.out)) hk (.inl rfl)); have n1_ := Aside0.mk (hb); have n2_ := Aside0.mk (hi); clear HK; clear HB; clear HI0; have HK := n0_; have HB := n1_; have HI0 := n2_; clear n0_ n1_ n2_; (try clear hb); (try clear hb2); (try clear hk); (try clear hi)) | ((with_reducible refine gate_dst (N := 40) rfl ?_); refine Kd.R_lit Kd.string _ 9 ?hg (N := 40) ?hd (xs := ([(⟨#[120]⟩ : ByteArray), (⟨#[48]⟩ : ByteArray), (⟨#[32]⟩ : ByteArray), (⟨#[39]⟩ : ByteArray), (⟨#[59]⟩ : ByteArray), (⟨#[10]⟩ : ByteArray)] : List ByteArray)) (inner := [.string (⟨#[120]⟩ : ByteArray), .string (⟨#[48]⟩ : ByteArray), .string (⟨#[32]⟩ : ByteArray), .string (⟨#[39]⟩ : ByteArray), .string (⟨#[59]⟩ : ByteArray), .string (⟨#[10]⟩ : ByteArray)]) (ok := fun _ => True) (okp := fun _ => True) ?hr ?hp (fun _ hk => hk) trivial (Below.refl _ _) (Nat.le_refl _) (by simp) ?_; (case hd => rfl); (case hg => rfl); (case hr => first | (go_simp; done) | (go_simp; rfl)); (case hp => exact (Reps.one (show Kd.M Kd.string _ _ _ (⟨#[120]⟩ : ByteArray) [.string (⟨#[120]⟩ : ByteArray)] from rfl) (Reps.one (show Kd.M Kd.string _ _ _ (⟨#[48]⟩ : ByteArray) [.string (⟨#[48]⟩ : ByteArray)] from rfl) (Reps.one (show Kd.M Kd.string _ _ _ (⟨#[32]⟩ : ByteArray) [.string (⟨#[32]⟩ : ByteArray)] from rfl) (Reps.one (show Kd.M Kd.string _ _ _ (⟨#[39]⟩ : ByteArray) [.string (⟨#[39]⟩ : ByteArray)] from rfl) (Reps.one (show Kd.M Kd.string _ _ _ (⟨#[59]⟩ : ByteArray) [.string (⟨#[59]⟩ : ByteArray)] from rfl) (Reps.one (show Kd.M Kd.string _ _ _ (⟨#[10]⟩ : ByteArray) [.string (⟨#[10]⟩ : ByteArray)] from rfl) (Reps.none _ _)))))))); intro v361 w34 ho35 hb hg_ hnew_; clear hg_ hnew_; (first | rw [← Ny360.out] at ho35 | (simp only [Int.reduceToNat] at ho35; rw [← Ny360.out] at ho35)); have n0_ := Aside0.mk (Kd.R_lower ho35 (keep_size (w := w) (g := g) (row := none) (by repeat (first | (with_reducible first | exact HK.out | apply KeepBut.set_ | apply keep_drewN | apply keep_drew | apply keep_alloc) | exact HK.out)))); have n1_ := Aside0.mk (IsS79.below (by repeat (first | (with_reducible first | exact HI0.out | apply IsS79.alloc | apply IsS79.drewN | apply IsS79.drew | apply IsS79.set_1) | exact HI0.out)) hb); have n2_ := Aside0.mk (KeepBut.trans (by repeat (first | (with_reducible first | exact HK.out | apply KeepBut.set_ | apply keep_drewN | apply keep_drew | apply keep_alloc) | exact HK.out)) (KeepBut.of_below hb g none) (.inl rfl)); have n3_ := Aside0.mk (below_step (by repeat (first | (with_reducible first | exact HB.out | apply below_alloc | apply pw_below_drewN | apply below_drew1 | refine below_set ?_ (IsS79.ge HI0.out)) | exact HB.out)) hb); clear HI0; clear HK; clear HB; have HO362 := n0_; have HI0 := n1_; have HK := n2_; have HB := n3_; clear n0_ n1_ n2_ n3_; clear hb ho35; obtain ⟨Ao36, co36, eo36⟩ := Kd.R_slice HO362.out; subst eo36) | ((with_reducible refine gate_callee (f := 48) rfl ?_); refine goesL_ (some 41) rfl rfl Tryd.func48 (by kernel_rfl) rfl #[.pointer (some ⟨g, 0, none⟩), .slice Ao36 y360.length co36] rfl za ?_; (with_reducible refine (spec_l1Rd_of.calls k g s0_0 t354 _ _ y360 t363 t364 w0 _ ?side1 ?side2 ?side3 ?side4 ?side5 A30.out).mono ?_); (case side1 => repeat (first | (with_reducible first | exact HI0.out | apply IsS79.alloc | apply IsS79.drewN | apply IsS79.drew | apply IsS79.set_1) | exact HI0.out)); (case side2 => repeat (first | (with_reducible first | exact HB.out | apply below_alloc | apply pw_below_drewN | apply below_drew1 | refine below_set ?_ (IsS79.ge HI0.out)) | exact HB.out)); (case side3 => repeat (first | exact (Kd.R_reads' HO362.out).2.2 | (with_reducible refine Kd.C_alloc ?_ _) | (with_reducible refine Kd.C_drewN ?_ _) | (with_reducible refine Kd.C_drew ?_))); (case side4 => exact (Kd.R_reads' HO362.out).2.1); (case side5 => exact far_slice (IsS79.own_ne HI0.out HO362.out (by decide))); rintro e w37 ⟨rfl, hi, hb, hk⟩; refine ⟨_, rfl, ?_⟩; have n0_ := Aside0.mk (Kd.R_mono (Kd.R_keep (IsS79.apart (show IsS79 w0 _ g s0_0 t354 from by repeat (first | (with_reducible first | exact HI0.out | apply IsS79.alloc | apply IsS79.drewN | apply IsS79.drew | apply IsS79.set_1) | exact HI0.out)) (zR HO362.out) (by decide)) hk (fun _ h => h.2)) (fun _ h => h.1)); have n1_ := Aside0.mk (KeepBut.trans (by repeat (first | (with_reducible first | exact HK.out | apply KeepBut.set_ | apply keep_drewN | apply keep_drew | apply keep_alloc) | exact HK.out)) hk (.inl rfl)); have n2_ := Aside0.mk (hb); have n3_ := Aside0.mk (hi); clear HO362; clear HK; clear HB; clear HI0; have HO362 := n0_; have HK := n1_; have HB := n2_; have HI0 := n3_; clear n0_ n1_ n2_ n3_; (try clear hb); (try clear hb2); (try clear hk); (try clear hi)))
          go_ret
          exact ⟨by first | rfl | (simp [errW_none, errW_some] <;> rfl) | (simp [*, errW_none, errW_some] <;> rfl), by repeat (first | (with_reducible first | exact HI0.out | apply IsS79.alloc | apply IsS79.drewN | apply IsS79.drew | apply IsS79.set_1) | exact HI0.out), by repeat (first | (with_reducible first | exact HB.out | apply below_alloc | apply pw_below_drewN | apply below_drew1 | refine below_set ?_ (IsS79.ge HI0.out)) | exact HB.out), by repeat (first | (with_reducible first | exact HK.out | apply KeepBut.set_ | apply keep_drewN | apply keep_drew | apply keep_alloc) | exact HK.out)⟩
        · rw [if_neg c31] at H
          exact absurd H (by simp)
      · rw [if_neg c29] at H
        have c29b0 : (t353 == 2) = false := beq_eq_false_iff_ne.mpr c29
        have c29b1 : (t353 != 2) = true := bne_iff_ne.mpr c29
        by_cases c38 : t353 = 3
        · rw [if_pos c38] at H
          have c38b0 : (t353 == 3) = true := beq_iff_eq.mpr c38
          have c38b1 : (t353 != 3) = false := bne_eq_false_iff_eq.mpr c38
          clear c38
          by_cases c39 : 0 ≤ t351
          · rw [if_pos c39] at H
            have c39b0 := eq_true c39
            have c39b1 : decide (0 ≤ t351) = true := decide_eq_true c39
            clear c39
            by_cases c40 : t351 ≤ (a1.size : Int)
            · rw [if_pos c40] at H
              have c40b0 := eq_true c40
              have c40b1 : decide (t351 ≤ (a1.size : Int)) = true := decide_eq_true c40
              clear c40
              obtain ⟨y365, hy365⟩ : ∃ y_ : List ByteArray, y_ = (([(⟨#[48]⟩ : ByteArray), (⟨#[45]⟩ : ByteArray), (⟨#[46]⟩ : ByteArray), (⟨#[32]⟩ : ByteArray), (⟨#[40]⟩ : ByteArray), (⟨#[49]⟩ : ByteArray)] : List ByteArray)) := ⟨_, rfl⟩
              replace H : ((spec_l1Rd_of.f k s0_0 t354 y365).bind fun bt368 => (if (a1.extract 0 (t351 : Int).toNat).size + bt368.1.size ≤ 9223372036854775807 then (if ((a1.extract 0 (t351 : Int).toNat) ++ bt368.1).size + (a1.extract (t351 : Int).toNat a1.size).size ≤ 9223372036854775807 then (some (((a1.extract 0 (t351 : Int).toNat) ++ bt368.1) ++ (a1.extract (t351 : Int).toNat a1.size), bt368.2)) else (none)) else (none))) = some (r1, r2) := by first | (rw [hy365]; with_reducible exact H) | (have H2_ := (Option.bind_some _ _).symm.trans H; rw [hy365]; with_reducible exact H2_) | (have H2_ := (Option.bind_some _ _).symm.trans H; with_reducible exact H2_) | with_reducible exact H | (rw [hy365]; exact H) | exact H
              have Ny365 := Aside0.mk hy365
              clear hy365
              replace H := Option.bind_eq_some_iff.mp H
              obtain ⟨⟨t368, t369⟩, A410, H⟩ := H
              replace H : (if (a1.extract 0 (t351 : Int).toNat).size + t368.size ≤ 9223372036854775807 then (if ((a1.extract 0 (t351 : Int).toNat) ++ t368).size + (a1.extract (t351 : Int).toNat a1.size).size ≤ 9223372036854775807 then (some (((a1.extract 0 (t351 : Int).toNat) ++ t368) ++ (a1.extract (t351 : Int).toNat a1.size), t369)) else (none)) else (none)) = some (r1, r2) := H
              have A41 := Aside0.mk A410
              clear A410
              by_cases c42 : (a1.extract 0 (t351 : Int).toNat).size + t368.size ≤ 9223372036854775807
              · rw [if_pos c42] at H
                have c42b0 := eq_true c42
                have c42b1 : decide ((a1.extract 0 (t351 : Int).toNat).size + t368.size ≤ 9223372036854775807) = true := decide_eq_true c42
                try have c42b2 : (9223372036854775807 < (a1.extract 0 (t351 : Int).toNat).size + t368.size) = False := eq_false (Nat.not_lt.2 c42)
                try have c42bs : (9223372036854775807 < t351.toNat + t368.size) = False := eq_false (by have q0_ : ((t351 : Int) : Int) ≤ (a1.size : Int) := (by first | exact of_eq_true (by assumption) | exact Int.le_of_lt (of_eq_true (by assumption)) | exact of_decide_eq_true (by assumption) | exact Int.le_of_lt (of_decide_eq_true (by assumption))); have h_ := c42; simp only [ByteArray.size_append, ByteArray.size_extract] at h_; omega)
                have c43b0 := eq_true (of_decide_eq_true (by first | (with_reducible assumption) | assumption) : 0 ≤ t351)
                have c44b0 := eq_true (of_decide_eq_true (by first | (with_reducible assumption) | assumption) : t351 ≤ (a1.size : Int))
                by_cases c45 : ((a1.extract 0 (t351 : Int).toNat) ++ t368).size + (a1.extract (t351 : Int).toNat a1.size).size ≤ 9223372036854775807
                · rw [if_pos c45] at H
                  have c45b0 := eq_true c45
                  have c45b1 : decide (((a1.extract 0 (t351 : Int).toNat) ++ t368).size + (a1.extract (t351 : Int).toNat a1.size).size ≤ 9223372036854775807) = true := decide_eq_true c45
                  try have c45b2 : (9223372036854775807 < ((a1.extract 0 (t351 : Int).toNat) ++ t368).size + (a1.extract (t351 : Int).toNat a1.size).size) = False := eq_false (Nat.not_lt.2 c45)
                  try have c45bs : (9223372036854775807 < t351.toNat + t368.size + (a1.size - t351.toNat)) = False := eq_false (by have q0_ : ((t351 : Int) : Int) ≤ (a1.size : Int) := (by first | exact of_eq_true (by assumption) | exact Int.le_of_lt (of_eq_true (by assumption)) | exact of_decide_eq_true (by assumption) | exact Int.le_of_lt (of_decide_eq_true (by assumption))); have h_ := c45; simp only [ByteArray.size_append, ByteArray.size_extract] at h_; omega)
                  simp only [Option.some.injEq, Prod.mk.injEq] at H
                  obtain ⟨rfl, rfl⟩ := H
                  go_enter Tryd.func49, Tryd.ntmps49
                  try go_wp2_with (first | ((with_reducible refine gate_callee (f := 47) rfl ?_); refine goesL_ (some 10) rfl rfl Tryd.func47 (by kernel_rfl) rfl #[.pointer (some ⟨g, 0, none⟩), .int .i64 (wrap64 ((a1.size : Int) + 1))] rfl za ?_; (with_reducible refine (spec_l1Rd_pick.calls k g s0_0 s0_1 (wrap64 ((a1.size : Int) + 1)) t351 t352 w0 _ ?side1 ?side2 A3.out).mono ?_); (case side1 => repeat (first | (with_reducible first | exact HI0.out | apply IsS79.alloc | apply IsS79.drewN | apply IsS79.drew | apply IsS79.set_1) | exact HI0.out)); (case side2 => repeat (first | (with_reducible first | exact HB.out | apply below_alloc | apply pw_below_drewN | apply below_drew1 | refine below_set ?_ (IsS79.ge HI0.out)) | exact HB.out)); rintro e w46 ⟨rfl, hi, hb, hk⟩; refine ⟨_, rfl, ?_⟩; have n0_ := Aside0.mk (KeepBut.trans (by repeat (first | (with_reducible first | exact HK.out | apply KeepBut.set_ | apply keep_drewN | apply keep_drew | apply keep_alloc) | exact HK.out)) hk (.inl rfl)); have n1_ := Aside0.mk (hb); have n2_ := Aside0.mk (hi); clear HK; clear HB; clear HI0; have HK := n0_; have HB := n1_; have HI0 := n2_; clear n0_ n1_ n2_; (try clear hb); (try clear hb2); (try clear hk); (try clear hi)) | ((with_reducible refine gate_callee (f := 47) rfl ?_); refine goesL_ (some 12) rfl rfl Tryd.func47 (by kernel_rfl) rfl #[.pointer (some ⟨g, 0, none⟩), .int .i64 6] rfl za ?_; (with_reducible refine (spec_l1Rd_pick.calls k g s0_0 t352 6 t353 t354 w0 _ ?side1 ?side2 A4.out).mono ?_); (case side1 => repeat (first | (with_reducible first | exact HI0.out | apply IsS79.alloc | apply IsS79.drewN | apply IsS79.drew | apply IsS79.set_1) | exact HI0.out)); (case side2 => repeat (first | (with_reducible first | exact HB.out | apply below_alloc | apply pw_below_drewN | apply below_drew1 | refine below_set ?_ (IsS79.ge HI0.out)) | exact HB.out)); rintro e w47 ⟨rfl, hi, hb, hk⟩; refine ⟨_, rfl, ?_⟩; have n0_ := Aside0.mk (KeepBut.trans (by repeat (first | (with_reducible first | exact HK.out | apply KeepBut.set_ | apply keep_drewN | apply keep_drew | apply keep_alloc) | exact HK.out)) hk (.inl rfl)); have n1_ := Aside0.mk (hb); have n2_ := Aside0.mk (hi); clear HK; clear HB; clear HI0; have HK := n0_; have HB := n1_; have HI0 := n2_; clear n0_ n1_ n2_; (try clear hb); (try clear hb2); (try clear hk); (try clear hi)))
                  have n0_ := Aside0.mk (IsS79.drew HI0.out)
                  have n1_ := Aside0.mk (keep_drew HK.out)
                  have n2_ := Aside0.mk (below_drew1 HB.out)
                  clear HI0
                  clear HK
                  clear HB
                  have HI0 := n0_
                  have HK := n1_
                  have HB := n2_
                  clear n0_ n1_ n2_
                  refine start_ (n := 12) (S := fun w' => True) (ds := []) #[false, false, false, false, false, false, false, false, false, false, false, false] (by kernel_rfl) rfl rfl trivial (fun hHeld => ?_); refine with_tabW spec_l14Bent.tab11 spec_l14Bent.bits11 (fun HT_ HW_ => ?_)
                  generalize w47.drew = w48 at HI0 HK HB hHeld ⊢
                  refine pure_ (i := 0) (N := some 45) (v := ?_) (a' := ?_) #[true, false, false, false, false, false, false, false, false, false, false, false] rfl rfl (any_of HT_.out (by kernel_rfl)) (fun _ _ _ h => h) (Or.inl ⟨by rfl, ?_⟩) ?_ ?_
                  rotate_left
                  · intro w'
                    go_simp
                    with_reducible rfl
                  rotate_left
                  · simp only [Act.put, List.setIfInBounds_toArray, List.set_cons_zero, List.set_cons_succ, i64_w, i32_w]
                    rfl
                  refine pure_ (i := 1) (N := some 46) (v := ?_) (a' := ?_) #[true, true, false, false, false, false, false, false, false, false, false, false] rfl rfl (any_of HT_.out (by kernel_rfl)) (fun _ _ _ h => h) (Or.inl ⟨by rfl, ?_⟩) ?_ ?_
                  rotate_left
                  · intro w'
                    go_simp
                    with_reducible rfl
                  rotate_left
                  · simp only [Act.put, List.setIfInBounds_toArray, List.set_cons_zero, List.set_cons_succ, i64_w, i32_w]
                    rfl
                  refine pure_ (i := 2) (N := some 47) (v := ?_) (a' := ?_) #[true, true, true, false, false, false, false, false, false, false, false, false] rfl rfl (any_of HT_.out (by kernel_rfl)) (fun _ _ _ h => h) (Or.inl ⟨by rfl, ?_⟩) ?_ ?_
                  rotate_left
                  · intro w'
                    go_simp
                    with_reducible rfl
                  rotate_left
                  · simp only [Act.put, List.setIfInBounds_toArray, List.set_cons_zero, List.set_cons_succ, i64_w, i32_w]
                    rfl
                  refine pure_ (i := 3) (N := some 48) (v := ?_) (a' := ?_) #[true, true, true, true, false, false, false, false, false, false, false, false] rfl rfl (any_of HT_.out (by kernel_rfl)) (fun _ _ _ h => h) (Or.inl ⟨by rfl, ?_⟩) ?_ ?_
                  rotate_left
                  · intro w'
                    go_simp
                    with_reducible rfl
                  rotate_left
                  · simp only [Act.put, List.setIfInBounds_toArray, List.set_cons_zero, List.set_cons_succ, i64_w, i32_w]
                    rfl
                  refine pure_ (i := 7) (N := some 52) (v := ?_) (a' := ?_) #[true, true, true, true, false, false, false, true, false, false, false, false] rfl rfl (any_of HT_.out (by kernel_rfl)) (fun _ _ _ h => h) (Or.inl ⟨by rfl, ?_⟩) ?_ ?_
                  rotate_left
                  · intro w'
                    go_simp
                    with_reducible rfl
                  rotate_left
                  · simp only [Act.put, List.setIfInBounds_toArray, List.set_cons_zero, List.set_cons_succ, i64_w, i32_w]
                    rfl
                  refine pure_ (i := 8) (N := some 53) (v := ?_) (a' := ?_) #[true, true, true, true, false, false, false, true, true, false, false, false] rfl rfl (any_of HT_.out (by kernel_rfl)) (fun _ _ _ h => h) (Or.inl ⟨by rfl, ?_⟩) ?_ ?_
                  rotate_left
                  · intro w'
                    go_simp
                    with_reducible rfl
                  rotate_left
                  · simp only [Act.put, List.setIfInBounds_toArray, List.set_cons_zero, List.set_cons_succ, i64_w, i32_w]
                    rfl
                  refine pure_ (i := 9) (N := some 54) (v := ?_) (a' := ?_) #[true, true, true, true, false, false, false, true, true, true, false, false] rfl rfl (any_of HT_.out (by kernel_rfl)) (fun _ _ _ h => h) (Or.inl ⟨by rfl, ?_⟩) ?_ ?_
                  rotate_left
                  · intro w'
                    go_simp
                    with_reducible rfl
                  rotate_left
                  · simp only [Act.put, List.setIfInBounds_toArray, List.set_cons_zero, List.set_cons_succ, i64_w, i32_w]
                    rfl
                  refine one_ (i := 4) (N := some 49) #[true, true, true, true, true, false, false, true, true, true, false, false] rfl rfl (one_of HT_.out (by kernel_rfl)) (by decide) (fun K hK => ?_)
                  refine Kd.R_lit_step Kd.string _ 9 ?hg (N := 49) ?hd (xs := ([(⟨#[48]⟩ : ByteArray), (⟨#[45]⟩ : ByteArray), (⟨#[46]⟩ : ByteArray), (⟨#[32]⟩ : ByteArray), (⟨#[40]⟩ : ByteArray), (⟨#[49]⟩ : ByteArray)] : List ByteArray)) (inner := [.string (⟨#[48]⟩ : ByteArray), .string (⟨#[45]⟩ : ByteArray), .string (⟨#[46]⟩ : ByteArray), .string (⟨#[32]⟩ : ByteArray), .string (⟨#[40]⟩ : ByteArray), .string (⟨#[49]⟩ : ByteArray)]) (ok := fun _ => True) (okp := fun _ => True) ?hr ?hp (fun _ hk => hk) trivial (Below.refl _ _) (Nat.le_refl _) (by simp) ?_; (case hd => rfl); (case hg => rfl); (case hr => first | (go_simp; done) | (go_simp; rfl)); (case hp => exact (Reps.one (show Kd.M Kd.string _ _ _ (⟨#[48]⟩ : ByteArray) [.string (⟨#[48]⟩ : ByteArray)] from rfl) (Reps.one (show Kd.M Kd.string _ _ _ (⟨#[45]⟩ : ByteArray) [.string (⟨#[45]⟩ : ByteArray)] from rfl) (Reps.one (show Kd.M Kd.string _ _ _ (⟨#[46]⟩ : ByteArray) [.string (⟨#[46]⟩ : ByteArray)] from rfl) (Reps.one (show Kd.M Kd.string _ _ _ (⟨#[32]⟩ : ByteArray) [.string (⟨#[32]⟩ : ByteArray)] from rfl) (Reps.one (show Kd.M Kd.string _ _ _ (⟨#[40]⟩ : ByteArray) [.string (⟨#[40]⟩ : ByteArray)] from rfl) (Reps.one (show Kd.M Kd.string _ _ _ (⟨#[49]⟩ : ByteArray) [.string (⟨#[49]⟩ : ByteArray)] from rfl) (Reps.none _ _))))))))
                  intro v366 w49 ho50 hb hg_ hnew_
                  clear hg_ hnew_
                  (first | rw [← Ny365.out] at ho50 | (simp only [Int.reduceToNat] at ho50; rw [← Ny365.out] at ho50))
                  have n0_ := Aside0.mk (Kd.R_lower ho50 (keep_size (w := w) (g := g) (row := none) (by repeat (first | (with_reducible first | exact HK.out | apply KeepBut.set_ | apply keep_drewN | apply keep_drew | apply keep_alloc) | exact HK.out))))
                  have n1_ := Aside0.mk (IsS79.below (by repeat (first | (with_reducible first | exact HI0.out | apply IsS79.alloc | apply IsS79.drewN | apply IsS79.drew | apply IsS79.set_1) | exact HI0.out)) hb)
                  have n2_ := Aside0.mk (KeepBut.trans (by repeat (first | (with_reducible first | exact HK.out | apply KeepBut.set_ | apply keep_drewN | apply keep_drew | apply keep_alloc) | exact HK.out)) (KeepBut.of_below hb g none) (.inl rfl))
                  have n3_ := Aside0.mk (below_step (by repeat (first | (with_reducible first | exact HB.out | apply below_alloc | apply pw_below_drewN | apply below_drew1 | refine below_set ?_ (IsS79.ge HI0.out)) | exact HB.out)) hb)
                  clear HI0
                  clear HK
                  clear HB
                  have HO367 := n0_
                  have HI0 := n1_
                  have HK := n2_
                  have HB := n3_
                  clear n0_ n1_ n2_ n3_
                  clear hb ho50
                  obtain ⟨Ao51, co51, eo51⟩ := Kd.R_slice HO367.out
                  (first | subst eo51 | (injection eo51 with f1_ f2_ f3_; have f4_ := f1_.symm; have f5_ := f3_.symm; clear f1_ f2_ f3_; subst f4_; subst f5_))
                  refine hK.out _ _ trivial (fun hHeld => ?_)
                  clear hK K
                  refine norm_ (a' := ?_) ?_ ?_
                  rotate_left
                  · show Act.put _ (some 49) _ = _
                    simp only [Act.put, List.setIfInBounds_toArray, List.set_cons_zero, List.set_cons_succ, i64_w, i32_w]
                    rfl
                  refine one_ (i := 5) (N := some 50) #[true, true, true, true, true, true, false, true, true, true, false, false] rfl rfl (one_of HT_.out (by kernel_rfl)) (by decide) (fun K hK => ?_)
                  refine goes_ Tryd.func48 (by kernel_rfl) rfl #[.pointer (some ⟨g, 0, none⟩), .slice Ao51 y365.length co51] (by rfl) rfl rfl za ?_
                  with_reducible refine (spec_l1Rd_of.calls k g s0_0 t354 _ _ y365 t368 t369 w0 _ ?side1 ?side2 ?side3 ?side4 ?side5 A41.out).mono ?_
                  (case side1 => repeat (first | (with_reducible first | exact HI0.out | apply IsS79.alloc | apply IsS79.drewN | apply IsS79.drew | apply IsS79.set_1) | exact HI0.out))
                  (case side2 => repeat (first | (with_reducible first | exact HB.out | apply below_alloc | apply pw_below_drewN | apply below_drew1 | refine below_set ?_ (IsS79.ge HI0.out)) | exact HB.out))
                  (case side3 => repeat (first | exact (Kd.R_reads' HO367.out).2.2 | (with_reducible refine Kd.C_alloc ?_ _) | (with_reducible refine Kd.C_drewN ?_ _) | (with_reducible refine Kd.C_drew ?_)))
                  (case side4 => exact (Kd.R_reads' HO367.out).2.1)
                  (case side5 => exact far_slice (IsS79.own_ne HI0.out HO367.out (by decide)))
                  rintro e w52 ⟨rfl, hi, hb, hk⟩
                  refine ⟨_, rfl, ?_⟩
                  have n0_ := Aside0.mk (Kd.R_mono (Kd.R_keep (IsS79.apart (show IsS79 w0 _ g s0_0 t354 from by repeat (first | (with_reducible first | exact HI0.out | apply IsS79.alloc | apply IsS79.drewN | apply IsS79.drew | apply IsS79.set_1) | exact HI0.out)) (zR HO367.out) (by decide)) hk (fun _ h => h.2)) (fun _ h => h.1))
                  have n1_ := Aside0.mk (KeepBut.trans (by repeat (first | (with_reducible first | exact HK.out | apply KeepBut.set_ | apply keep_drewN | apply keep_drew | apply keep_alloc) | exact HK.out)) hk (.inl rfl))
                  have n2_ := Aside0.mk (hb)
                  have n3_ := Aside0.mk (hi)
                  clear HO367
                  clear HK
                  clear HB
                  clear HI0
                  have HO367 := n0_
                  have HK := n1_
                  have HB := n2_
                  have HI0 := n3_
                  clear n0_ n1_ n2_ n3_
                  (try clear hb)
                  (try clear hb2)
                  (try clear hk)
                  (try clear hi)
                  refine hK.out _ _ trivial (fun hHeld => ?_)
                  clear hK K
                  refine norm_ (a' := ?_) ?_ ?_
                  rotate_left
                  · show Act.put _ (some 50) _ = _
                    simp only [Act.put, List.setIfInBounds_toArray, List.set_cons_zero, List.set_cons_succ, i64_w, i32_w]
                    rfl
                  refine pure_ (i := 6) (N := some 51) (v := ?_) (a' := ?_) #[true, true, true, true, true, true, true, true, true, true, false, false] rfl rfl (any_of HT_.out (by kernel_rfl)) (fun _ _ _ h => h) (Or.inl ⟨by rfl, ?_⟩) ?_ ?_
                  rotate_left
                  · intro w'
                    go_simp
                    with_reducible rfl
                  rotate_left
                  · simp only [Act.put, List.setIfInBounds_toArray, List.set_cons_zero, List.set_cons_succ, i64_w, i32_w]
                    rfl
                  refine pure_ (i := 10) (N := some 55) (v := ?_) (a' := ?_) #[true, true, true, true, true, true, true, true, true, true, true, false] rfl rfl (any_of HT_.out (by kernel_rfl)) (fun _ _ _ h => h) (Or.inl ⟨by rfl, ?_⟩) ?_ ?_
                  rotate_left
                  · intro w'
                    go_simp
                    with_reducible rfl
                  rotate_left
                  · simp only [Act.put, List.setIfInBounds_toArray, List.set_cons_zero, List.set_cons_succ, i64_w, i32_w]
                    rfl
                  refine pure_ (i := 11) (N := some 4) (v := ?_) (a' := ?_) #[true, true, true, true, true, true, true, true, true, true, true, true] rfl rfl (any_of HT_.out (by kernel_rfl)) (fun _ _ _ h => h) (Or.inl ⟨by rfl, ?_⟩) ?_ ?_
                  rotate_left
                  · intro w'
                    go_simp
                    with_reducible rfl
                  rotate_left
                  · simp only [Act.put, List.setIfInBounds_toArray, List.set_cons_zero, List.set_cons_succ, i64_w, i32_w]
                    rfl
                  refine done_ (done_of HT_.out (by kernel_rfl)) ?_
                  try go_wp2
                  go_ret
                  exact ⟨by first | rfl | (simp [errW_none, errW_some] <;> rfl) | (simp [*, errW_none, errW_some] <;> rfl), by repeat (first | (with_reducible first | exact HI0.out | apply IsS79.alloc | apply IsS79.drewN | apply IsS79.drew | apply IsS79.set_1) | exact HI0.out), by repeat (first | (with_reducible first | exact HB.out | apply below_alloc | apply pw_below_drewN | apply below_drew1 | refine below_set ?_ (IsS79.ge HI0.out)) | exact HB.out), by repeat (first | (with_reducible first | exact HK.out | apply KeepBut.set_ | apply keep_drewN | apply keep_drew | apply keep_alloc) | exact HK.out)⟩
                · rw [if_neg c45] at H
                  exact absurd H (by simp)
              · rw [if_neg c42] at H
                exact absurd H (by simp)
            · rw [if_neg c40] at H
              exact absurd H (by simp)
          · rw [if_neg c39] at H
            exact absurd H (by simp)
        · rw [if_neg c38] at H
          have c38b0 : (t353 == 3) = false := beq_eq_false_iff_ne.mpr c38
          have c38b1 : (t353 != 3) = true := bne_iff_ne.mpr c38
          simp only [Option.some.injEq, Prod.mk.injEq] at H
          obtain ⟨rfl, rfl⟩ := H
          go_enter Tryd.func49, Tryd.ntmps49
          go_wp2_with (first | ((with_reducible refine gate_callee (f := 47) rfl ?_); refine goesL_ (some 10) rfl rfl Tryd.func47 (by kernel_rfl) rfl #[.pointer (some ⟨g, 0, none⟩), .int .i64 (wrap64 ((a1.size : Int) + 1))] rfl za ?_; (with_reducible refine (spec_l1Rd_pick.calls k g s0_0 s0_1 (wrap64 ((a1.size : Int) + 1)) t351 t352 w0 _ ?side1 ?side2 A3.out).mono ?_); (case side1 => repeat (first | (with_reducible first | exact HI0.out | apply IsS79.alloc | apply IsS79.drewN | apply IsS79.drew | apply IsS79.set_1) | exact HI0.out)); (case side2 => repeat (first | (with_reducible first | exact HB.out | apply below_alloc | apply pw_below_drewN | apply below_drew1 | refine below_set ?_ (IsS79.ge HI0.out)) | exact HB.out)); rintro e w53 ⟨rfl, hi, hb, hk⟩; refine ⟨_, rfl, ?_⟩; have n0_ := Aside0.mk (KeepBut.trans (by repeat (first | (with_reducible first | exact HK.out | apply KeepBut.set_ | apply keep_drewN | apply keep_drew | apply keep_alloc) | exact HK.out)) hk (.inl rfl)); have n1_ := Aside0.mk (hb); have n2_ := Aside0.mk (hi); clear HK; clear HB; clear HI0; have HK := n0_; have HB := n1_; have HI0 := n2_; clear n0_ n1_ n2_; (try clear hb); (try clear hb2); (try clear hk); (try clear hi)) | ((with_reducible refine gate_callee (f := 47) rfl ?_); refine goesL_ (some 12) rfl rfl Tryd.func47 (by kernel_rfl) rfl #[.pointer (some ⟨g, 0, none⟩), .int .i64 6] rfl za ?_; (with_reducible refine (spec_l1Rd_pick.calls k g s0_0 t352 6 t353 t354 w0 _ ?side1 ?side2 A4.out).mono ?_); (case side1 => repeat (first | (with_reducible first | exact HI0.out | apply IsS79.alloc | apply IsS79.drewN | apply IsS79.drew | apply IsS79.set_1) | exact HI0.out)); (case side2 => repeat (first | (with_reducible first | exact HB.out | apply below_alloc | apply pw_below_drewN | apply below_drew1 | refine below_set ?_ (IsS79.ge HI0.out)) | exact HB.out)); rintro e w54 ⟨rfl, hi, hb, hk⟩; refine ⟨_, rfl, ?_⟩; have n0_ := Aside0.mk (KeepBut.trans (by repeat (first | (with_reducible first | exact HK.out | apply KeepBut.set_ | apply keep_drewN | apply keep_drew | apply keep_alloc) | exact HK.out)) hk (.inl rfl)); have n1_ := Aside0.mk (hb); have n2_ := Aside0.mk (hi); clear HK; clear HB; clear HI0; have HK := n0_; have HB := n1_; have HI0 := n2_; clear n0_ n1_ n2_; (try clear hb); (try clear hb2); (try clear hk); (try clear hi)))
          go_ret
          exact ⟨by first | rfl | (simp [errW_none, errW_some] <;> rfl) | (simp [*, errW_none, errW_some] <;> rfl), by repeat (first | (with_reducible first | exact HI0.out | apply IsS79.alloc | apply IsS79.drewN | apply IsS79.drew | apply IsS79.set_1) | exact HI0.out), by repeat (first | (with_reducible first | exact HB.out | apply below_alloc | apply pw_below_drewN | apply below_drew1 | refine below_set ?_ (IsS79.ge HI0.out)) | exact HB.out), by repeat (first | (with_reducible first | exact HK.out | apply KeepBut.set_ | apply keep_drewN | apply keep_drew | apply keep_alloc) | exact HK.out)⟩
def spec_DrawSpanGet.f (k : Nat) (l0 : List Int) : Option (ByteArray) := (spec_l1Open.f l0).bind fun bt370 => ((spec_l1Rd_pick.f k bt370.1 bt370.2 8).bind fun bt373 => (if bt373.1 = 0 then ((spec_l1Rd_of.f k bt370.1 bt373.2 (([(⟨#[]⟩ : ByteArray), (⟨#[109]⟩ : ByteArray), (⟨#[48, 109, 48, 100]⟩ : ByteArray), (⟨#[45, 48, 109, 48, 100]⟩ : ByteArray), (⟨#[51, 109]⟩ : ByteArray), (⟨#[52, 100]⟩ : ByteArray), (⟨#[49, 50, 48, 48, 48, 49, 109, 48, 100]⟩ : ByteArray), (⟨#[49, 109, 50, 109, 51, 100]⟩ : ByteArray)] : List ByteArray))).bind fun bt378 => (some bt378.1)) else ((spec_l14Span.f k bt370.1 bt373.2).bind fun bt380 => ((spec_l3SpanPut.f k bt380.1 bt380.2.1).bind fun t383 => ((spec_l14Bent.f k bt370.1 bt380.2.2 t383).bind fun bt384 => (some bt384.1))))))
def spec_DayOf.f (k : Nat) (a0 : Int) (a1 : Int) (a2 : Int) : Option (Int) := (spec_l1In.f a0 1 9999).bind fun t408 => (if t408 = true then ((spec_l1In.f a1 1 12).bind fun t409 => (if t409 = true then (if a2 < 1 then (some 0) else ((spec_l3Last.f a0 a1).bind fun t410 => (if a2 > t410 then (some 0) else ((spec_l3Of.f k a0 a1 a2).bind fun t411 => (some t411))))) else (some 0))) else (some 0))
set_option maxHeartbeats 8000000 in
set_option maxRecDepth 100000 in
theorem spec_DayOf.calls (k : Nat) (a0 : Int) (a1 : Int) (a2 : Int) (r : Int) (w : World) (h : spec_DayOf.f k a0 a1 a2 = some r) :
    Calls Tryd.prog 74 #[.int .i64 a0, .int .i64 a1, .int .i64 a2] w fun e w' => e = .returned (.int .i64 r) ∧ Drawn0 w w' := by
  have H : ((spec_l1In.f a0 1 9999).bind fun t408 => (if t408 = true then ((spec_l1In.f a1 1 12).bind fun t409 => (if t409 = true then (if a2 < 1 then (some 0) else ((spec_l3Last.f a0 a1).bind fun t410 => (if a2 > t410 then (some 0) else ((spec_l3Of.f k a0 a1 a2).bind fun t411 => (some t411))))) else (some 0))) else (some 0))) = some r := h
  clear h
  replace H := Option.bind_eq_some_iff.mp H
  obtain ⟨t408, A40, H⟩ := H
  replace H : (if t408 = true then ((spec_l1In.f a1 1 12).bind fun t409 => (if t409 = true then (if a2 < 1 then (some 0) else ((spec_l3Last.f a0 a1).bind fun t410 => (if a2 > t410 then (some 0) else ((spec_l3Of.f k a0 a1 a2).bind fun t411 => (some t411))))) else (some 0))) else (some 0)) = some r := H
  have A4 := Aside0.mk A40
  clear A40
  by_cases c5 : t408 = true
  · subst c5
    have H1 : ((spec_l1In.f a1 1 12).bind fun t409 => (if t409 = true then (if a2 < 1 then (some 0) else ((spec_l3Last.f a0 a1).bind fun t410 => (if a2 > t410 then (some 0) else ((spec_l3Of.f k a0 a1 a2).bind fun t411 => (some t411))))) else (some 0))) = some r := by rw [if_pos rfl] at H; exact H
    clear H
    have H := H1
    clear H1
    replace H := Option.bind_eq_some_iff.mp H
    obtain ⟨t409, A60, H⟩ := H
    replace H : (if t409 = true then (if a2 < 1 then (some 0) else ((spec_l3Last.f a0 a1).bind fun t410 => (if a2 > t410 then (some 0) else ((spec_l3Of.f k a0 a1 a2).bind fun t411 => (some t411))))) else (some 0)) = some r := H
    have A6 := Aside0.mk A60
    clear A60
    by_cases c7 : t409 = true
    · subst c7
      have H1 : (if a2 < 1 then (some 0) else ((spec_l3Last.f a0 a1).bind fun t410 => (if a2 > t410 then (some 0) else ((spec_l3Of.f k a0 a1 a2).bind fun t411 => (some t411))))) = some r := by rw [if_pos rfl] at H; exact H
      clear H
      have H := H1
      clear H1
      by_cases c8 : a2 < 1
      · rw [if_pos c8] at H
        have c8b0 : decide (a2 < 1) = true := decide_eq_true c8
        clear c8
        obtain rfl := Option.some.inj H
        go_enter Tryd.func74, Tryd.ntmps74
        go_wp2_with (first | ((with_reducible refine gate_callee (f := 56) rfl ?_); refine goesL_ (some 8) rfl rfl Tryd.func56 (by kernel_rfl) rfl #[.int .i64 a0, .int .i64 1, .int .i64 9999] rfl za ?_; (with_reducible refine (spec_l1In.calls a0 1 9999 true _ A4.out).mono ?_); rintro e w' ⟨rfl, ⟨nd, rfl⟩⟩; refine ⟨_, rfl, ?_⟩) | (go_at_call 56; (with_reducible refine (spec_l1In.calls a1 1 12 true _ A6.out).mono ?_); rintro e w' ⟨rfl, ⟨nd, rfl⟩⟩))
        go_ret
        exact ⟨by first | rfl | (simp; done) | (simp [*]; done), by repeat (first | exact Drawn0.refl _ | apply Drawn0.step)⟩
      · rw [if_neg c8] at H
        have c8b0 : decide (a2 < 1) = false := decide_eq_false c8
        clear c8
        replace H := Option.bind_eq_some_iff.mp H
        obtain ⟨t410, A90, H⟩ := H
        replace H : (if a2 > t410 then (some 0) else ((spec_l3Of.f k a0 a1 a2).bind fun t411 => (some t411))) = some r := H
        have A9 := Aside0.mk A90
        clear A90
        by_cases c10 : a2 > t410
        · rw [if_pos c10] at H
          have c10b0 : decide (t410 < a2) = true := decide_eq_true c10
          clear c10
          obtain rfl := Option.some.inj H
          go_enter Tryd.func74, Tryd.ntmps74
          go_wp2_with (first | ((with_reducible refine gate_callee (f := 56) rfl ?_); refine goesL_ (some 8) rfl rfl Tryd.func56 (by kernel_rfl) rfl #[.int .i64 a0, .int .i64 1, .int .i64 9999] rfl za ?_; (with_reducible refine (spec_l1In.calls a0 1 9999 true _ A4.out).mono ?_); rintro e w' ⟨rfl, ⟨nd, rfl⟩⟩; refine ⟨_, rfl, ?_⟩) | (go_at_call 56; (with_reducible refine (spec_l1In.calls a1 1 12 true _ A6.out).mono ?_); rintro e w' ⟨rfl, ⟨nd, rfl⟩⟩) | (go_at_call 80; (with_reducible refine (spec_l3Last.calls a0 a1 t410 _ A9.out).mono ?_); rintro e w' ⟨rfl, ⟨nd, rfl⟩⟩))
          go_ret
          exact ⟨by first | rfl | (simp; done) | (simp [*]; done), by repeat (first | exact Drawn0.refl _ | apply Drawn0.step)⟩
        · rw [if_neg c10] at H
          have c10b0 : decide (t410 < a2) = false := decide_eq_false c10
          clear c10
          replace H := Option.bind_eq_some_iff.mp H
          obtain ⟨t411, A110, H⟩ := H
          replace H : (some t411) = some r := H
          have A11 := Aside0.mk A110
          clear A110
          obtain rfl := Option.some.inj H
          go_enter Tryd.func74, Tryd.ntmps74
          go_wp2_with (first | ((with_reducible refine gate_callee (f := 56) rfl ?_); refine goesL_ (some 8) rfl rfl Tryd.func56 (by kernel_rfl) rfl #[.int .i64 a0, .int .i64 1, .int .i64 9999] rfl za ?_; (with_reducible refine (spec_l1In.calls a0 1 9999 true _ A4.out).mono ?_); rintro e w' ⟨rfl, ⟨nd, rfl⟩⟩; refine ⟨_, rfl, ?_⟩) | (go_at_call 56; (with_reducible refine (spec_l1In.calls a1 1 12 true _ A6.out).mono ?_); rintro e w' ⟨rfl, ⟨nd, rfl⟩⟩) | (go_at_call 80; (with_reducible refine (spec_l3Last.calls a0 a1 t410 _ A9.out).mono ?_); rintro e w' ⟨rfl, ⟨nd, rfl⟩⟩) | ((with_reducible refine gate_callee (f := 77) rfl ?_); refine goesL_ (some 29) rfl rfl Tryd.func77 (by kernel_rfl) rfl #[.int .i64 a0, .int .i64 a1, .int .i64 a2] rfl za ?_; (with_reducible refine (spec_l3Of.calls k a0 a1 a2 t411 _ A11.out).mono ?_); rintro e w' ⟨rfl, ⟨nd, rfl⟩⟩; refine ⟨_, rfl, ?_⟩))
          go_ret
          exact ⟨by first | rfl | (simp; done) | (simp [*]; done), by repeat (first | exact Drawn0.refl _ | apply Drawn0.step)⟩
    · replace c7 := Bool.eq_false_iff.mpr c7
      subst c7
      have H1 : (some 0) = some r := by rw [if_neg (show ¬ (false = true) by decide)] at H; exact H
      clear H
      have H := H1
      clear H1
      obtain rfl := Option.some.inj H
      go_enter Tryd.func74, Tryd.ntmps74
      go_wp2_with (first | ((with_reducible refine gate_callee (f := 56) rfl ?_); refine goesL_ (some 8) rfl rfl Tryd.func56 (by kernel_rfl) rfl #[.int .i64 a0, .int .i64 1, .int .i64 9999] rfl za ?_; (with_reducible refine (spec_l1In.calls a0 1 9999 true _ A4.out).mono ?_); rintro e w' ⟨rfl, ⟨nd, rfl⟩⟩; refine ⟨_, rfl, ?_⟩) | (go_at_call 56; (with_reducible refine (spec_l1In.calls a1 1 12 false _ A6.out).mono ?_); rintro e w' ⟨rfl, ⟨nd, rfl⟩⟩))
      go_ret
      exact ⟨by first | rfl | (simp; done) | (simp [*]; done), by repeat (first | exact Drawn0.refl _ | apply Drawn0.step)⟩
  · replace c5 := Bool.eq_false_iff.mpr c5
    subst c5
    have H1 : (some 0) = some r := by rw [if_neg (show ¬ (false = true) by decide)] at H; exact H
    clear H
    have H := H1
    clear H1
    obtain rfl := Option.some.inj H
    go_enter Tryd.func74, Tryd.ntmps74
    go_wp2_with (first | ((with_reducible refine gate_callee (f := 56) rfl ?_); refine goesL_ (some 8) rfl rfl Tryd.func56 (by kernel_rfl) rfl #[.int .i64 a0, .int .i64 1, .int .i64 9999] rfl za ?_; (with_reducible refine (spec_l1In.calls a0 1 9999 false _ A4.out).mono ?_); rintro e w' ⟨rfl, ⟨nd, rfl⟩⟩; refine ⟨_, rfl, ?_⟩))
    go_ret
    exact ⟨by first | rfl | (simp; done) | (simp [*]; done), by repeat (first | exact Drawn0.refl _ | apply Drawn0.step)⟩
def spec_l3Figs.l0 : Nat → ByteArray → Int → Int → Int → Int → Option (Int)
  | 0, _, _, _, _, _ => none
  | k + 1, x0, x1, x2, x7, x8 => if x8 < (wrap64 (x1 + x2)) then (if x8 ≥ (x0.size : Int) then (some (-1)) else (if 0 ≤ x8 then (if x8 < (x0.size : Int) then (if (bt x0 x8) < 48 then (some (-1)) else (if (bt x0 x8) > 57 then (some (-1)) else (spec_l3Figs.l0 k x0 x1 x2 (wrap64 ((wrap64 (x7 * 10)) + (((bt x0 x8) - 48) % 256))) (wrap64 (x8 + 1))))) else (none)) else (none))) else (some x7)
def spec_l3Figs.f (k : Nat) (a0 : ByteArray) (a1 : Int) (a2 : Int) : Option (Int) := spec_l3Figs.l0 k a0 a1 a2 0 a1
set_option maxHeartbeats 8000000 in
set_option maxRecDepth 100000 in
theorem spec_l3Figs.calls (k : Nat) (a0 : ByteArray) (a1 : Int) (a2 : Int) (r : Int) (w : World) (h : spec_l3Figs.f k a0 a1 a2 = some r) :
    Calls Tryd.prog 75 #[.string a0, .int .i64 a1, .int .i64 a2] w fun e w' => e = .returned (.int .i64 r) ∧ Drawn0 w w' := by
  have H : (spec_l3Figs.l0 k a0 a1 a2 0 a1) = some r := h
  clear h
  have H' := Aside0.mk H
  clear H
  go_enter Tryd.func75, Tryd.ntmps75
  go_wp2
  go_loopg [7, 8] k (fun kq v7 v8 w' => ∃ (x7_1 : Int) (x8_1 : Int), v7 = .int .i64 x7_1 ∧ v8 = .int .i64 x8_1 ∧ Aside0 (spec_l3Figs.l0 kq a0 a1 a2 x7_1 x8_1 = some r) ∧ Aside0 (kq ≤ k) ∧ Drawn0 w w')
  case atStart => exact ⟨(0), (a1), (by first | rfl | (simp; done) | (simp [*]; done)), (by first | rfl | (simp; done) | (simp [*]; done)), H', ⟨Nat.le_refl _⟩, by repeat (first | exact Drawn0.refl _ | apply Drawn0.step)⟩
  case round =>
    clear H'
    try clear p2
    obtain ⟨x7_1, x8_1, rfl, rfl, HA, HK1, ⟨m1, rfl⟩⟩ := hrel
    cases gk with
    | zero => exact absurd HA.out (by simp [spec_l3Figs.l0])
    | succ k1 =>
      have H := HA.out
      clear HA
      simp only [spec_l3Figs.l0] at H
      by_cases c4 : x8_1 < (wrap64 (a1 + a2))
      · rw [if_pos c4] at H
        have c4b0 : decide (x8_1 < (wrap64 (a1 + a2))) = true := decide_eq_true c4
        clear c4
        by_cases c5 : x8_1 ≥ (a0.size : Int)
        · rw [if_pos c5] at H
          have c5b0 : decide ((a0.size : Int) ≤ x8_1) = true := decide_eq_true c5
          clear c5
          obtain rfl := Option.some.inj H
          go_wp2
          go_ret
          exact ⟨by first | rfl | (simp; done) | (simp [*]; done), by repeat (first | exact Drawn0.refl _ | apply Drawn0.step)⟩
        · rw [if_neg c5] at H
          have c5b0 : decide ((a0.size : Int) ≤ x8_1) = false := decide_eq_false c5
          clear c5
          by_cases c6 : 0 ≤ x8_1
          · rw [if_pos c6] at H
            have c6b0 : decide (0 ≤ x8_1) = true := decide_eq_true c6
            clear c6
            by_cases c7 : x8_1 < (a0.size : Int)
            · rw [if_pos c7] at H
              have c7b0 : decide (x8_1 < (a0.size : Int)) = true := decide_eq_true c7
              clear c7
              by_cases c9 : (bt a0 x8_1) < 48
              · rw [if_pos c9] at H
                have c9b0 : decide ((bt a0 x8_1) < 48) = true := decide_eq_true c9
                clear c9
                obtain rfl := Option.some.inj H
                have p8 : 0 ≤ (x8_1 : Int) := of_decide_eq_true (by first | (with_reducible assumption) | assumption)
                have q8 : x8_1 < (a0.size : Int) := of_decide_eq_true (by first | (with_reducible assumption) | assumption)
                have hx8 := bt_at a0 x8_1
                replace p8 := eq_true p8
                replace q8 := eq_true q8
                go_wp2
                go_ret
                exact ⟨by first | rfl | (simp; done) | (simp [*]; done), by repeat (first | exact Drawn0.refl _ | apply Drawn0.step)⟩
              · rw [if_neg c9] at H
                have c9b0 : decide ((bt a0 x8_1) < 48) = false := decide_eq_false c9
                clear c9
                by_cases c11 : (bt a0 x8_1) > 57
                · rw [if_pos c11] at H
                  have c11b0 : decide (57 < (bt a0 x8_1)) = true := decide_eq_true c11
                  clear c11
                  obtain rfl := Option.some.inj H
                  have p8 : 0 ≤ (x8_1 : Int) := of_decide_eq_true (by first | (with_reducible assumption) | assumption)
                  have q8 : x8_1 < (a0.size : Int) := of_decide_eq_true (by first | (with_reducible assumption) | assumption)
                  have hx8 := bt_at a0 x8_1
                  replace p8 := eq_true p8
                  replace q8 := eq_true q8
                  have p10 : 0 ≤ (x8_1 : Int) := of_decide_eq_true (by first | (with_reducible assumption) | assumption)
                  have q10 : x8_1 < (a0.size : Int) := of_decide_eq_true (by first | (with_reducible assumption) | assumption)
                  have hx10 := bt_at a0 x8_1
                  replace p10 := eq_true p10
                  replace q10 := eq_true q10
                  go_wp2
                  go_ret
                  exact ⟨by first | rfl | (simp; done) | (simp [*]; done), by repeat (first | exact Drawn0.refl _ | apply Drawn0.step)⟩
                · rw [if_neg c11] at H
                  have c11b0 : decide (57 < (bt a0 x8_1)) = false := decide_eq_false c11
                  clear c11
                  have H' := Aside0.mk H
                  clear H
                  have p8 : 0 ≤ (x8_1 : Int) := of_decide_eq_true (by first | (with_reducible assumption) | assumption)
                  have q8 : x8_1 < (a0.size : Int) := of_decide_eq_true (by first | (with_reducible assumption) | assumption)
                  have hx8 := bt_at a0 x8_1
                  replace p8 := eq_true p8
                  replace q8 := eq_true q8
                  have p10 : 0 ≤ (x8_1 : Int) := of_decide_eq_true (by first | (with_reducible assumption) | assumption)
                  have q10 : x8_1 < (a0.size : Int) := of_decide_eq_true (by first | (with_reducible assumption) | assumption)
                  have hx10 := bt_at a0 x8_1
                  replace p10 := eq_true p10
                  replace q10 := eq_true q10
                  have p12 : 0 ≤ (x8_1 : Int) := of_decide_eq_true (by first | (with_reducible assumption) | assumption)
                  have q12 : x8_1 < (a0.size : Int) := of_decide_eq_true (by first | (with_reducible assumption) | assumption)
                  have hx12 := bt_at a0 x8_1
                  replace p12 := eq_true p12
                  replace q12 := eq_true q12
                  go_wp2
                  go_roundg k1
                  case measure => have := HK1.out; omega
                  case rel => exact ⟨(wrap64 ((wrap64 (x7_1 * 10)) + (((bt a0 x8_1) - 48) % 256))), (wrap64 (x8_1 + 1)), (by first | rfl | (simp; done) | (simp [*]; done)), (by first | rfl | (simp; done) | (simp [*]; done)), H', ⟨by have := HK1.out; omega⟩, by repeat (first | exact Drawn0.refl _ | apply Drawn0.step)⟩
            · rw [if_neg c7] at H
              exact absurd H (by simp)
          · rw [if_neg c6] at H
            exact absurd H (by simp)
      · rw [if_neg c4] at H
        have c4b0 : decide (x8_1 < (wrap64 (a1 + a2))) = false := decide_eq_false c4
        clear c4
        obtain rfl := Option.some.inj H
        go_wp2
        go_ret
        exact ⟨by first | rfl | (simp; done) | (simp [*]; done), by repeat (first | exact Drawn0.refl _ | apply Drawn0.step)⟩
def spec_l3Get.j0 : Nat → ByteArray → Bool → Option (Int)
  | 0, _, _ => none
  | k + 1, x0, x15 => if x15 = true then (some 0) else ((spec_l3Figs.f k x0 0 4).bind fun t412 => ((spec_l3Figs.f k x0 5 2).bind fun t413 => ((spec_l3Figs.f k x0 8 2).bind fun t414 => ((spec_DayOf.f k t412 t413 t414).bind fun t415 => (some t415)))))
def spec_l3Get.f (k : Nat) (a0 : ByteArray) : Option (Int) := if (a0.size : Int) = 10 then (if 4 < (a0.size : Int) then (if (bt a0 4) = 45 then (if 7 < (a0.size : Int) then (spec_l3Get.j0 k a0 ((bt a0 7) != 45)) else (none)) else (spec_l3Get.j0 k a0 true)) else (none)) else (spec_l3Get.j0 k a0 true)
set_option maxHeartbeats 8000000 in
set_option maxRecDepth 100000 in
theorem spec_l3Get.calls (k : Nat) (a0 : ByteArray) (r : Int) (w : World) (h : spec_l3Get.f k a0 = some r) :
    Calls Tryd.prog 51 #[.string a0] w fun e w' => e = .returned (.int .i64 r) ∧ Drawn0 w w' := by
  have H : (if (a0.size : Int) = 10 then (if 4 < (a0.size : Int) then (if (bt a0 4) = 45 then (if 7 < (a0.size : Int) then (spec_l3Get.j0 k a0 ((bt a0 7) != 45)) else (none)) else (spec_l3Get.j0 k a0 true)) else (none)) else (spec_l3Get.j0 k a0 true)) = some r := h
  clear h
  have HC2 := Aside0.mk H
  clear H
  go_enter Tryd.func51, Tryd.ntmps51
  go_upto_region 1 with (fail)
  go_cut [15] (fun v15 wc => ∃ (kq : Nat) (x15_1 : Bool), v15 = .bool x15_1 ∧ Aside0 (spec_l3Get.j0 kq a0 x15_1 = some r) ∧ Aside0 (kq ≤ k) ∧ Drawn0 w wc)
  case first =>
    have H := HC2.out
    clear HC2
    by_cases c3 : (a0.size : Int) = 10
    · rw [if_pos c3] at H
      have c3b0 : ((a0.size : Int) == 10) = true := beq_iff_eq.mpr c3
      have c3b1 : ((a0.size : Int) != 10) = false := bne_eq_false_iff_eq.mpr c3
      clear c3
      (first | rw [c3b0] | (simp only [i64_w, i32_w]; rw [c3b0]) | skip)
      by_cases c4 : 4 < (a0.size : Int)
      · rw [if_pos c4] at H
        have c4b0 : decide (4 < (a0.size : Int)) = true := decide_eq_true c4
        have c4b1 : decide (4 < a0.size) = true := decide_eq_true (by omega)
        clear c4
        by_cases c6 : (bt a0 4) = 45
        · rw [if_pos c6] at H
          have c6b0 : ((bt a0 4) == 45) = true := beq_iff_eq.mpr c6
          have c6b1 : ((bt a0 4) != 45) = false := bne_eq_false_iff_eq.mpr c6
          clear c6
          by_cases c7 : 7 < (a0.size : Int)
          · rw [if_pos c7] at H
            have c7b0 : decide (7 < (a0.size : Int)) = true := decide_eq_true c7
            have c7b1 : decide (7 < a0.size) = true := decide_eq_true (by omega)
            clear c7
            have H' := Aside0.mk H
            clear H
            have p5 : 0 ≤ (4 : Int) := (by omega)
            have q5 : 4 < a0.size := (by have : (4 : Int) < (a0.size : Int) := of_decide_eq_true (by first | (with_reducible assumption) | assumption); omega)
            have hx5 : ∀ h : 4 < a0.size, ((a0[4]'h).toNat : Int) = bt a0 4 := bt_at a0 4
            clear p5
            have qi5 : (4 < (a0.size : Int)) = True := eq_true (of_decide_eq_true (by first | (with_reducible assumption) | assumption))
            replace q5 := eq_true q5
            have p8 : 0 ≤ (7 : Int) := (by omega)
            have q8 : 7 < a0.size := (by have : (7 : Int) < (a0.size : Int) := of_decide_eq_true (by first | (with_reducible assumption) | assumption); omega)
            have hx8 : ∀ h : 7 < a0.size, ((a0[7]'h).toNat : Int) = bt a0 7 := bt_at a0 7
            clear p8
            have qi8 : (7 < (a0.size : Int)) = True := eq_true (of_decide_eq_true (by first | (with_reducible assumption) | assumption))
            replace q8 := eq_true q8
            go_wp2
            go_meet
            case rel => exact ⟨_, (((bt a0 7) != 45)), (by first | rfl | (simp; done) | (simp [*]; done)), H', ⟨by first | omega | exact Nat.le_refl _⟩, by repeat (first | exact Drawn0.refl _ | apply Drawn0.step)⟩
          · rw [if_neg c7] at H
            exact absurd H (by simp)
        · rw [if_neg c6] at H
          have c6b0 : ((bt a0 4) == 45) = false := beq_eq_false_iff_ne.mpr c6
          have c6b1 : ((bt a0 4) != 45) = true := bne_iff_ne.mpr c6
          have H' := Aside0.mk H
          clear H
          have p5 : 0 ≤ (4 : Int) := (by omega)
          have q5 : 4 < a0.size := (by have : (4 : Int) < (a0.size : Int) := of_decide_eq_true (by first | (with_reducible assumption) | assumption); omega)
          have hx5 : ∀ h : 4 < a0.size, ((a0[4]'h).toNat : Int) = bt a0 4 := bt_at a0 4
          clear p5
          have qi5 : (4 < (a0.size : Int)) = True := eq_true (of_decide_eq_true (by first | (with_reducible assumption) | assumption))
          replace q5 := eq_true q5
          go_wp2
          go_meet
          case rel => exact ⟨_, (true), (by first | rfl | (simp; done) | (simp [*]; done)), H', ⟨by first | omega | exact Nat.le_refl _⟩, by repeat (first | exact Drawn0.refl _ | apply Drawn0.step)⟩
      · rw [if_neg c4] at H
        exact absurd H (by simp)
    · rw [if_neg c3] at H
      have c3b0 : ((a0.size : Int) == 10) = false := beq_eq_false_iff_ne.mpr c3
      have c3b1 : ((a0.size : Int) != 10) = true := bne_iff_ne.mpr c3
      (first | rw [c3b0] | (simp only [i64_w, i32_w]; rw [c3b0]) | skip)
      have H' := Aside0.mk H
      clear H
      go_wp2
      go_meet
      case rel => exact ⟨_, (true), (by first | rfl | (simp; done) | (simp [*]; done)), H', ⟨by first | omega | exact Nat.le_refl _⟩, by repeat (first | exact Drawn0.refl _ | apply Drawn0.step)⟩
  case rest =>
    clear HC2
    try clear p2
    try clear c3
    try clear c3b0
    try clear c3b1
    try clear c4
    try clear c4b0
    try clear c4b1
    try clear c5
    try clear p5
    try clear q5
    try clear hx5
    try clear qi5
    try clear c6
    try clear c6b0
    try clear c6b1
    try clear c7
    try clear c7b0
    try clear c7b1
    try clear p8
    try clear q8
    try clear hx8
    try clear qi8
    try clear p5
    try clear p8
    try clear q5
    try clear q8
    obtain ⟨kq, x15_1, rfl, HA, HJ1, ⟨mc1, rfl⟩⟩ := hcut
    cases kq with
    | zero => exact absurd HA.out (by simp [spec_l3Get.j0])
    | succ kj1 =>
      have H := HA.out
      clear HA
      simp only [spec_l3Get.j0] at H
      by_cases c9 : x15_1 = true
      · subst c9
        have H1 : (some 0) = some r := by rw [if_pos rfl] at H; exact H
        clear H
        have H := H1
        clear H1
        obtain rfl := Option.some.inj H
        go_wp2
        go_ret
        exact ⟨by first | rfl | (simp; done) | (simp [*]; done), by repeat (first | exact Drawn0.refl _ | apply Drawn0.step)⟩
      · replace c9 := Bool.eq_false_iff.mpr c9
        subst c9
        have H1 : ((spec_l3Figs.f kj1 a0 0 4).bind fun t412 => ((spec_l3Figs.f kj1 a0 5 2).bind fun t413 => ((spec_l3Figs.f kj1 a0 8 2).bind fun t414 => ((spec_DayOf.f kj1 t412 t413 t414).bind fun t415 => (some t415))))) = some r := by rw [if_neg (show ¬ (false = true) by decide)] at H; exact H
        clear H
        have H := H1
        clear H1
        replace H := Option.bind_eq_some_iff.mp H
        obtain ⟨t412, A100, H⟩ := H
        replace H : ((spec_l3Figs.f kj1 a0 5 2).bind fun t413 => ((spec_l3Figs.f kj1 a0 8 2).bind fun t414 => ((spec_DayOf.f kj1 t412 t413 t414).bind fun t415 => (some t415)))) = some r := H
        have A10 := Aside0.mk A100
        clear A100
        replace H := Option.bind_eq_some_iff.mp H
        obtain ⟨t413, A110, H⟩ := H
        replace H : ((spec_l3Figs.f kj1 a0 8 2).bind fun t414 => ((spec_DayOf.f kj1 t412 t413 t414).bind fun t415 => (some t415))) = some r := H
        have A11 := Aside0.mk A110
        clear A110
        replace H := Option.bind_eq_some_iff.mp H
        obtain ⟨t414, A120, H⟩ := H
        replace H : ((spec_DayOf.f kj1 t412 t413 t414).bind fun t415 => (some t415)) = some r := H
        have A12 := Aside0.mk A120
        clear A120
        replace H := Option.bind_eq_some_iff.mp H
        obtain ⟨t415, A130, H⟩ := H
        replace H : (some t415) = some r := H
        have A13 := Aside0.mk A130
        clear A130
        obtain rfl := Option.some.inj H
        go_wp2_with (first | ((with_reducible refine gate_callee (f := 75) rfl ?_); refine goesL_ (some 17) rfl rfl Tryd.func75 (by kernel_rfl) rfl #[.string a0, .int .i64 0, .int .i64 4] rfl za ?_; (with_reducible refine (spec_l3Figs.calls kj1 a0 0 4 t412 _ A10.out).mono ?_); rintro e w' ⟨rfl, ⟨nd, rfl⟩⟩; refine ⟨_, rfl, ?_⟩) | ((with_reducible refine gate_callee (f := 75) rfl ?_); refine goesL_ (some 19) rfl rfl Tryd.func75 (by kernel_rfl) rfl #[.string a0, .int .i64 5, .int .i64 2] rfl za ?_; (with_reducible refine (spec_l3Figs.calls kj1 a0 5 2 t413 _ A11.out).mono ?_); rintro e w' ⟨rfl, ⟨nd, rfl⟩⟩; refine ⟨_, rfl, ?_⟩) | ((with_reducible refine gate_callee (f := 75) rfl ?_); refine goesL_ (some 21) rfl rfl Tryd.func75 (by kernel_rfl) rfl #[.string a0, .int .i64 8, .int .i64 2] rfl za ?_; (with_reducible refine (spec_l3Figs.calls kj1 a0 8 2 t414 _ A12.out).mono ?_); rintro e w' ⟨rfl, ⟨nd, rfl⟩⟩; refine ⟨_, rfl, ?_⟩) | ((with_reducible refine gate_callee (f := 74) rfl ?_); refine goesL_ (some 22) rfl rfl Tryd.func74 (by kernel_rfl) rfl #[.int .i64 t412, .int .i64 t413, .int .i64 t414] rfl za ?_; (with_reducible refine (spec_DayOf.calls kj1 t412 t413 t414 t415 _ A13.out).mono ?_); rintro e w' ⟨rfl, ⟨nd, rfl⟩⟩; refine ⟨_, rfl, ?_⟩))
        go_ret
        exact ⟨by first | rfl | (simp; done) | (simp [*]; done), by repeat (first | exact Drawn0.refl _ | apply Drawn0.step)⟩
def spec_DayGet.f (k : Nat) (a0 : ByteArray) : Option (Int × Bool) := (spec_l3Get.f k a0).bind fun t416 => (some (t416, decide (t416 > 0)))
set_option maxHeartbeats 8000000 in
set_option maxRecDepth 100000 in
theorem spec_DayGet.calls (k : Nat) (a0 : ByteArray) (r1 : Int) (r2 : Bool) (w : World) (h : spec_DayGet.f k a0 = some (r1, r2)) :
    Calls Tryd.prog 26 #[.string a0] w fun e w' => e = .returned (.tuple #[.int .i64 r1, .bool r2]) ∧ Drawn0 w w' := by
  have H : ((spec_l3Get.f k a0).bind fun t416 => (some (t416, decide (t416 > 0)))) = some (r1, r2) := h
  clear h
  replace H := Option.bind_eq_some_iff.mp H
  obtain ⟨t416, A20, H⟩ := H
  replace H : (some (t416, decide (t416 > 0))) = some (r1, r2) := H
  have A2 := Aside0.mk A20
  clear A20
  simp only [Option.some.injEq, Prod.mk.injEq] at H
  obtain ⟨rfl, rfl⟩ := H
  go_enter Tryd.func26, Tryd.ntmps26
  go_wp2_with (first | ((with_reducible refine gate_callee (f := 51) rfl ?_); refine goesL_ (some 6) rfl rfl Tryd.func51 (by kernel_rfl) rfl #[.string a0] rfl za ?_; (with_reducible refine (spec_l3Get.calls k a0 t416 _ A2.out).mono ?_); rintro e w' ⟨rfl, ⟨nd, rfl⟩⟩; refine ⟨_, rfl, ?_⟩))
  go_ret2
  exact ⟨by first | rfl | (simp; done) | (simp [*]; done), by repeat (first | exact Drawn0.refl _ | apply Drawn0.step)⟩
end Go.Proofs.YtgeloncilhighaaDoor.Pr
end
section
namespace Go.Proofs.YtgeloncilhighaaDoor.Pr
open Go.RowKit Go.Proofs.YtgeloncilhighaaDoorW.PrintWords Go.Proofs.YtgeloncilhighaaDoorW.PrintLast Go.Proofs.YtgeloncilhighaaDoor.Ext Go.Proofs.YtgeloncilhighaaDoorW.PrintMore
attribute [local go_sem] max2_int min2_int max_two min_two max_three min_three max_four min_four
set_option linter.unusedVariables false
set_option linter.unusedSimpArgs false
def spec_l14Day.f (k : Nat) (s0_0 : List Int) (s0_1 : Int) : Option (Int × Int) := (spec_l1Rd_pick.f k s0_0 s0_1 6).bind fun bt439 => (if bt439.1 = 0 then ((spec_l1Rd_one.f k s0_0 bt439.2 (([1, 2, 31, 59, 60, 3652059, 3652058, 366] : List Int))).bind fun bt444 => (some (bt444.1, bt444.2))) else (if bt439.1 = 1 then ((spec_l1Rd_one.f k s0_0 bt439.2 (([4, 1900, 2000, 2023, 2024, 2100, 9999] : List Int))).bind fun bt449 => ((spec_l1Rd_one.f k s0_0 bt449.2 (([1, 2, 2, 3, 12] : List Int))).bind fun bt454 => ((spec_l3Of.f k bt449.1 bt454.1 28).bind fun t456 => (some (t456, bt454.2))))) else (if bt439.1 = 2 then ((spec_l1Rd_one.f k s0_0 bt439.2 (([4, 2000, 2024, 9996] : List Int))).bind fun bt460 => ((spec_l3Of.f k bt460.1 2 29).bind fun t462 => (some (t462, bt460.2)))) else (if bt439.1 = 3 then ((spec_l1Rd_one.f k s0_0 bt439.2 (([1, 2023, 2024, 9999] : List Int))).bind fun bt466 => ((spec_l1Rd_one.f k s0_0 bt466.2 (([1, 3, 5, 8, 10, 12] : List Int))).bind fun bt471 => ((spec_l3Of.f k bt466.1 bt471.1 31).bind fun t473 => (some (t473, bt471.2))))) else ((spec_l1Rd_pick.f k s0_0 bt439.2 8).bind fun bt474 => ((spec_l1Rd_pick.f k s0_0 bt474.2 12).bind fun bt476 => ((spec_l1Rd_pick.f k s0_0 bt476.2 28).bind fun bt478 => ((spec_l3Of.f k (wrap64 (2020 + bt474.1)) (wrap64 (1 + bt476.1)) (wrap64 (1 + bt478.1))).bind fun t480 => (some (t480, bt478.2))))))))))
set_option maxHeartbeats 8000000 in
set_option maxRecDepth 100000 in
theorem spec_l14Day.calls (k : Nat) (g : Nat) (s0_0 : List Int) (s0_1 : Int) (r1 : Int) (r2 : Int) (w0 w : World) (hI : IsS79 w0 w g s0_0 s0_1) (hB : Below w0.heap.size w0 w) (h : spec_l14Day.f k s0_0 s0_1 = some (r1, r2)) :
    Calls Tryd.prog 55 #[.pointer (some ⟨g, 0, none⟩)] w fun e w' => e = .returned (.int .i64 r1) ∧ IsS79 w0 w' g s0_0 r2 ∧ Below w0.heap.size w0 w' ∧ KeepBut w w' g none := by
  have HI0 := Aside0.mk hI
  have HK := Aside0.mk (KeepBut.refl w g none)
  have HL := Aside0.mk hB.size
  clear hI
  have HW0 := Aside0.mk hB.size
  have HB := Aside0.mk hB
  clear hB
  have H : ((spec_l1Rd_pick.f k s0_0 s0_1 6).bind fun bt439 => (if bt439.1 = 0 then ((spec_l1Rd_one.f k s0_0 bt439.2 (([1, 2, 31, 59, 60, 3652059, 3652058, 366] : List Int))).bind fun bt444 => (some (bt444.1, bt444.2))) else (if bt439.1 = 1 then ((spec_l1Rd_one.f k s0_0 bt439.2 (([4, 1900, 2000, 2023, 2024, 2100, 9999] : List Int))).bind fun bt449 => ((spec_l1Rd_one.f k s0_0 bt449.2 (([1, 2, 2, 3, 12] : List Int))).bind fun bt454 => ((spec_l3Of.f k bt449.1 bt454.1 28).bind fun t456 => (some (t456, bt454.2))))) else (if bt439.1 = 2 then ((spec_l1Rd_one.f k s0_0 bt439.2 (([4, 2000, 2024, 9996] : List Int))).bind fun bt460 => ((spec_l3Of.f k bt460.1 2 29).bind fun t462 => (some (t462, bt460.2)))) else (if bt439.1 = 3 then ((spec_l1Rd_one.f k s0_0 bt439.2 (([1, 2023, 2024, 9999] : List Int))).bind fun bt466 => ((spec_l1Rd_one.f k s0_0 bt466.2 (([1, 3, 5, 8, 10, 12] : List Int))).bind fun bt471 => ((spec_l3Of.f k bt466.1 bt471.1 31).bind fun t473 => (some (t473, bt471.2))))) else ((spec_l1Rd_pick.f k s0_0 bt439.2 8).bind fun bt474 => ((spec_l1Rd_pick.f k s0_0 bt474.2 12).bind fun bt476 => ((spec_l1Rd_pick.f k s0_0 bt476.2 28).bind fun bt478 => ((spec_l3Of.f k (wrap64 (2020 + bt474.1)) (wrap64 (1 + bt476.1)) (wrap64 (1 + bt478.1))).bind fun t480 => (some (t480, bt478.2))))))))))) = some (r1, r2) := h
  clear h
  replace H := Option.bind_eq_some_iff.mp H
  obtain ⟨⟨t439, t440⟩, A20, H⟩ := H
  replace H : (if t439 = 0 then ((spec_l1Rd_one.f k s0_0 t440 (([1, 2, 31, 59, 60, 3652059, 3652058, 366] : List Int))).bind fun bt444 => (some (bt444.1, bt444.2))) else (if t439 = 1 then ((spec_l1Rd_one.f k s0_0 t440 (([4, 1900, 2000, 2023, 2024, 2100, 9999] : List Int))).bind fun bt449 => ((spec_l1Rd_one.f k s0_0 bt449.2 (([1, 2, 2, 3, 12] : List Int))).bind fun bt454 => ((spec_l3Of.f k bt449.1 bt454.1 28).bind fun t456 => (some (t456, bt454.2))))) else (if t439 = 2 then ((spec_l1Rd_one.f k s0_0 t440 (([4, 2000, 2024, 9996] : List Int))).bind fun bt460 => ((spec_l3Of.f k bt460.1 2 29).bind fun t462 => (some (t462, bt460.2)))) else (if t439 = 3 then ((spec_l1Rd_one.f k s0_0 t440 (([1, 2023, 2024, 9999] : List Int))).bind fun bt466 => ((spec_l1Rd_one.f k s0_0 bt466.2 (([1, 3, 5, 8, 10, 12] : List Int))).bind fun bt471 => ((spec_l3Of.f k bt466.1 bt471.1 31).bind fun t473 => (some (t473, bt471.2))))) else ((spec_l1Rd_pick.f k s0_0 t440 8).bind fun bt474 => ((spec_l1Rd_pick.f k s0_0 bt474.2 12).bind fun bt476 => ((spec_l1Rd_pick.f k s0_0 bt476.2 28).bind fun bt478 => ((spec_l3Of.f k (wrap64 (2020 + bt474.1)) (wrap64 (1 + bt476.1)) (wrap64 (1 + bt478.1))).bind fun t480 => (some (t480, bt478.2)))))))))) = some (r1, r2) := H
  have A2 := Aside0.mk A20
  clear A20
  by_cases c3 : t439 = 0
  · rw [if_pos c3] at H
    have c3b0 : (t439 == 0) = true := beq_iff_eq.mpr c3
    have c3b1 : (t439 != 0) = false := bne_eq_false_iff_eq.mpr c3
    clear c3
    obtain ⟨y441, hy441⟩ : ∃ y_ : List Int, y_ = (([1, 2, 31, 59, 60, 3652059, 3652058, 366] : List Int)) := ⟨_, rfl⟩
    replace H : ((spec_l1Rd_one.f k s0_0 t440 y441).bind fun bt444 => (some (bt444.1, bt444.2))) = some (r1, r2) := by first | (rw [hy441]; with_reducible exact H) | (have H2_ := (Option.bind_some _ _).symm.trans H; rw [hy441]; with_reducible exact H2_) | (have H2_ := (Option.bind_some _ _).symm.trans H; with_reducible exact H2_) | with_reducible exact H | (rw [hy441]; exact H) | exact H
    have Ny441 := Aside0.mk hy441
    clear hy441
    replace H := Option.bind_eq_some_iff.mp H
    obtain ⟨⟨t444, t445⟩, A40, H⟩ := H
    replace H : (some (t444, t445)) = some (r1, r2) := H
    have A4 := Aside0.mk A40
    clear A40
    simp only [Option.some.injEq, Prod.mk.injEq] at H
    obtain ⟨rfl, rfl⟩ := H
    go_enter Tryd.func55, Tryd.ntmps55
    go_wp2_with (first | ((with_reducible refine gate_callee (f := 47) rfl ?_); refine goesL_ (some 4) rfl rfl Tryd.func47 (by kernel_rfl) rfl #[.pointer (some ⟨g, 0, none⟩), .int .i64 6] rfl za ?_; (with_reducible refine (spec_l1Rd_pick.calls k g s0_0 s0_1 6 t439 t440 w0 _ ?side1 ?side2 A2.out).mono ?_); (case side1 => repeat (first | (with_reducible first | exact HI0.out | apply IsS79.alloc | apply IsS79.drewN | apply IsS79.drew | apply IsS79.set_1) | exact HI0.out)); (case side2 => repeat (first | (with_reducible first | exact HB.out | apply below_alloc | apply pw_below_drewN | apply below_drew1 | refine below_set ?_ (IsS79.ge HI0.out)) | exact HB.out)); rintro e w5 ⟨rfl, hi, hb, hk⟩; refine ⟨_, rfl, ?_⟩; have n0_ := Aside0.mk (KeepBut.trans (by repeat (first | (with_reducible first | exact HK.out | apply KeepBut.set_ | apply keep_drewN | apply keep_drew | apply keep_alloc) | exact HK.out)) hk (.inl rfl)); have n1_ := Aside0.mk (hb); have n2_ := Aside0.mk (hi); clear HK; clear HB; clear HI0; have HK := n0_; have HB := n1_; have HI0 := n2_; clear n0_ n1_ n2_; (try clear hb); (try clear hb2); (try clear hk); (try clear hi)) | ((with_reducible refine gate_dst (N := 8) rfl ?_); refine Kd.R_lit (Kd.int .i64) _ 3 ?hg (N := 8) ?hd (xs := ([1, 2, 31, 59, 60, 3652059, 3652058, 366] : List Int)) (inner := [.int .i64 1, .int .i64 2, .int .i64 31, .int .i64 59, .int .i64 60, .int .i64 3652059, .int .i64 3652058, .int .i64 366]) (ok := fun _ => True) (okp := fun _ => True) ?hr ?hp (fun _ hk => hk) trivial (Below.refl _ _) (Nat.le_refl _) (by simp) ?_; (case hd => rfl); (case hg => rfl); (case hr => first | (go_simp; done) | (go_simp; rfl)); (case hp => exact (Reps.one (show Kd.M (Kd.int .i64) _ _ _ 1 [.int .i64 1] from rfl) (Reps.one (show Kd.M (Kd.int .i64) _ _ _ 2 [.int .i64 2] from rfl) (Reps.one (show Kd.M (Kd.int .i64) _ _ _ 31 [.int .i64 31] from rfl) (Reps.one (show Kd.M (Kd.int .i64) _ _ _ 59 [.int .i64 59] from rfl) (Reps.one (show Kd.M (Kd.int .i64) _ _ _ 60 [.int .i64 60] from rfl) (Reps.one (show Kd.M (Kd.int .i64) _ _ _ 3652059 [.int .i64 3652059] from rfl) (Reps.one (show Kd.M (Kd.int .i64) _ _ _ 3652058 [.int .i64 3652058] from rfl) (Reps.one (show Kd.M (Kd.int .i64) _ _ _ 366 [.int .i64 366] from rfl) (Reps.none _ _)))))))))); intro v442 w6 ho7 hb hg_ hnew_; clear hg_ hnew_; (first | rw [← Ny441.out] at ho7 | (simp only [Int.reduceToNat] at ho7; rw [← Ny441.out] at ho7)); have n0_ := Aside0.mk (Kd.R_lower ho7 (keep_size (w := w) (g := g) (row := none) (by repeat (first | (with_reducible first | exact HK.out | apply KeepBut.set_ | apply keep_drewN | apply keep_drew | apply keep_alloc) | exact HK.out)))); have n1_ := Aside0.mk (IsS79.below (by repeat (first | (with_reducible first | exact HI0.out | apply IsS79.alloc | apply IsS79.drewN | apply IsS79.drew | apply IsS79.set_1) | exact HI0.out)) hb); have n2_ := Aside0.mk (KeepBut.trans (by repeat (first | (with_reducible first | exact HK.out | apply KeepBut.set_ | apply keep_drewN | apply keep_drew | apply keep_alloc) | exact HK.out)) (KeepBut.of_below hb g none) (.inl rfl)); have n3_ := Aside0.mk (below_step (by repeat (first | (with_reducible first | exact HB.out | apply below_alloc | apply pw_below_drewN | apply below_drew1 | refine below_set ?_ (IsS79.ge HI0.out)) | exact HB.out)) hb); clear HI0; clear HK; clear HB; have HO443 := n0_; have HI0 := n1_; have HK := n2_; have HB := n3_; clear n0_ n1_ n2_ n3_; clear hb ho7; obtain ⟨Ao8, co8, eo8⟩ := Kd.R_slice HO443.out; subst eo8) | ((with_reducible refine gate_callee (f := 73) rfl ?_); refine goesL_ (some 9) rfl rfl Tryd.func73 (by kernel_rfl) rfl #[.pointer (some ⟨g, 0, none⟩), .slice Ao8 y441.length co8] rfl za ?_; (with_reducible refine (spec_l1Rd_one.calls k g s0_0 t440 _ _ y441 t444 t445 w0 _ ?side1 ?side2 ?side3 ?side4 ?side5 A4.out).mono ?_); (case side1 => repeat (first | (with_reducible first | exact HI0.out | apply IsS79.alloc | apply IsS79.drewN | apply IsS79.drew | apply IsS79.set_1) | exact HI0.out)); (case side2 => repeat (first | (with_reducible first | exact HB.out | apply below_alloc | apply pw_below_drewN | apply below_drew1 | refine below_set ?_ (IsS79.ge HI0.out)) | exact HB.out)); (case side3 => repeat (first | exact (Kd.R_reads' HO443.out).2.2 | (with_reducible refine Kd.C_alloc ?_ _) | (with_reducible refine Kd.C_drewN ?_ _) | (with_reducible refine Kd.C_drew ?_))); (case side4 => exact (Kd.R_reads' HO443.out).2.1); (case side5 => exact far_slice (IsS79.own_ne HI0.out HO443.out (by decide))); rintro e w9 ⟨rfl, hi, hb, hk⟩; refine ⟨_, rfl, ?_⟩; have n0_ := Aside0.mk (Kd.R_mono (Kd.R_keep (IsS79.apart (show IsS79 w0 _ g s0_0 t440 from by repeat (first | (with_reducible first | exact HI0.out | apply IsS79.alloc | apply IsS79.drewN | apply IsS79.drew | apply IsS79.set_1) | exact HI0.out)) (zR HO443.out) (by decide)) hk (fun _ h => h.2)) (fun _ h => h.1)); have n1_ := Aside0.mk (KeepBut.trans (by repeat (first | (with_reducible first | exact HK.out | apply KeepBut.set_ | apply keep_drewN | apply keep_drew | apply keep_alloc) | exact HK.out)) hk (.inl rfl)); have n2_ := Aside0.mk (hb); have n3_ := Aside0.mk (hi); clear HO443; clear HK; clear HB; clear HI0; have HO443 := n0_; have HK := n1_; have HB := n2_; have HI0 := n3_; clear n0_ n1_ n2_ n3_; (try clear hb); (try clear hb2); (try clear hk); (try clear hi)))
    go_ret
    exact ⟨by first | rfl | (simp [errW_none, errW_some] <;> rfl) | (simp [*, errW_none, errW_some] <;> rfl), by repeat (first | (with_reducible first | exact HI0.out | apply IsS79.alloc | apply IsS79.drewN | apply IsS79.drew | apply IsS79.set_1) | exact HI0.out), by repeat (first | (with_reducible first | exact HB.out | apply below_alloc | apply pw_below_drewN | apply below_drew1 | refine below_set ?_ (IsS79.ge HI0.out)) | exact HB.out), by repeat (first | (with_reducible first | exact HK.out | apply KeepBut.set_ | apply keep_drewN | apply keep_drew | apply keep_alloc) | exact HK.out)⟩
  · rw [if_neg c3] at H
    have c3b0 : (t439 == 0) = false := beq_eq_false_iff_ne.mpr c3
    have c3b1 : (t439 != 0) = true := bne_iff_ne.mpr c3
    by_cases c10 : t439 = 1
    · rw [if_pos c10] at H
      have c10b0 : (t439 == 1) = true := beq_iff_eq.mpr c10
      have c10b1 : (t439 != 1) = false := bne_eq_false_iff_eq.mpr c10
      clear c10
      obtain ⟨y446, hy446⟩ : ∃ y_ : List Int, y_ = (([4, 1900, 2000, 2023, 2024, 2100, 9999] : List Int)) := ⟨_, rfl⟩
      replace H : ((spec_l1Rd_one.f k s0_0 t440 y446).bind fun bt449 => ((spec_l1Rd_one.f k s0_0 bt449.2 (([1, 2, 2, 3, 12] : List Int))).bind fun bt454 => ((spec_l3Of.f k bt449.1 bt454.1 28).bind fun t456 => (some (t456, bt454.2))))) = some (r1, r2) := by first | (rw [hy446]; with_reducible exact H) | (have H2_ := (Option.bind_some _ _).symm.trans H; rw [hy446]; with_reducible exact H2_) | (have H2_ := (Option.bind_some _ _).symm.trans H; with_reducible exact H2_) | with_reducible exact H | (rw [hy446]; exact H) | exact H
      have Ny446 := Aside0.mk hy446
      clear hy446
      replace H := Option.bind_eq_some_iff.mp H
      obtain ⟨⟨t449, t450⟩, A110, H⟩ := H
      replace H : ((spec_l1Rd_one.f k s0_0 t450 (([1, 2, 2, 3, 12] : List Int))).bind fun bt454 => ((spec_l3Of.f k t449 bt454.1 28).bind fun t456 => (some (t456, bt454.2)))) = some (r1, r2) := H
      have A11 := Aside0.mk A110
      clear A110
      obtain ⟨y451, hy451⟩ : ∃ y_ : List Int, y_ = (([1, 2, 2, 3, 12] : List Int)) := ⟨_, rfl⟩
      replace H : ((spec_l1Rd_one.f k s0_0 t450 y451).bind fun bt454 => ((spec_l3Of.f k t449 bt454.1 28).bind fun t456 => (some (t456, bt454.2)))) = some (r1, r2) := by first | (rw [hy451]; with_reducible exact H) | (have H2_ := (Option.bind_some _ _).symm.trans H; rw [hy451]; with_reducible exact H2_) | (have H2_ := (Option.bind_some _ _).symm.trans H; with_reducible exact H2_) | with_reducible exact H | (rw [hy451]; exact H) | exact H
      have Ny451 := Aside0.mk hy451
      clear hy451
      replace H := Option.bind_eq_some_iff.mp H
      obtain ⟨⟨t454, t455⟩, A120, H⟩ := H
      replace H : ((spec_l3Of.f k t449 t454 28).bind fun t456 => (some (t456, t455))) = some (r1, r2) := H
      have A12 := Aside0.mk A120
      clear A120
      replace H := Option.bind_eq_some_iff.mp H
      obtain ⟨t456, A130, H⟩ := H
      replace H : (some (t456, t455)) = some (r1, r2) := H
      have A13 := Aside0.mk A130
      clear A130
      simp only [Option.some.injEq, Prod.mk.injEq] at H
      obtain ⟨rfl, rfl⟩ := H
      go_enter Tryd.func55, Tryd.ntmps55
      go_wp2_with (first | ((with_reducible refine gate_callee (f := 47) rfl ?_); refine goesL_ (some 4) rfl rfl Tryd.func47 (by kernel_rfl) rfl #[.pointer (some ⟨g, 0, none⟩), .int .i64 6] rfl za ?_; (with_reducible refine (spec_l1Rd_pick.calls k g s0_0 s0_1 6 t439 t440 w0 _ ?side1 ?side2 A2.out).mono ?_); (case side1 => repeat (first | (with_reducible first | exact HI0.out | apply IsS79.alloc | apply IsS79.drewN | apply IsS79.drew | apply IsS79.set_1) | exact HI0.out)); (case side2 => repeat (first | (with_reducible first | exact HB.out | apply below_alloc | apply pw_below_drewN | apply below_drew1 | refine below_set ?_ (IsS79.ge HI0.out)) | exact HB.out)); rintro e w14 ⟨rfl, hi, hb, hk⟩; refine ⟨_, rfl, ?_⟩; have n0_ := Aside0.mk (KeepBut.trans (by repeat (first | (with_reducible first | exact HK.out | apply KeepBut.set_ | apply keep_drewN | apply keep_drew | apply keep_alloc) | exact HK.out)) hk (.inl rfl)); have n1_ := Aside0.mk (hb); have n2_ := Aside0.mk (hi); clear HK; clear HB; clear HI0; have HK := n0_; have HB := n1_; have HI0 := n2_; clear n0_ n1_ n2_; (try clear hb); (try clear hb2); (try clear hk); (try clear hi)) | ((with_reducible refine gate_dst (N := 13) rfl ?_); refine Kd.R_lit (Kd.int .i64) _ 3 ?hg (N := 13) ?hd (xs := ([4, 1900, 2000, 2023, 2024, 2100, 9999] : List Int)) (inner := [.int .i64 4, .int .i64 1900, .int .i64 2000, .int .i64 2023, .int .i64 2024, .int .i64 2100, .int .i64 9999]) (ok := fun _ => True) (okp := fun _ => True) ?hr ?hp (fun _ hk => hk) trivial (Below.refl _ _) (Nat.le_refl _) (by simp) ?_; (case hd => rfl); (case hg => rfl); (case hr => first | (go_simp; done) | (go_simp; rfl)); (case hp => exact (Reps.one (show Kd.M (Kd.int .i64) _ _ _ 4 [.int .i64 4] from rfl) (Reps.one (show Kd.M (Kd.int .i64) _ _ _ 1900 [.int .i64 1900] from rfl) (Reps.one (show Kd.M (Kd.int .i64) _ _ _ 2000 [.int .i64 2000] from rfl) (Reps.one (show Kd.M (Kd.int .i64) _ _ _ 2023 [.int .i64 2023] from rfl) (Reps.one (show Kd.M (Kd.int .i64) _ _ _ 2024 [.int .i64 2024] from rfl) (Reps.one (show Kd.M (Kd.int .i64) _ _ _ 2100 [.int .i64 2100] from rfl) (Reps.one (show Kd.M (Kd.int .i64) _ _ _ 9999 [.int .i64 9999] from rfl) (Reps.none _ _))))))))); intro v447 w15 ho16 hb hg_ hnew_; clear hg_ hnew_; (first | rw [← Ny446.out] at ho16 | (simp only [Int.reduceToNat] at ho16; rw [← Ny446.out] at ho16)); have n0_ := Aside0.mk (Kd.R_lower ho16 (keep_size (w := w) (g := g) (row := none) (by repeat (first | (with_reducible first | exact HK.out | apply KeepBut.set_ | apply keep_drewN | apply keep_drew | apply keep_alloc) | exact HK.out)))); have n1_ := Aside0.mk (IsS79.below (by repeat (first | (with_reducible first | exact HI0.out | apply IsS79.alloc | apply IsS79.drewN | apply IsS79.drew | apply IsS79.set_1) | exact HI0.out)) hb); have n2_ := Aside0.mk (KeepBut.trans (by repeat (first | (with_reducible first | exact HK.out | apply KeepBut.set_ | apply keep_drewN | apply keep_drew | apply keep_alloc) | exact HK.out)) (KeepBut.of_below hb g none) (.inl rfl)); have n3_ := Aside0.mk (below_step (by repeat (first | (with_reducible first | exact HB.out | apply below_alloc | apply pw_below_drewN | apply below_drew1 | refine below_set ?_ (IsS79.ge HI0.out)) | exact HB.out)) hb); clear HI0; clear HK; clear HB; have HO448 := n0_; have HI0 := n1_; have HK := n2_; have HB := n3_; clear n0_ n1_ n2_ n3_; clear hb ho16; obtain ⟨Ao17, co17, eo17⟩ := Kd.R_slice HO448.out; subst eo17) | ((with_reducible refine gate_callee (f := 73) rfl ?_); refine goesL_ (some 14) rfl rfl Tryd.func73 (by kernel_rfl) rfl #[.pointer (some ⟨g, 0, none⟩), .slice Ao17 y446.length co17] rfl za ?_; (with_reducible refine (spec_l1Rd_one.calls k g s0_0 t440 _ _ y446 t449 t450 w0 _ ?side1 ?side2 ?side3 ?side4 ?side5 A11.out).mono ?_); (case side1 => repeat (first | (with_reducible first | exact HI0.out | apply IsS79.alloc | apply IsS79.drewN | apply IsS79.drew | apply IsS79.set_1) | exact HI0.out)); (case side2 => repeat (first | (with_reducible first | exact HB.out | apply below_alloc | apply pw_below_drewN | apply below_drew1 | refine below_set ?_ (IsS79.ge HI0.out)) | exact HB.out)); (case side3 => repeat (first | exact (Kd.R_reads' HO448.out).2.2 | (with_reducible refine Kd.C_alloc ?_ _) | (with_reducible refine Kd.C_drewN ?_ _) | (with_reducible refine Kd.C_drew ?_))); (case side4 => exact (Kd.R_reads' HO448.out).2.1); (case side5 => exact far_slice (IsS79.own_ne HI0.out HO448.out (by decide))); rintro e w18 ⟨rfl, hi, hb, hk⟩; refine ⟨_, rfl, ?_⟩; have n0_ := Aside0.mk (Kd.R_mono (Kd.R_keep (IsS79.apart (show IsS79 w0 _ g s0_0 t440 from by repeat (first | (with_reducible first | exact HI0.out | apply IsS79.alloc | apply IsS79.drewN | apply IsS79.drew | apply IsS79.set_1) | exact HI0.out)) (zR HO448.out) (by decide)) hk (fun _ h => h.2)) (fun _ h => h.1)); have n1_ := Aside0.mk (KeepBut.trans (by repeat (first | (with_reducible first | exact HK.out | apply KeepBut.set_ | apply keep_drewN | apply keep_drew | apply keep_alloc) | exact HK.out)) hk (.inl rfl)); have n2_ := Aside0.mk (hb); have n3_ := Aside0.mk (hi); clear HO448; clear HK; clear HB; clear HI0; have HO448 := n0_; have HK := n1_; have HB := n2_; have HI0 := n3_; clear n0_ n1_ n2_ n3_; (try clear hb); (try clear hb2); (try clear hk); (try clear hi)) | ((with_reducible refine gate_dst (N := 16) rfl ?_); refine Kd.R_lit (Kd.int .i64) _ 3 ?hg (N := 16) ?hd (xs := ([1, 2, 2, 3, 12] : List Int)) (inner := [.int .i64 1, .int .i64 2, .int .i64 2, .int .i64 3, .int .i64 12]) (ok := fun _ => True) (okp := fun _ => True) ?hr ?hp (fun _ hk => hk) trivial (Below.refl _ _) (Nat.le_refl _) (by simp) ?_; (case hd => rfl); (case hg => rfl); (case hr => first | (go_simp; done) | (go_simp; rfl)); (case hp => exact (Reps.one (show Kd.M (Kd.int .i64) _ _ _ 1 [.int .i64 1] from rfl) (Reps.one (show Kd.M (Kd.int .i64) _ _ _ 2 [.int .i64 2] from rfl) (Reps.one (show Kd.M (Kd.int .i64) _ _ _ 2 [.int .i64 2] from rfl) (Reps.one (show Kd.M (Kd.int .i64) _ _ _ 3 [.int .i64 3] from rfl) (Reps.one (show Kd.M (Kd.int .i64) _ _ _ 12 [.int .i64 12] from rfl) (Reps.none _ _))))))); intro v452 w19 ho20 hb hg_ hnew_; clear hg_ hnew_; (first | rw [← Ny451.out] at ho20 | (simp only [Int.reduceToNat] at ho20; rw [← Ny451.out] at ho20)); have n0_ := Aside0.mk (Kd.R_elder' (zR HO448.out) (Kd.R_base ho20) hb); have n1_ := Aside0.mk (Kd.R_lower (Kd.R_new' ho20 (Kd.R_lt (zR HO448.out))) (keep_size (w := w) (g := g) (row := none) (by repeat (first | (with_reducible first | exact HK.out | apply KeepBut.set_ | apply keep_drewN | apply keep_drew | apply keep_alloc) | exact HK.out)))); have n2_ := Aside0.mk (IsS79.below (by repeat (first | (with_reducible first | exact HI0.out | apply IsS79.alloc | apply IsS79.drewN | apply IsS79.drew | apply IsS79.set_1) | exact HI0.out)) hb); have n3_ := Aside0.mk (KeepBut.trans (by repeat (first | (with_reducible first | exact HK.out | apply KeepBut.set_ | apply keep_drewN | apply keep_drew | apply keep_alloc) | exact HK.out)) (KeepBut.of_below hb g none) (.inl rfl)); have n4_ := Aside0.mk (below_step (by repeat (first | (with_reducible first | exact HB.out | apply below_alloc | apply pw_below_drewN | apply below_drew1 | refine below_set ?_ (IsS79.ge HI0.out)) | exact HB.out)) hb); clear HO448; clear HI0; clear HK; clear HB; have HO448 := n0_; have HO453 := n1_; have HI0 := n2_; have HK := n3_; have HB := n4_; clear n0_ n1_ n2_ n3_ n4_; clear hb ho20; obtain ⟨Ao21, co21, eo21⟩ := Kd.R_slice HO453.out; subst eo21) | ((with_reducible refine gate_callee (f := 73) rfl ?_); refine goesL_ (some 17) rfl rfl Tryd.func73 (by kernel_rfl) rfl #[.pointer (some ⟨g, 0, none⟩), .slice Ao21 y451.length co21] rfl za ?_; (with_reducible refine (spec_l1Rd_one.calls k g s0_0 t450 _ _ y451 t454 t455 w0 _ ?side1 ?side2 ?side3 ?side4 ?side5 A12.out).mono ?_); (case side1 => repeat (first | (with_reducible first | exact HI0.out | apply IsS79.alloc | apply IsS79.drewN | apply IsS79.drew | apply IsS79.set_1) | exact HI0.out)); (case side2 => repeat (first | (with_reducible first | exact HB.out | apply below_alloc | apply pw_below_drewN | apply below_drew1 | refine below_set ?_ (IsS79.ge HI0.out)) | exact HB.out)); (case side3 => repeat (first | exact (Kd.R_reads' HO453.out).2.2 | (with_reducible refine Kd.C_alloc ?_ _) | (with_reducible refine Kd.C_drewN ?_ _) | (with_reducible refine Kd.C_drew ?_))); (case side4 => exact (Kd.R_reads' HO453.out).2.1); (case side5 => exact far_slice (IsS79.own_ne HI0.out HO453.out (by decide))); rintro e w22 ⟨rfl, hi, hb, hk⟩; refine ⟨_, rfl, ?_⟩; have n0_ := Aside0.mk (Kd.R_mono (Kd.R_keep (IsS79.apart (show IsS79 w0 _ g s0_0 t450 from by repeat (first | (with_reducible first | exact HI0.out | apply IsS79.alloc | apply IsS79.drewN | apply IsS79.drew | apply IsS79.set_1) | exact HI0.out)) (zR HO448.out) (by decide)) hk (fun _ h => h.2)) (fun _ h => h.1)); have n1_ := Aside0.mk (Kd.R_mono (Kd.R_keep (IsS79.apart (show IsS79 w0 _ g s0_0 t450 from by repeat (first | (with_reducible first | exact HI0.out | apply IsS79.alloc | apply IsS79.drewN | apply IsS79.drew | apply IsS79.set_1) | exact HI0.out)) (zR HO453.out) (by decide)) hk (fun _ h => h.2)) (fun _ h => h.1)); have n2_ := Aside0.mk (KeepBut.trans (by repeat (first | (with_reducible first | exact HK.out | apply KeepBut.set_ | apply keep_drewN | apply keep_drew | apply keep_alloc) | exact HK.out)) hk (.inl rfl)); have n3_ := Aside0.mk (hb); have n4_ := Aside0.mk (hi); clear HO448; clear HO453; clear HK; clear HB; clear HI0; have HO448 := n0_; have HO453 := n1_; have HK := n2_; have HB := n3_; have HI0 := n4_; clear n0_ n1_ n2_ n3_ n4_; (try clear hb); (try clear hb2); (try clear hk); (try clear hi)) | ((with_reducible refine gate_callee (f := 77) rfl ?_); refine goesL_ (some 18) rfl rfl Tryd.func77 (by kernel_rfl) rfl #[.int .i64 t449, .int .i64 t454, .int .i64 28] rfl za ?_; (with_reducible refine (spec_l3Of.calls k t449 t454 28 t456 _ A13.out).mono ?_); rintro e w' ⟨rfl, ⟨nd, rfl⟩⟩; refine ⟨_, rfl, ?_⟩))
      go_ret
      exact ⟨by first | rfl | (simp [errW_none, errW_some] <;> rfl) | (simp [*, errW_none, errW_some] <;> rfl), by repeat (first | (with_reducible first | exact HI0.out | apply IsS79.alloc | apply IsS79.drewN | apply IsS79.drew | apply IsS79.set_1) | exact HI0.out), by repeat (first | (with_reducible first | exact HB.out | apply below_alloc | apply pw_below_drewN | apply below_drew1 | refine below_set ?_ (IsS79.ge HI0.out)) | exact HB.out), by repeat (first | (with_reducible first | exact HK.out | apply KeepBut.set_ | apply keep_drewN | apply keep_drew | apply keep_alloc) | exact HK.out)⟩
    · rw [if_neg c10] at H
      have c10b0 : (t439 == 1) = false := beq_eq_false_iff_ne.mpr c10
      have c10b1 : (t439 != 1) = true := bne_iff_ne.mpr c10
      by_cases c23 : t439 = 2
      · rw [if_pos c23] at H
        have c23b0 : (t439 == 2) = true := beq_iff_eq.mpr c23
        have c23b1 : (t439 != 2) = false := bne_eq_false_iff_eq.mpr c23
        clear c23
        obtain ⟨y457, hy457⟩ : ∃ y_ : List Int, y_ = (([4, 2000, 2024, 9996] : List Int)) := ⟨_, rfl⟩
        replace H : ((spec_l1Rd_one.f k s0_0 t440 y457).bind fun bt460 => ((spec_l3Of.f k bt460.1 2 29).bind fun t462 => (some (t462, bt460.2)))) = some (r1, r2) := by first | (rw [hy457]; with_reducible exact H) | (have H2_ := (Option.bind_some _ _).symm.trans H; rw [hy457]; with_reducible exact H2_) | (have H2_ := (Option.bind_some _ _).symm.trans H; with_reducible exact H2_) | with_reducible exact H | (rw [hy457]; exact H) | exact H
        have Ny457 := Aside0.mk hy457
        clear hy457
        replace H := Option.bind_eq_some_iff.mp H
        obtain ⟨⟨t460, t461⟩, A240, H⟩ := H
        replace H : ((spec_l3Of.f k t460 2 29).bind fun t462 => (some (t462, t461))) = some (r1, r2) := H
        have A24 := Aside0.mk A240
        clear A240
        replace H := Option.bind_eq_some_iff.mp H
        obtain ⟨t462, A250, H⟩ := H
        replace H : (some (t462, t461)) = some (r1, r2) := H
        have A25 := Aside0.mk A250
        clear A250
        simp only [Option.some.injEq, Prod.mk.injEq] at H
        obtain ⟨rfl, rfl⟩ := H
        go_enter Tryd.func55, Tryd.ntmps55
        go_wp2_with (first | ((with_reducible refine gate_callee (f := 47) rfl ?_); refine goesL_ (some 4) rfl rfl Tryd.func47 (by kernel_rfl) rfl #[.pointer (some ⟨g, 0, none⟩), .int .i64 6] rfl za ?_; (with_reducible refine (spec_l1Rd_pick.calls k g s0_0 s0_1 6 t439 t440 w0 _ ?side1 ?side2 A2.out).mono ?_); (case side1 => repeat (first | (with_reducible first | exact HI0.out | apply IsS79.alloc | apply IsS79.drewN | apply IsS79.drew | apply IsS79.set_1) | exact HI0.out)); (case side2 => repeat (first | (with_reducible first | exact HB.out | apply below_alloc | apply pw_below_drewN | apply below_drew1 | refine below_set ?_ (IsS79.ge HI0.out)) | exact HB.out)); rintro e w26 ⟨rfl, hi, hb, hk⟩; refine ⟨_, rfl, ?_⟩; have n0_ := Aside0.mk (KeepBut.trans (by repeat (first | (with_reducible first | exact HK.out | apply KeepBut.set_ | apply keep_drewN | apply keep_drew | apply keep_alloc) | exact HK.out)) hk (.inl rfl)); have n1_ := Aside0.mk (hb); have n2_ := Aside0.mk (hi); clear HK; clear HB; clear HI0; have HK := n0_; have HB := n1_; have HI0 := n2_; clear n0_ n1_ n2_; (try clear hb); (try clear hb2); (try clear hk); (try clear hi)) | ((with_reducible refine gate_dst (N := 22) rfl ?_); refine Kd.R_lit (Kd.int .i64) _ 3 ?hg (N := 22) ?hd (xs := ([4, 2000, 2024, 9996] : List Int)) (inner := [.int .i64 4, .int .i64 2000, .int .i64 2024, .int .i64 9996]) (ok := fun _ => True) (okp := fun _ => True) ?hr ?hp (fun _ hk => hk) trivial (Below.refl _ _) (Nat.le_refl _) (by simp) ?_; (case hd => rfl); (case hg => rfl); (case hr => first | (go_simp; done) | (go_simp; rfl)); (case hp => exact (Reps.one (show Kd.M (Kd.int .i64) _ _ _ 4 [.int .i64 4] from rfl) (Reps.one (show Kd.M (Kd.int .i64) _ _ _ 2000 [.int .i64 2000] from rfl) (Reps.one (show Kd.M (Kd.int .i64) _ _ _ 2024 [.int .i64 2024] from rfl) (Reps.one (show Kd.M (Kd.int .i64) _ _ _ 9996 [.int .i64 9996] from rfl) (Reps.none _ _)))))); intro v458 w27 ho28 hb hg_ hnew_; clear hg_ hnew_; (first | rw [← Ny457.out] at ho28 | (simp only [Int.reduceToNat] at ho28; rw [← Ny457.out] at ho28)); have n0_ := Aside0.mk (Kd.R_lower ho28 (keep_size (w := w) (g := g) (row := none) (by repeat (first | (with_reducible first | exact HK.out | apply KeepBut.set_ | apply keep_drewN | apply keep_drew | apply keep_alloc) | exact HK.out)))); have n1_ := Aside0.mk (IsS79.below (by repeat (first | (with_reducible first | exact HI0.out | apply IsS79.alloc | apply IsS79.drewN | apply IsS79.drew | apply IsS79.set_1) | exact HI0.out)) hb); have n2_ := Aside0.mk (KeepBut.trans (by repeat (first | (with_reducible first | exact HK.out | apply KeepBut.set_ | apply keep_drewN | apply keep_drew | apply keep_alloc) | exact HK.out)) (KeepBut.of_below hb g none) (.inl rfl)); have n3_ := Aside0.mk (below_step (by repeat (first | (with_reducible first | exact HB.out | apply below_alloc | apply pw_below_drewN | apply below_drew1 | refine below_set ?_ (IsS79.ge HI0.out)) | exact HB.out)) hb); clear HI0; clear HK; clear HB; have HO459 := n0_; have HI0 := n1_; have HK := n2_; have HB := n3_; clear n0_ n1_ n2_ n3_; clear hb ho28; obtain ⟨Ao29, co29, eo29⟩ := Kd.R_slice HO459.out; subst eo29) | ((with_reducible refine gate_callee (f := 73) rfl ?_); refine goesL_ (some 23) rfl rfl Tryd.func73 (by kernel_rfl) rfl #[.pointer (some ⟨g, 0, none⟩), .slice Ao29 y457.length co29] rfl za ?_; (with_reducible refine (spec_l1Rd_one.calls k g s0_0 t440 _ _ y457 t460 t461 w0 _ ?side1 ?side2 ?side3 ?side4 ?side5 A24.out).mono ?_); (case side1 => repeat (first | (with_reducible first | exact HI0.out | apply IsS79.alloc | apply IsS79.drewN | apply IsS79.drew | apply IsS79.set_1) | exact HI0.out)); (case side2 => repeat (first | (with_reducible first | exact HB.out | apply below_alloc | apply pw_below_drewN | apply below_drew1 | refine below_set ?_ (IsS79.ge HI0.out)) | exact HB.out)); (case side3 => repeat (first | exact (Kd.R_reads' HO459.out).2.2 | (with_reducible refine Kd.C_alloc ?_ _) | (with_reducible refine Kd.C_drewN ?_ _) | (with_reducible refine Kd.C_drew ?_))); (case side4 => exact (Kd.R_reads' HO459.out).2.1); (case side5 => exact far_slice (IsS79.own_ne HI0.out HO459.out (by decide))); rintro e w30 ⟨rfl, hi, hb, hk⟩; refine ⟨_, rfl, ?_⟩; have n0_ := Aside0.mk (Kd.R_mono (Kd.R_keep (IsS79.apart (show IsS79 w0 _ g s0_0 t440 from by repeat (first | (with_reducible first | exact HI0.out | apply IsS79.alloc | apply IsS79.drewN | apply IsS79.drew | apply IsS79.set_1) | exact HI0.out)) (zR HO459.out) (by decide)) hk (fun _ h => h.2)) (fun _ h => h.1)); have n1_ := Aside0.mk (KeepBut.trans (by repeat (first | (with_reducible first | exact HK.out | apply KeepBut.set_ | apply keep_drewN | apply keep_drew | apply keep_alloc) | exact HK.out)) hk (.inl rfl)); have n2_ := Aside0.mk (hb); have n3_ := Aside0.mk (hi); clear HO459; clear HK; clear HB; clear HI0; have HO459 := n0_; have HK := n1_; have HB := n2_; have HI0 := n3_; clear n0_ n1_ n2_ n3_; (try clear hb); (try clear hb2); (try clear hk); (try clear hi)) | ((with_reducible refine gate_callee (f := 77) rfl ?_); refine goesL_ (some 24) rfl rfl Tryd.func77 (by kernel_rfl) rfl #[.int .i64 t460, .int .i64 2, .int .i64 29] rfl za ?_; (with_reducible refine (spec_l3Of.calls k t460 2 29 t462 _ A25.out).mono ?_); rintro e w' ⟨rfl, ⟨nd, rfl⟩⟩; refine ⟨_, rfl, ?_⟩))
        go_ret
        exact ⟨by first | rfl | (simp [errW_none, errW_some] <;> rfl) | (simp [*, errW_none, errW_some] <;> rfl), by repeat (first | (with_reducible first | exact HI0.out | apply IsS79.alloc | apply IsS79.drewN | apply IsS79.drew | apply IsS79.set_1) | exact HI0.out), by repeat (first | (with_reducible first | exact HB.out | apply below_alloc | apply pw_below_drewN | apply below_drew1 | refine below_set ?_ (IsS79.ge HI0.out)) | exact HB.out), by repeat (first | (with_reducible first | exact HK.out | apply KeepBut.set_ | apply keep_drewN | apply keep_drew | apply keep_alloc) | exact HK.out)⟩
      · rw [if_neg c23] at H
        have c23b0 : (t439 == 2) = false := beq_eq_false_iff_ne.mpr c23
        have c23b1 : (t439 != 2) = true := bne_iff_ne.mpr c23
        by_cases c31 : t439 = 3
        · rw [if_pos c31] at H
          have c31b0 : (t439 == 3) = true := beq_iff_eq.mpr c31
          have c31b1 : (t439 != 3) = false := bne_eq_false_iff_eq.mpr c31
          clear c31
          obtain ⟨y463, hy463⟩ : ∃ y_ : List Int, y_ = (([1, 2023, 2024, 9999] : List Int)) := ⟨_, rfl⟩
          replace H : ((spec_l1Rd_one.f k s0_0 t440 y463).bind fun bt466 => ((spec_l1Rd_one.f k s0_0 bt466.2 (([1, 3, 5, 8, 10, 12] : List Int))).bind fun bt471 => ((spec_l3Of.f k bt466.1 bt471.1 31).bind fun t473 => (some (t473, bt471.2))))) = some (r1, r2) := by first | (rw [hy463]; with_reducible exact H) | (have H2_ := (Option.bind_some _ _).symm.trans H; rw [hy463]; with_reducible exact H2_) | (have H2_ := (Option.bind_some _ _).symm.trans H; with_reducible exact H2_) | with_reducible exact H | (rw [hy463]; exact H) | exact H
          have Ny463 := Aside0.mk hy463
          clear hy463
          replace H := Option.bind_eq_some_iff.mp H
          obtain ⟨⟨t466, t467⟩, A320, H⟩ := H
          replace H : ((spec_l1Rd_one.f k s0_0 t467 (([1, 3, 5, 8, 10, 12] : List Int))).bind fun bt471 => ((spec_l3Of.f k t466 bt471.1 31).bind fun t473 => (some (t473, bt471.2)))) = some (r1, r2) := H
          have A32 := Aside0.mk A320
          clear A320
          obtain ⟨y468, hy468⟩ : ∃ y_ : List Int, y_ = (([1, 3, 5, 8, 10, 12] : List Int)) := ⟨_, rfl⟩
          replace H : ((spec_l1Rd_one.f k s0_0 t467 y468).bind fun bt471 => ((spec_l3Of.f k t466 bt471.1 31).bind fun t473 => (some (t473, bt471.2)))) = some (r1, r2) := by first | (rw [hy468]; with_reducible exact H) | (have H2_ := (Option.bind_some _ _).symm.trans H; rw [hy468]; with_reducible exact H2_) | (have H2_ := (Option.bind_some _ _).symm.trans H; with_reducible exact H2_) | with_reducible exact H | (rw [hy468]; exact H) | exact H
          have Ny468 := Aside0.mk hy468
          clear hy468
          replace H := Option.bind_eq_some_iff.mp H
          obtain ⟨⟨t471, t472⟩, A330, H⟩ := H
          replace H : ((spec_l3Of.f k t466 t471 31).bind fun t473 => (some (t473, t472))) = some (r1, r2) := H
          have A33 := Aside0.mk A330
          clear A330
          replace H := Option.bind_eq_some_iff.mp H
          obtain ⟨t473, A340, H⟩ := H
          replace H : (some (t473, t472)) = some (r1, r2) := H
          have A34 := Aside0.mk A340
          clear A340
          simp only [Option.some.injEq, Prod.mk.injEq] at H
          obtain ⟨rfl, rfl⟩ := H
          go_enter Tryd.func55, Tryd.ntmps55
          go_wp2_with (first | ((with_reducible refine gate_callee (f := 47) rfl ?_); refine goesL_ (some 4) rfl rfl Tryd.func47 (by kernel_rfl) rfl #[.pointer (some ⟨g, 0, none⟩), .int .i64 6] rfl za ?_; (with_reducible refine (spec_l1Rd_pick.calls k g s0_0 s0_1 6 t439 t440 w0 _ ?side1 ?side2 A2.out).mono ?_); (case side1 => repeat (first | (with_reducible first | exact HI0.out | apply IsS79.alloc | apply IsS79.drewN | apply IsS79.drew | apply IsS79.set_1) | exact HI0.out)); (case side2 => repeat (first | (with_reducible first | exact HB.out | apply below_alloc | apply pw_below_drewN | apply below_drew1 | refine below_set ?_ (IsS79.ge HI0.out)) | exact HB.out)); rintro e w35 ⟨rfl, hi, hb, hk⟩; refine ⟨_, rfl, ?_⟩; have n0_ := Aside0.mk (KeepBut.trans (by repeat (first | (with_reducible first | exact HK.out | apply KeepBut.set_ | apply keep_drewN | apply keep_drew | apply keep_alloc) | exact HK.out)) hk (.inl rfl)); have n1_ := Aside0.mk (hb); have n2_ := Aside0.mk (hi); clear HK; clear HB; clear HI0; have HK := n0_; have HB := n1_; have HI0 := n2_; clear n0_ n1_ n2_; (try clear hb); (try clear hb2); (try clear hk); (try clear hi)) | ((with_reducible refine gate_dst (N := 28) rfl ?_); refine Kd.R_lit (Kd.int .i64) _ 3 ?hg (N := 28) ?hd (xs := ([1, 2023, 2024, 9999] : List Int)) (inner := [.int .i64 1, .int .i64 2023, .int .i64 2024, .int .i64 9999]) (ok := fun _ => True) (okp := fun _ => True) ?hr ?hp (fun _ hk => hk) trivial (Below.refl _ _) (Nat.le_refl _) (by simp) ?_; (case hd => rfl); (case hg => rfl); (case hr => first | (go_simp; done) | (go_simp; rfl)); (case hp => exact (Reps.one (show Kd.M (Kd.int .i64) _ _ _ 1 [.int .i64 1] from rfl) (Reps.one (show Kd.M (Kd.int .i64) _ _ _ 2023 [.int .i64 2023] from rfl) (Reps.one (show Kd.M (Kd.int .i64) _ _ _ 2024 [.int .i64 2024] from rfl) (Reps.one (show Kd.M (Kd.int .i64) _ _ _ 9999 [.int .i64 9999] from rfl) (Reps.none _ _)))))); intro v464 w36 ho37 hb hg_ hnew_; clear hg_ hnew_; (first | rw [← Ny463.out] at ho37 | (simp only [Int.reduceToNat] at ho37; rw [← Ny463.out] at ho37)); have n0_ := Aside0.mk (Kd.R_lower ho37 (keep_size (w := w) (g := g) (row := none) (by repeat (first | (with_reducible first | exact HK.out | apply KeepBut.set_ | apply keep_drewN | apply keep_drew | apply keep_alloc) | exact HK.out)))); have n1_ := Aside0.mk (IsS79.below (by repeat (first | (with_reducible first | exact HI0.out | apply IsS79.alloc | apply IsS79.drewN | apply IsS79.drew | apply IsS79.set_1) | exact HI0.out)) hb); have n2_ := Aside0.mk (KeepBut.trans (by repeat (first | (with_reducible first | exact HK.out | apply KeepBut.set_ | apply keep_drewN | apply keep_drew | apply keep_alloc) | exact HK.out)) (KeepBut.of_below hb g none) (.inl rfl)); have n3_ := Aside0.mk (below_step (by repeat (first | (with_reducible first | exact HB.out | apply below_alloc | apply pw_below_drewN | apply below_drew1 | refine below_set ?_ (IsS79.ge HI0.out)) | exact HB.out)) hb); clear HI0; clear HK; clear HB; have HO465 := n0_; have HI0 := n1_; have HK := n2_; have HB := n3_; clear n0_ n1_ n2_ n3_; clear hb ho37; obtain ⟨Ao38, co38, eo38⟩ := Kd.R_slice HO465.out; subst eo38) | ((with_reducible refine gate_callee (f := 73) rfl ?_); refine goesL_ (some 29) rfl rfl Tryd.func73 (by kernel_rfl) rfl #[.pointer (some ⟨g, 0, none⟩), .slice Ao38 y463.length co38] rfl za ?_; (with_reducible refine (spec_l1Rd_one.calls k g s0_0 t440 _ _ y463 t466 t467 w0 _ ?side1 ?side2 ?side3 ?side4 ?side5 A32.out).mono ?_); (case side1 => repeat (first | (with_reducible first | exact HI0.out | apply IsS79.alloc | apply IsS79.drewN | apply IsS79.drew | apply IsS79.set_1) | exact HI0.out)); (case side2 => repeat (first | (with_reducible first | exact HB.out | apply below_alloc | apply pw_below_drewN | apply below_drew1 | refine below_set ?_ (IsS79.ge HI0.out)) | exact HB.out)); (case side3 => repeat (first | exact (Kd.R_reads' HO465.out).2.2 | (with_reducible refine Kd.C_alloc ?_ _) | (with_reducible refine Kd.C_drewN ?_ _) | (with_reducible refine Kd.C_drew ?_))); (case side4 => exact (Kd.R_reads' HO465.out).2.1); (case side5 => exact far_slice (IsS79.own_ne HI0.out HO465.out (by decide))); rintro e w39 ⟨rfl, hi, hb, hk⟩; refine ⟨_, rfl, ?_⟩; have n0_ := Aside0.mk (Kd.R_mono (Kd.R_keep (IsS79.apart (show IsS79 w0 _ g s0_0 t440 from by repeat (first | (with_reducible first | exact HI0.out | apply IsS79.alloc | apply IsS79.drewN | apply IsS79.drew | apply IsS79.set_1) | exact HI0.out)) (zR HO465.out) (by decide)) hk (fun _ h => h.2)) (fun _ h => h.1)); have n1_ := Aside0.mk (KeepBut.trans (by repeat (first | (with_reducible first | exact HK.out | apply KeepBut.set_ | apply keep_drewN | apply keep_drew | apply keep_alloc) | exact HK.out)) hk (.inl rfl)); have n2_ := Aside0.mk (hb); have n3_ := Aside0.mk (hi); clear HO465; clear HK; clear HB; clear HI0; have HO465 := n0_; have HK := n1_; have HB := n2_; have HI0 := n3_; clear n0_ n1_ n2_ n3_; (try clear hb); (try clear hb2); (try clear hk); (try clear hi)) | ((with_reducible refine gate_dst (N := 31) rfl ?_); refine Kd.R_lit (Kd.int .i64) _ 3 ?hg (N := 31) ?hd (xs := ([1, 3, 5, 8, 10, 12] : List Int)) (inner := [.int .i64 1, .int .i64 3, .int .i64 5, .int .i64 8, .int .i64 10, .int .i64 12]) (ok := fun _ => True) (okp := fun _ => True) ?hr ?hp (fun _ hk => hk) trivial (Below.refl _ _) (Nat.le_refl _) (by simp) ?_; (case hd => rfl); (case hg => rfl); (case hr => first | (go_simp; done) | (go_simp; rfl)); (case hp => exact (Reps.one (show Kd.M (Kd.int .i64) _ _ _ 1 [.int .i64 1] from rfl) (Reps.one (show Kd.M (Kd.int .i64) _ _ _ 3 [.int .i64 3] from rfl) (Reps.one (show Kd.M (Kd.int .i64) _ _ _ 5 [.int .i64 5] from rfl) (Reps.one (show Kd.M (Kd.int .i64) _ _ _ 8 [.int .i64 8] from rfl) (Reps.one (show Kd.M (Kd.int .i64) _ _ _ 10 [.int .i64 10] from rfl) (Reps.one (show Kd.M (Kd.int .i64) _ _ _ 12 [.int .i64 12] from rfl) (Reps.none _ _)))))))); intro v469 w40 ho41 hb hg_ hnew_; clear hg_ hnew_; (first | rw [← Ny468.out] at ho41 | (simp only [Int.reduceToNat] at ho41; rw [← Ny468.out] at ho41)); have n0_ := Aside0.mk (Kd.R_elder' (zR HO465.out) (Kd.R_base ho41) hb); have n1_ := Aside0.mk (Kd.R_lower (Kd.R_new' ho41 (Kd.R_lt (zR HO465.out))) (keep_size (w := w) (g := g) (row := none) (by repeat (first | (with_reducible first | exact HK.out | apply KeepBut.set_ | apply keep_drewN | apply keep_drew | apply keep_alloc) | exact HK.out)))); have n2_ := Aside0.mk (IsS79.below (by repeat (first | (with_reducible first | exact HI0.out | apply IsS79.alloc | apply IsS79.drewN | apply IsS79.drew | apply IsS79.set_1) | exact HI0.out)) hb); have n3_ := Aside0.mk (KeepBut.trans (by repeat (first | (with_reducible first | exact HK.out | apply KeepBut.set_ | apply keep_drewN | apply keep_drew | apply keep_alloc) | exact HK.out)) (KeepBut.of_below hb g none) (.inl rfl)); have n4_ := Aside0.mk (below_step (by repeat (first | (with_reducible first | exact HB.out | apply below_alloc | apply pw_below_drewN | apply below_drew1 | refine below_set ?_ (IsS79.ge HI0.out)) | exact HB.out)) hb); clear HO465; clear HI0; clear HK; clear HB; have HO465 := n0_; have HO470 := n1_; have HI0 := n2_; have HK := n3_; have HB := n4_; clear n0_ n1_ n2_ n3_ n4_; clear hb ho41; obtain ⟨Ao42, co42, eo42⟩ := Kd.R_slice HO470.out; subst eo42) | ((with_reducible refine gate_callee (f := 73) rfl ?_); refine goesL_ (some 32) rfl rfl Tryd.func73 (by kernel_rfl) rfl #[.pointer (some ⟨g, 0, none⟩), .slice Ao42 y468.length co42] rfl za ?_; (with_reducible refine (spec_l1Rd_one.calls k g s0_0 t467 _ _ y468 t471 t472 w0 _ ?side1 ?side2 ?side3 ?side4 ?side5 A33.out).mono ?_); (case side1 => repeat (first | (with_reducible first | exact HI0.out | apply IsS79.alloc | apply IsS79.drewN | apply IsS79.drew | apply IsS79.set_1) | exact HI0.out)); (case side2 => repeat (first | (with_reducible first | exact HB.out | apply below_alloc | apply pw_below_drewN | apply below_drew1 | refine below_set ?_ (IsS79.ge HI0.out)) | exact HB.out)); (case side3 => repeat (first | exact (Kd.R_reads' HO470.out).2.2 | (with_reducible refine Kd.C_alloc ?_ _) | (with_reducible refine Kd.C_drewN ?_ _) | (with_reducible refine Kd.C_drew ?_))); (case side4 => exact (Kd.R_reads' HO470.out).2.1); (case side5 => exact far_slice (IsS79.own_ne HI0.out HO470.out (by decide))); rintro e w43 ⟨rfl, hi, hb, hk⟩; refine ⟨_, rfl, ?_⟩; have n0_ := Aside0.mk (Kd.R_mono (Kd.R_keep (IsS79.apart (show IsS79 w0 _ g s0_0 t467 from by repeat (first | (with_reducible first | exact HI0.out | apply IsS79.alloc | apply IsS79.drewN | apply IsS79.drew | apply IsS79.set_1) | exact HI0.out)) (zR HO465.out) (by decide)) hk (fun _ h => h.2)) (fun _ h => h.1)); have n1_ := Aside0.mk (Kd.R_mono (Kd.R_keep (IsS79.apart (show IsS79 w0 _ g s0_0 t467 from by repeat (first | (with_reducible first | exact HI0.out | apply IsS79.alloc | apply IsS79.drewN | apply IsS79.drew | apply IsS79.set_1) | exact HI0.out)) (zR HO470.out) (by decide)) hk (fun _ h => h.2)) (fun _ h => h.1)); have n2_ := Aside0.mk (KeepBut.trans (by repeat (first | (with_reducible first | exact HK.out | apply KeepBut.set_ | apply keep_drewN | apply keep_drew | apply keep_alloc) | exact HK.out)) hk (.inl rfl)); have n3_ := Aside0.mk (hb); have n4_ := Aside0.mk (hi); clear HO465; clear HO470; clear HK; clear HB; clear HI0; have HO465 := n0_; have HO470 := n1_; have HK := n2_; have HB := n3_; have HI0 := n4_; clear n0_ n1_ n2_ n3_ n4_; (try clear hb); (try clear hb2); (try clear hk); (try clear hi)) | ((with_reducible refine gate_callee (f := 77) rfl ?_); refine goesL_ (some 33) rfl rfl Tryd.func77 (by kernel_rfl) rfl #[.int .i64 t466, .int .i64 t471, .int .i64 31] rfl za ?_; (with_reducible refine (spec_l3Of.calls k t466 t471 31 t473 _ A34.out).mono ?_); rintro e w' ⟨rfl, ⟨nd, rfl⟩⟩; refine ⟨_, rfl, ?_⟩))
          go_ret
          exact ⟨by first | rfl | (simp [errW_none, errW_some] <;> rfl) | (simp [*, errW_none, errW_some] <;> rfl), by repeat (first | (with_reducible first | exact HI0.out | apply IsS79.alloc | apply IsS79.drewN | apply IsS79.drew | apply IsS79.set_1) | exact HI0.out), by repeat (first | (with_reducible first | exact HB.out | apply below_alloc | apply pw_below_drewN | apply below_drew1 | refine below_set ?_ (IsS79.ge HI0.out)) | exact HB.out), by repeat (first | (with_reducible first | exact HK.out | apply KeepBut.set_ | apply keep_drewN | apply keep_drew | apply keep_alloc) | exact HK.out)⟩
        · rw [if_neg c31] at H
          have c31b0 : (t439 == 3) = false := beq_eq_false_iff_ne.mpr c31
          have c31b1 : (t439 != 3) = true := bne_iff_ne.mpr c31
          replace H := Option.bind_eq_some_iff.mp H
          obtain ⟨⟨t474, t475⟩, A440, H⟩ := H
          replace H : ((spec_l1Rd_pick.f k s0_0 t475 12).bind fun bt476 => ((spec_l1Rd_pick.f k s0_0 bt476.2 28).bind fun bt478 => ((spec_l3Of.f k (wrap64 (2020 + t474)) (wrap64 (1 + bt476.1)) (wrap64 (1 + bt478.1))).bind fun t480 => (some (t480, bt478.2))))) = some (r1, r2) := H
          have A44 := Aside0.mk A440
          clear A440
          replace H := Option.bind_eq_some_iff.mp H
          obtain ⟨⟨t476, t477⟩, A450, H⟩ := H
          replace H : ((spec_l1Rd_pick.f k s0_0 t477 28).bind fun bt478 => ((spec_l3Of.f k (wrap64 (2020 + t474)) (wrap64 (1 + t476)) (wrap64 (1 + bt478.1))).bind fun t480 => (some (t480, bt478.2)))) = some (r1, r2) := H
          have A45 := Aside0.mk A450
          clear A450
          replace H := Option.bind_eq_some_iff.mp H
          obtain ⟨⟨t478, t479⟩, A460, H⟩ := H
          replace H : ((spec_l3Of.f k (wrap64 (2020 + t474)) (wrap64 (1 + t476)) (wrap64 (1 + t478))).bind fun t480 => (some (t480, t479))) = some (r1, r2) := H
          have A46 := Aside0.mk A460
          clear A460
          replace H := Option.bind_eq_some_iff.mp H
          obtain ⟨t480, A470, H⟩ := H
          replace H : (some (t480, t479)) = some (r1, r2) := H
          have A47 := Aside0.mk A470
          clear A470
          simp only [Option.some.injEq, Prod.mk.injEq] at H
          obtain ⟨rfl, rfl⟩ := H
          go_enter Tryd.func55, Tryd.ntmps55
          go_wp2_with (first | ((with_reducible refine gate_callee (f := 47) rfl ?_); refine goesL_ (some 4) rfl rfl Tryd.func47 (by kernel_rfl) rfl #[.pointer (some ⟨g, 0, none⟩), .int .i64 6] rfl za ?_; (with_reducible refine (spec_l1Rd_pick.calls k g s0_0 s0_1 6 t439 t440 w0 _ ?side1 ?side2 A2.out).mono ?_); (case side1 => repeat (first | (with_reducible first | exact HI0.out | apply IsS79.alloc | apply IsS79.drewN | apply IsS79.drew | apply IsS79.set_1) | exact HI0.out)); (case side2 => repeat (first | (with_reducible first | exact HB.out | apply below_alloc | apply pw_below_drewN | apply below_drew1 | refine below_set ?_ (IsS79.ge HI0.out)) | exact HB.out)); rintro e w48 ⟨rfl, hi, hb, hk⟩; refine ⟨_, rfl, ?_⟩; have n0_ := Aside0.mk (KeepBut.trans (by repeat (first | (with_reducible first | exact HK.out | apply KeepBut.set_ | apply keep_drewN | apply keep_drew | apply keep_alloc) | exact HK.out)) hk (.inl rfl)); have n1_ := Aside0.mk (hb); have n2_ := Aside0.mk (hi); clear HK; clear HB; clear HI0; have HK := n0_; have HB := n1_; have HI0 := n2_; clear n0_ n1_ n2_; (try clear hb); (try clear hb2); (try clear hk); (try clear hi)) | ((with_reducible refine gate_callee (f := 47) rfl ?_); refine goesL_ (some 35) rfl rfl Tryd.func47 (by kernel_rfl) rfl #[.pointer (some ⟨g, 0, none⟩), .int .i64 8] rfl za ?_; (with_reducible refine (spec_l1Rd_pick.calls k g s0_0 t440 8 t474 t475 w0 _ ?side1 ?side2 A44.out).mono ?_); (case side1 => repeat (first | (with_reducible first | exact HI0.out | apply IsS79.alloc | apply IsS79.drewN | apply IsS79.drew | apply IsS79.set_1) | exact HI0.out)); (case side2 => repeat (first | (with_reducible first | exact HB.out | apply below_alloc | apply pw_below_drewN | apply below_drew1 | refine below_set ?_ (IsS79.ge HI0.out)) | exact HB.out)); rintro e w49 ⟨rfl, hi, hb, hk⟩; refine ⟨_, rfl, ?_⟩; have n0_ := Aside0.mk (KeepBut.trans (by repeat (first | (with_reducible first | exact HK.out | apply KeepBut.set_ | apply keep_drewN | apply keep_drew | apply keep_alloc) | exact HK.out)) hk (.inl rfl)); have n1_ := Aside0.mk (hb); have n2_ := Aside0.mk (hi); clear HK; clear HB; clear HI0; have HK := n0_; have HB := n1_; have HI0 := n2_; clear n0_ n1_ n2_; (try clear hb); (try clear hb2); (try clear hk); (try clear hi)) | ((with_reducible refine gate_callee (f := 47) rfl ?_); refine goesL_ (some 38) rfl rfl Tryd.func47 (by kernel_rfl) rfl #[.pointer (some ⟨g, 0, none⟩), .int .i64 12] rfl za ?_; (with_reducible refine (spec_l1Rd_pick.calls k g s0_0 t475 12 t476 t477 w0 _ ?side1 ?side2 A45.out).mono ?_); (case side1 => repeat (first | (with_reducible first | exact HI0.out | apply IsS79.alloc | apply IsS79.drewN | apply IsS79.drew | apply IsS79.set_1) | exact HI0.out)); (case side2 => repeat (first | (with_reducible first | exact HB.out | apply below_alloc | apply pw_below_drewN | apply below_drew1 | refine below_set ?_ (IsS79.ge HI0.out)) | exact HB.out)); rintro e w50 ⟨rfl, hi, hb, hk⟩; refine ⟨_, rfl, ?_⟩; have n0_ := Aside0.mk (KeepBut.trans (by repeat (first | (with_reducible first | exact HK.out | apply KeepBut.set_ | apply keep_drewN | apply keep_drew | apply keep_alloc) | exact HK.out)) hk (.inl rfl)); have n1_ := Aside0.mk (hb); have n2_ := Aside0.mk (hi); clear HK; clear HB; clear HI0; have HK := n0_; have HB := n1_; have HI0 := n2_; clear n0_ n1_ n2_; (try clear hb); (try clear hb2); (try clear hk); (try clear hi)) | ((with_reducible refine gate_callee (f := 47) rfl ?_); refine goesL_ (some 41) rfl rfl Tryd.func47 (by kernel_rfl) rfl #[.pointer (some ⟨g, 0, none⟩), .int .i64 28] rfl za ?_; (with_reducible refine (spec_l1Rd_pick.calls k g s0_0 t477 28 t478 t479 w0 _ ?side1 ?side2 A46.out).mono ?_); (case side1 => repeat (first | (with_reducible first | exact HI0.out | apply IsS79.alloc | apply IsS79.drewN | apply IsS79.drew | apply IsS79.set_1) | exact HI0.out)); (case side2 => repeat (first | (with_reducible first | exact HB.out | apply below_alloc | apply pw_below_drewN | apply below_drew1 | refine below_set ?_ (IsS79.ge HI0.out)) | exact HB.out)); rintro e w51 ⟨rfl, hi, hb, hk⟩; refine ⟨_, rfl, ?_⟩; have n0_ := Aside0.mk (KeepBut.trans (by repeat (first | (with_reducible first | exact HK.out | apply KeepBut.set_ | apply keep_drewN | apply keep_drew | apply keep_alloc) | exact HK.out)) hk (.inl rfl)); have n1_ := Aside0.mk (hb); have n2_ := Aside0.mk (hi); clear HK; clear HB; clear HI0; have HK := n0_; have HB := n1_; have HI0 := n2_; clear n0_ n1_ n2_; (try clear hb); (try clear hb2); (try clear hk); (try clear hi)) | ((with_reducible refine gate_callee (f := 77) rfl ?_); refine goesL_ (some 43) rfl rfl Tryd.func77 (by kernel_rfl) rfl #[.int .i64 (wrap64 (2020 + t474)), .int .i64 (wrap64 (1 + t476)), .int .i64 (wrap64 (1 + t478))] rfl za ?_; (with_reducible refine (spec_l3Of.calls k (wrap64 (2020 + t474)) (wrap64 (1 + t476)) (wrap64 (1 + t478)) t480 _ A47.out).mono ?_); rintro e w' ⟨rfl, ⟨nd, rfl⟩⟩; refine ⟨_, rfl, ?_⟩))
          go_ret
          exact ⟨by first | rfl | (simp [errW_none, errW_some] <;> rfl) | (simp [*, errW_none, errW_some] <;> rfl), by repeat (first | (with_reducible first | exact HI0.out | apply IsS79.alloc | apply IsS79.drewN | apply IsS79.drew | apply IsS79.set_1) | exact HI0.out), by repeat (first | (with_reducible first | exact HB.out | apply below_alloc | apply pw_below_drewN | apply below_drew1 | refine below_set ?_ (IsS79.ge HI0.out)) | exact HB.out), by repeat (first | (with_reducible first | exact HK.out | apply KeepBut.set_ | apply keep_drewN | apply keep_drew | apply keep_alloc) | exact HK.out)⟩
def spec_l14AnyDay.f (k : Nat) (s0_0 : List Int) (s0_1 : Int) : Option (Int × Int) := (spec_l1Rd_pick.f k s0_0 s0_1 20).bind fun bt481 => (if bt481.1 = 0 then ((spec_l1Rd_one.f k s0_0 bt481.2 (([0, (-1), 3652060] : List Int))).bind fun bt486 => (some (bt486.1, bt486.2))) else ((spec_l14Day.f k s0_0 bt481.2).bind fun bt488 => (some (bt488.1, bt488.2))))
def spec_DrawDayPut.f (k : Nat) (l0 : List Int) : Option (Int) := (spec_l1Open.f l0).bind fun bt490 => ((spec_l14AnyDay.f k bt490.1 bt490.2).bind fun bt493 => (some bt493.1))
def spec_DrawDayGet.f (k : Nat) (l0 : List Int) : Option (ByteArray) := (spec_l1Open.f l0).bind fun bt503 => ((spec_l1Rd_pick.f k bt503.1 bt503.2 8).bind fun bt506 => (if bt506.1 = 0 then ((spec_l1Rd_of.f k bt503.1 bt506.2 (([(⟨#[]⟩ : ByteArray), (⟨#[50, 48, 50, 51, 45, 48, 50, 45, 50, 57]⟩ : ByteArray), (⟨#[48, 48, 48, 48, 45, 48, 49, 45, 48, 49]⟩ : ByteArray), (⟨#[50, 48, 50, 52, 45, 49, 51, 45, 48, 49]⟩ : ByteArray), (⟨#[50, 48, 50, 52, 45, 49, 45, 49]⟩ : ByteArray), (⟨#[49, 48, 48, 48, 48, 45, 48, 49, 45, 48, 49]⟩ : ByteArray), (⟨#[50, 48, 50, 52, 45, 48, 50, 45, 51, 48]⟩ : ByteArray)] : List ByteArray))).bind fun bt511 => (some bt511.1)) else ((spec_l14Day.f k bt503.1 bt506.2).bind fun bt513 => ((spec_l3Put.f k bt513.1).bind fun t515 => ((spec_l14Bent.f k bt503.1 bt513.2 t515).bind fun bt516 => (some bt516.1))))))
set_option maxHeartbeats 8000000 in
set_option maxRecDepth 100000 in
theorem spec_DrawDayGet.calls (k : Nat) (A0 : Option Addr) (c0 : Nat) (l0 : List Int) (r : ByteArray) (w : World) (hr0 : Kd.C (Kd.int .u8) w A0 l0.length l0) (hc0 : l0.length ≤ c0) (h : spec_DrawDayGet.f k l0 = some r) :
    Calls Tryd.prog 29 #[.slice A0 l0.length c0] w fun e w' => e = .returned (.string r) ∧ Below w.heap.size w w' := by
  have HR0 := Aside0.mk hr0
  have HC0 := Aside0.mk hc0
  clear hr0 hc0
  have HB := Aside0.mk (Below.refl w.heap.size w)
  have H : ((spec_l1Open.f l0).bind fun bt503 => ((spec_l1Rd_pick.f k bt503.1 bt503.2 8).bind fun bt506 => (if bt506.1 = 0 then ((spec_l1Rd_of.f k bt503.1 bt506.2 (([(⟨#[]⟩ : ByteArray), (⟨#[50, 48, 50, 51, 45, 48, 50, 45, 50, 57]⟩ : ByteArray), (⟨#[48, 48, 48, 48, 45, 48, 49, 45, 48, 49]⟩ : ByteArray), (⟨#[50, 48, 50, 52, 45, 49, 51, 45, 48, 49]⟩ : ByteArray), (⟨#[50, 48, 50, 52, 45, 49, 45, 49]⟩ : ByteArray), (⟨#[49, 48, 48, 48, 48, 45, 48, 49, 45, 48, 49]⟩ : ByteArray), (⟨#[50, 48, 50, 52, 45, 48, 50, 45, 51, 48]⟩ : ByteArray)] : List ByteArray))).bind fun bt511 => (some bt511.1)) else ((spec_l14Day.f k bt503.1 bt506.2).bind fun bt513 => ((spec_l3Put.f k bt513.1).bind fun t515 => ((spec_l14Bent.f k bt503.1 bt513.2 t515).bind fun bt516 => (some bt516.1))))))) = some r := h
  clear h
  replace H := Option.bind_eq_some_iff.mp H
  obtain ⟨⟨t503, t504⟩, A20, H⟩ := H
  replace H : ((spec_l1Rd_pick.f k t503 t504 8).bind fun bt506 => (if bt506.1 = 0 then ((spec_l1Rd_of.f k t503 bt506.2 (([(⟨#[]⟩ : ByteArray), (⟨#[50, 48, 50, 51, 45, 48, 50, 45, 50, 57]⟩ : ByteArray), (⟨#[48, 48, 48, 48, 45, 48, 49, 45, 48, 49]⟩ : ByteArray), (⟨#[50, 48, 50, 52, 45, 49, 51, 45, 48, 49]⟩ : ByteArray), (⟨#[50, 48, 50, 52, 45, 49, 45, 49]⟩ : ByteArray), (⟨#[49, 48, 48, 48, 48, 45, 48, 49, 45, 48, 49]⟩ : ByteArray), (⟨#[50, 48, 50, 52, 45, 48, 50, 45, 51, 48]⟩ : ByteArray)] : List ByteArray))).bind fun bt511 => (some bt511.1)) else ((spec_l14Day.f k t503 bt506.2).bind fun bt513 => ((spec_l3Put.f k bt513.1).bind fun t515 => ((spec_l14Bent.f k t503 bt513.2 t515).bind fun bt516 => (some bt516.1)))))) = some r := H
  have A2 := Aside0.mk A20
  clear A20
  replace H := Option.bind_eq_some_iff.mp H
  obtain ⟨⟨t506, t507⟩, A30, H⟩ := H
  replace H : (if t506 = 0 then ((spec_l1Rd_of.f k t503 t507 (([(⟨#[]⟩ : ByteArray), (⟨#[50, 48, 50, 51, 45, 48, 50, 45, 50, 57]⟩ : ByteArray), (⟨#[48, 48, 48, 48, 45, 48, 49, 45, 48, 49]⟩ : ByteArray), (⟨#[50, 48, 50, 52, 45, 49, 51, 45, 48, 49]⟩ : ByteArray), (⟨#[50, 48, 50, 52, 45, 49, 45, 49]⟩ : ByteArray), (⟨#[49, 48, 48, 48, 48, 45, 48, 49, 45, 48, 49]⟩ : ByteArray), (⟨#[50, 48, 50, 52, 45, 48, 50, 45, 51, 48]⟩ : ByteArray)] : List ByteArray))).bind fun bt511 => (some bt511.1)) else ((spec_l14Day.f k t503 t507).bind fun bt513 => ((spec_l3Put.f k bt513.1).bind fun t515 => ((spec_l14Bent.f k t503 bt513.2 t515).bind fun bt516 => (some bt516.1))))) = some r := H
  have A3 := Aside0.mk A30
  clear A30
  by_cases c4 : t506 = 0
  · rw [if_pos c4] at H
    have c4b0 : (t506 == 0) = true := beq_iff_eq.mpr c4
    have c4b1 : (t506 != 0) = false := bne_eq_false_iff_eq.mpr c4
    clear c4
    obtain ⟨y508, hy508⟩ : ∃ y_ : List ByteArray, y_ = (([(⟨#[]⟩ : ByteArray), (⟨#[50, 48, 50, 51, 45, 48, 50, 45, 50, 57]⟩ : ByteArray), (⟨#[48, 48, 48, 48, 45, 48, 49, 45, 48, 49]⟩ : ByteArray), (⟨#[50, 48, 50, 52, 45, 49, 51, 45, 48, 49]⟩ : ByteArray), (⟨#[50, 48, 50, 52, 45, 49, 45, 49]⟩ : ByteArray), (⟨#[49, 48, 48, 48, 48, 45, 48, 49, 45, 48, 49]⟩ : ByteArray), (⟨#[50, 48, 50, 52, 45, 48, 50, 45, 51, 48]⟩ : ByteArray)] : List ByteArray)) := ⟨_, rfl⟩
    replace H : ((spec_l1Rd_of.f k t503 t507 y508).bind fun bt511 => (some bt511.1)) = some r := by first | (rw [hy508]; with_reducible exact H) | (have H2_ := (Option.bind_some _ _).symm.trans H; rw [hy508]; with_reducible exact H2_) | (have H2_ := (Option.bind_some _ _).symm.trans H; with_reducible exact H2_) | with_reducible exact H | (rw [hy508]; exact H) | exact H
    have Ny508 := Aside0.mk hy508
    clear hy508
    replace H := Option.bind_eq_some_iff.mp H
    obtain ⟨⟨t511, t512⟩, A50, H⟩ := H
    replace H : (some t511) = some r := H
    have A5 := Aside0.mk A50
    clear A50
    obtain rfl := Option.some.inj H
    go_enter Tryd.func29, Tryd.ntmps29
    go_wp2_with (first | ((with_reducible refine gate_callee (f := 45) rfl ?_); refine goesL_ (some 5) rfl rfl Tryd.func45 (by kernel_rfl) rfl #[.slice A0 l0.length c0] rfl za ?_; (with_reducible refine (spec_l1Open.calls _ _ l0 t503 t504 w _ ?side1 ?side2 ?side3 A2.out).mono ?_); (case side1 => repeat (first | (with_reducible first | exact HB.out | apply below_alloc | apply pw_below_drewN | apply below_drew1) | exact HB.out)); (case side2 => exact HR0.out); (case side3 => exact HC0.out); rintro e w6 ⟨g505, rfl, hi, hb, hb2⟩; refine ⟨_, rfl, ?_⟩; have n0_ := Aside0.mk (hb); have n1_ := Aside0.mk (hi); clear HB; have HB := n0_; have HI505 := n1_; clear n0_ n1_; (try clear hb); (try clear hb2); (try clear hk); (try clear hi)) | ((with_reducible refine gate_callee (f := 47) rfl ?_); refine goesL_ (some 7) rfl rfl Tryd.func47 (by kernel_rfl) rfl #[.pointer (some ⟨g505, 0, none⟩), .int .i64 8] rfl za ?_; (with_reducible refine (spec_l1Rd_pick.calls k g505 t503 t504 8 t506 t507 w _ ?side1 ?side2 A3.out).mono ?_); (case side1 => repeat (first | (with_reducible first | exact HI505.out | apply IsS79.alloc | apply IsS79.drewN | apply IsS79.drew | apply IsS79.set_1) | exact HI505.out)); (case side2 => repeat (first | (with_reducible first | exact HB.out | apply below_alloc | apply pw_below_drewN | apply below_drew1 | refine below_set ?_ (IsS79.ge HI505.out)) | exact HB.out)); rintro e w7 ⟨rfl, hi, hb, hk⟩; refine ⟨_, rfl, ?_⟩; have n0_ := Aside0.mk (hb); have n1_ := Aside0.mk (hi); clear HB; clear HI505; have HB := n0_; have HI505 := n1_; clear n0_ n1_; (try clear hb); (try clear hb2); (try clear hk); (try clear hi)) | ((with_reducible refine gate_dst (N := 10) rfl ?_); refine Kd.R_lit Kd.string _ 9 ?hg (N := 10) ?hd (xs := ([(⟨#[]⟩ : ByteArray), (⟨#[50, 48, 50, 51, 45, 48, 50, 45, 50, 57]⟩ : ByteArray), (⟨#[48, 48, 48, 48, 45, 48, 49, 45, 48, 49]⟩ : ByteArray), (⟨#[50, 48, 50, 52, 45, 49, 51, 45, 48, 49]⟩ : ByteArray), (⟨#[50, 48, 50, 52, 45, 49, 45, 49]⟩ : ByteArray), (⟨#[49, 48, 48, 48, 48, 45, 48, 49, 45, 48, 49]⟩ : ByteArray), (⟨#[50, 48, 50, 52, 45, 48, 50, 45, 51, 48]⟩ : ByteArray)] : List ByteArray)) (inner := [.string (⟨#[]⟩ : ByteArray), .string (⟨#[50, 48, 50, 51, 45, 48, 50, 45, 50, 57]⟩ : ByteArray), .string (⟨#[48, 48, 48, 48, 45, 48, 49, 45, 48, 49]⟩ : ByteArray), .string (⟨#[50, 48, 50, 52, 45, 49, 51, 45, 48, 49]⟩ : ByteArray), .string (⟨#[50, 48, 50, 52, 45, 49, 45, 49]⟩ : ByteArray), .string (⟨#[49, 48, 48, 48, 48, 45, 48, 49, 45, 48, 49]⟩ : ByteArray), .string (⟨#[50, 48, 50, 52, 45, 48, 50, 45, 51, 48]⟩ : ByteArray)]) (ok := fun _ => True) (okp := fun _ => True) ?hr ?hp (fun _ hk => hk) trivial (Below.refl _ _) (Nat.le_refl _) (by simp) ?_; (case hd => rfl); (case hg => rfl); (case hr => first | (go_simp; done) | (go_simp; rfl)); (case hp => exact (Reps.one (show Kd.M Kd.string _ _ _ (⟨#[]⟩ : ByteArray) [.string (⟨#[]⟩ : ByteArray)] from rfl) (Reps.one (show Kd.M Kd.string _ _ _ (⟨#[50, 48, 50, 51, 45, 48, 50, 45, 50, 57]⟩ : ByteArray) [.string (⟨#[50, 48, 50, 51, 45, 48, 50, 45, 50, 57]⟩ : ByteArray)] from rfl) (Reps.one (show Kd.M Kd.string _ _ _ (⟨#[48, 48, 48, 48, 45, 48, 49, 45, 48, 49]⟩ : ByteArray) [.string (⟨#[48, 48, 48, 48, 45, 48, 49, 45, 48, 49]⟩ : ByteArray)] from rfl) (Reps.one (show Kd.M Kd.string _ _ _ (⟨#[50, 48, 50, 52, 45, 49, 51, 45, 48, 49]⟩ : ByteArray) [.string (⟨#[50, 48, 50, 52, 45, 49, 51, 45, 48, 49]⟩ : ByteArray)] from rfl) (Reps.one (show Kd.M Kd.string _ _ _ (⟨#[50, 48, 50, 52, 45, 49, 45, 49]⟩ : ByteArray) [.string (⟨#[50, 48, 50, 52, 45, 49, 45, 49]⟩ : ByteArray)] from rfl) (Reps.one (show Kd.M Kd.string _ _ _ (⟨#[49, 48, 48, 48, 48, 45, 48, 49, 45, 48, 49]⟩ : ByteArray) [.string (⟨#[49, 48, 48, 48, 48, 45, 48, 49, 45, 48, 49]⟩ : ByteArray)] from rfl) (Reps.one (show Kd.M Kd.string _ _ _ (⟨#[50, 48, 50, 52, 45, 48, 50, 45, 51, 48]⟩ : ByteArray) [.string (⟨#[50, 48, 50, 52, 45, 48, 50, 45, 51, 48]⟩ : ByteArray)] from rfl) (Reps.none _ _))))))))); intro v509 w8 ho9 hb hg_ hnew_; clear hg_ hnew_; (first | rw [← Ny508.out] at ho9 | (simp only [Int.reduceToNat] at ho9; rw [← Ny508.out] at ho9)); have n0_ := Aside0.mk (Kd.R_lower ho9 (below_size (by repeat (first | (with_reducible first | exact HB.out | apply below_alloc | apply pw_below_drewN | apply below_drew1 | refine below_set ?_ (IsS79.ge HI505.out)) | exact HB.out)))); have n1_ := Aside0.mk (IsS79.below (by repeat (first | (with_reducible first | exact HI505.out | apply IsS79.alloc | apply IsS79.drewN | apply IsS79.drew | apply IsS79.set_1) | exact HI505.out)) hb); have n2_ := Aside0.mk (below_step (by repeat (first | (with_reducible first | exact HB.out | apply below_alloc | apply pw_below_drewN | apply below_drew1 | refine below_set ?_ (IsS79.ge HI505.out)) | exact HB.out)) hb); clear HI505; clear HB; have HO510 := n0_; have HI505 := n1_; have HB := n2_; clear n0_ n1_ n2_; clear hb ho9; obtain ⟨Ao10, co10, eo10⟩ := Kd.R_slice HO510.out; subst eo10) | ((with_reducible refine gate_callee (f := 48) rfl ?_); refine goesL_ (some 11) rfl rfl Tryd.func48 (by kernel_rfl) rfl #[.pointer (some ⟨g505, 0, none⟩), .slice Ao10 y508.length co10] rfl za ?_; (with_reducible refine (spec_l1Rd_of.calls k g505 t503 t507 _ _ y508 t511 t512 w _ ?side1 ?side2 ?side3 ?side4 ?side5 A5.out).mono ?_); (case side1 => repeat (first | (with_reducible first | exact HI505.out | apply IsS79.alloc | apply IsS79.drewN | apply IsS79.drew | apply IsS79.set_1) | exact HI505.out)); (case side2 => repeat (first | (with_reducible first | exact HB.out | apply below_alloc | apply pw_below_drewN | apply below_drew1 | refine below_set ?_ (IsS79.ge HI505.out)) | exact HB.out)); (case side3 => repeat (first | exact (Kd.R_reads' HO510.out).2.2 | (with_reducible refine Kd.C_alloc ?_ _) | (with_reducible refine Kd.C_drewN ?_ _) | (with_reducible refine Kd.C_drew ?_))); (case side4 => exact (Kd.R_reads' HO510.out).2.1); (case side5 => exact far_slice (IsS79.own_ne HI505.out HO510.out (by decide))); rintro e w11 ⟨rfl, hi, hb, hk⟩; refine ⟨_, rfl, ?_⟩; have n0_ := Aside0.mk (Kd.R_mono (Kd.R_keep (IsS79.apart (show IsS79 w _ g505 t503 t507 from by repeat (first | (with_reducible first | exact HI505.out | apply IsS79.alloc | apply IsS79.drewN | apply IsS79.drew | apply IsS79.set_1) | exact HI505.out)) (zR HO510.out) (by decide)) hk (fun _ h => h.2)) (fun _ h => h.1)); have n1_ := Aside0.mk (hb); have n2_ := Aside0.mk (hi); clear HO510; clear HB; clear HI505; have HO510 := n0_; have HB := n1_; have HI505 := n2_; clear n0_ n1_ n2_; (try clear hb); (try clear hb2); (try clear hk); (try clear hi)))
    go_ret
    exact ⟨by first | rfl | (simp [errW_none, errW_some] <;> rfl) | (simp [*, errW_none, errW_some] <;> rfl), by repeat (first | (with_reducible first | exact HB.out | apply below_alloc | apply pw_below_drewN | apply below_drew1 | refine below_set ?_ (IsS79.ge HI505.out)) | exact HB.out)⟩
  · rw [if_neg c4] at H
    have c4b0 : (t506 == 0) = false := beq_eq_false_iff_ne.mpr c4
    have c4b1 : (t506 != 0) = true := bne_iff_ne.mpr c4
    replace H := Option.bind_eq_some_iff.mp H
    obtain ⟨⟨t513, t514⟩, A120, H⟩ := H
    replace H : ((spec_l3Put.f k t513).bind fun t515 => ((spec_l14Bent.f k t503 t514 t515).bind fun bt516 => (some bt516.1))) = some r := H
    have A12 := Aside0.mk A120
    clear A120
    replace H := Option.bind_eq_some_iff.mp H
    obtain ⟨t515, A130, H⟩ := H
    replace H : ((spec_l14Bent.f k t503 t514 t515).bind fun bt516 => (some bt516.1)) = some r := H
    have A13 := Aside0.mk A130
    clear A130
    replace H := Option.bind_eq_some_iff.mp H
    obtain ⟨⟨t516, t517⟩, A140, H⟩ := H
    replace H : (some t516) = some r := H
    have A14 := Aside0.mk A140
    clear A140
    obtain rfl := Option.some.inj H
    go_enter Tryd.func29, Tryd.ntmps29
    go_wp2_with (first | ((with_reducible refine gate_callee (f := 45) rfl ?_); refine goesL_ (some 5) rfl rfl Tryd.func45 (by kernel_rfl) rfl #[.slice A0 l0.length c0] rfl za ?_; (with_reducible refine (spec_l1Open.calls _ _ l0 t503 t504 w _ ?side1 ?side2 ?side3 A2.out).mono ?_); (case side1 => repeat (first | (with_reducible first | exact HB.out | apply below_alloc | apply pw_below_drewN | apply below_drew1) | exact HB.out)); (case side2 => exact HR0.out); (case side3 => exact HC0.out); rintro e w15 ⟨g505, rfl, hi, hb, hb2⟩; refine ⟨_, rfl, ?_⟩; have n0_ := Aside0.mk (hb); have n1_ := Aside0.mk (hi); clear HB; have HB := n0_; have HI505 := n1_; clear n0_ n1_; (try clear hb); (try clear hb2); (try clear hk); (try clear hi)) | ((with_reducible refine gate_callee (f := 47) rfl ?_); refine goesL_ (some 7) rfl rfl Tryd.func47 (by kernel_rfl) rfl #[.pointer (some ⟨g505, 0, none⟩), .int .i64 8] rfl za ?_; (with_reducible refine (spec_l1Rd_pick.calls k g505 t503 t504 8 t506 t507 w _ ?side1 ?side2 A3.out).mono ?_); (case side1 => repeat (first | (with_reducible first | exact HI505.out | apply IsS79.alloc | apply IsS79.drewN | apply IsS79.drew | apply IsS79.set_1) | exact HI505.out)); (case side2 => repeat (first | (with_reducible first | exact HB.out | apply below_alloc | apply pw_below_drewN | apply below_drew1 | refine below_set ?_ (IsS79.ge HI505.out)) | exact HB.out)); rintro e w16 ⟨rfl, hi, hb, hk⟩; refine ⟨_, rfl, ?_⟩; have n0_ := Aside0.mk (hb); have n1_ := Aside0.mk (hi); clear HB; clear HI505; have HB := n0_; have HI505 := n1_; clear n0_ n1_; (try clear hb); (try clear hb2); (try clear hk); (try clear hi)) | ((with_reducible refine gate_callee (f := 55) rfl ?_); refine goesL_ (some 14) rfl rfl Tryd.func55 (by kernel_rfl) rfl #[.pointer (some ⟨g505, 0, none⟩)] rfl za ?_; (with_reducible refine (spec_l14Day.calls k g505 t503 t507 t513 t514 w _ ?side1 ?side2 A12.out).mono ?_); (case side1 => repeat (first | (with_reducible first | exact HI505.out | apply IsS79.alloc | apply IsS79.drewN | apply IsS79.drew | apply IsS79.set_1) | exact HI505.out)); (case side2 => repeat (first | (with_reducible first | exact HB.out | apply below_alloc | apply pw_below_drewN | apply below_drew1 | refine below_set ?_ (IsS79.ge HI505.out)) | exact HB.out)); rintro e w17 ⟨rfl, hi, hb, hk⟩; refine ⟨_, rfl, ?_⟩; have n0_ := Aside0.mk (hb); have n1_ := Aside0.mk (hi); clear HB; clear HI505; have HB := n0_; have HI505 := n1_; clear n0_ n1_; (try clear hb); (try clear hb2); (try clear hk); (try clear hi)) | ((with_reducible refine gate_callee (f := 37) rfl ?_); refine goesL_ (some 15) rfl rfl Tryd.func37 (by kernel_rfl) rfl #[.int .i64 t513] rfl za ?_; (with_reducible refine (spec_l3Put.calls k t513 t515 _ A13.out).mono ?_); rintro e w18 ⟨rfl, hb⟩; refine ⟨_, rfl, ?_⟩; have n0_ := Aside0.mk (IsS79.below (by repeat (first | (with_reducible first | exact HI505.out | apply IsS79.alloc | apply IsS79.drewN | apply IsS79.drew | apply IsS79.set_1) | exact HI505.out)) hb); have n1_ := Aside0.mk (below_step (by repeat (first | (with_reducible first | exact HB.out | apply below_alloc | apply pw_below_drewN | apply below_drew1 | refine below_set ?_ (IsS79.ge HI505.out)) | exact HB.out)) hb); clear HI505; clear HB; have HI505 := n0_; have HB := n1_; clear n0_ n1_; (try clear hb); (try clear hb2); (try clear hk); (try clear hi)) | ((with_reducible refine gate_callee (f := 49) rfl ?_); refine goesL_ (some 16) rfl rfl Tryd.func49 (by kernel_rfl) rfl #[.pointer (some ⟨g505, 0, none⟩), .string t515] rfl za ?_; (with_reducible refine (spec_l14Bent.calls k g505 t503 t514 t515 t516 t517 w _ ?side1 ?side2 A14.out).mono ?_); (case side1 => repeat (first | (with_reducible first | exact HI505.out | apply IsS79.alloc | apply IsS79.drewN | apply IsS79.drew | apply IsS79.set_1) | exact HI505.out)); (case side2 => repeat (first | (with_reducible first | exact HB.out | apply below_alloc | apply pw_below_drewN | apply below_drew1 | refine below_set ?_ (IsS79.ge HI505.out)) | exact HB.out)); rintro e w19 ⟨rfl, hi, hb, hk⟩; refine ⟨_, rfl, ?_⟩; have n0_ := Aside0.mk (hb); have n1_ := Aside0.mk (hi); clear HB; clear HI505; have HB := n0_; have HI505 := n1_; clear n0_ n1_; (try clear hb); (try clear hb2); (try clear hk); (try clear hi)))
    go_ret
    exact ⟨by first | rfl | (simp [errW_none, errW_some] <;> rfl) | (simp [*, errW_none, errW_some] <;> rfl), by repeat (first | (with_reducible first | exact HB.out | apply below_alloc | apply pw_below_drewN | apply below_drew1 | refine below_set ?_ (IsS79.ge HI505.out)) | exact HB.out)⟩
end Go.Proofs.YtgeloncilhighaaDoor.Pr
end
section
namespace Go.Proofs.YtgeloncilhighaaDoor.Pr
open Go.RowKit Go.Proofs.YtgeloncilhighaaDoorW.PrintWords Go.Proofs.YtgeloncilhighaaDoorW.PrintLast Go.Proofs.YtgeloncilhighaaDoor.Ext Go.Proofs.YtgeloncilhighaaDoorW.PrintMore
attribute [local go_sem] max2_int min2_int max_two min_two max_three min_three max_four min_four
set_option linter.unusedVariables false
set_option linter.unusedSimpArgs false
def laws_FnDayGet.f (k : Nat) (l0 : List Int) : Option (Bool) := if (l0.length : Int) > 1048576 then (some true) else ((spec_DrawDayGet.f k l0).bind fun t518 => ((impl_DayGet.f k t518).bind fun bt519 => ((spec_DayGet.f k t518).bind fun bt521 => (if (bt519.2 != bt521.2) = true then (if (bt519.2 == bt521.2) = true then (some (bt519.1 == bt521.1)) else (some false)) else (if bt519.1 = bt521.1 then (if bt519.2 = true then ((impl_DayPut.f k bt519.1).bind fun t523 => (some (t523.toList == t518.toList))) else (if (bt519.2 == bt521.2) = true then (some (bt519.1 == bt521.1)) else (some false))) else (if (bt519.2 == bt521.2) = true then (some (bt519.1 == bt521.1)) else (some false)))))))
set_option maxHeartbeats 8000000 in
set_option maxRecDepth 100000 in
theorem laws_FnDayGet.calls (k : Nat) (A0 : Option Addr) (c0 : Nat) (l0 : List Int) (r : Bool) (w : World) (hT : EnvA w) (hr0 : Kd.C (Kd.int .u8) w A0 l0.length l0) (hc0 : l0.length ≤ c0) (h : laws_FnDayGet.f k l0 = some r) :
    Calls Tryd.prog 10 #[.slice A0 l0.length c0] w fun e w' => e = .returned (.bool r) ∧ Below w.heap.size w w' := by
  have HR0 := Aside0.mk hr0
  have HC0 := Aside0.mk hc0
  clear hr0 hc0
  have HB := Aside0.mk (Below.refl w.heap.size w)
  have HT := Aside0.mk hT
  clear hT
  have H : (if (l0.length : Int) > 1048576 then (some true) else ((spec_DrawDayGet.f k l0).bind fun t518 => ((impl_DayGet.f k t518).bind fun bt519 => ((spec_DayGet.f k t518).bind fun bt521 => (if (bt519.2 != bt521.2) = true then (if (bt519.2 == bt521.2) = true then (some (bt519.1 == bt521.1)) else (some false)) else (if bt519.1 = bt521.1 then (if bt519.2 = true then ((impl_DayPut.f k bt519.1).bind fun t523 => (some (t523.toList == t518.toList))) else (if (bt519.2 == bt521.2) = true then (some (bt519.1 == bt521.1)) else (some false))) else (if (bt519.2 == bt521.2) = true then (some (bt519.1 == bt521.1)) else (some false)))))))) = some r := h
  clear h
  by_cases c2 : (l0.length : Int) > 1048576
  · rw [if_pos c2] at H
    have c2b0 : decide (1048576 < (l0.length : Int)) = true := decide_eq_true c2
    have c2b1 : decide (1048576 < l0.length) = true := decide_eq_true (by omega)
    clear c2
    obtain rfl := Option.some.inj H
    go_enter Tryd.func10, Tryd.ntmps10
    go_wp2
    go_ret
    exact ⟨by first | rfl | (simp [errW_none, errW_some] <;> rfl) | (simp [*, errW_none, errW_some] <;> rfl), zb⟩
  · rw [if_neg c2] at H
    have c2b0 : decide (1048576 < (l0.length : Int)) = false := decide_eq_false c2
    have c2b1 : decide (1048576 < l0.length) = false := decide_eq_false (by omega)
    clear c2
    replace H := Option.bind_eq_some_iff.mp H
    obtain ⟨t518, A30, H⟩ := H
    replace H : ((impl_DayGet.f k t518).bind fun bt519 => ((spec_DayGet.f k t518).bind fun bt521 => (if (bt519.2 != bt521.2) = true then (if (bt519.2 == bt521.2) = true then (some (bt519.1 == bt521.1)) else (some false)) else (if bt519.1 = bt521.1 then (if bt519.2 = true then ((impl_DayPut.f k bt519.1).bind fun t523 => (some (t523.toList == t518.toList))) else (if (bt519.2 == bt521.2) = true then (some (bt519.1 == bt521.1)) else (some false))) else (if (bt519.2 == bt521.2) = true then (some (bt519.1 == bt521.1)) else (some false)))))) = some r := H
    have A3 := Aside0.mk A30
    clear A30
    replace H := Option.bind_eq_some_iff.mp H
    obtain ⟨⟨t519, t520⟩, A40, H⟩ := H
    replace H : ((spec_DayGet.f k t518).bind fun bt521 => (if (t520 != bt521.2) = true then (if (t520 == bt521.2) = true then (some (t519 == bt521.1)) else (some false)) else (if t519 = bt521.1 then (if t520 = true then ((impl_DayPut.f k t519).bind fun t523 => (some (t523.toList == t518.toList))) else (if (t520 == bt521.2) = true then (some (t519 == bt521.1)) else (some false))) else (if (t520 == bt521.2) = true then (some (t519 == bt521.1)) else (some false))))) = some r := H
    have A4 := Aside0.mk A40
    clear A40
    replace H := Option.bind_eq_some_iff.mp H
    obtain ⟨⟨t521, t522⟩, A50, H⟩ := H
    replace H : (if (t520 != t522) = true then (if (t520 == t522) = true then (some (t519 == t521)) else (some false)) else (if t519 = t521 then (if t520 = true then ((impl_DayPut.f k t519).bind fun t523 => (some (t523.toList == t518.toList))) else (if (t520 == t522) = true then (some (t519 == t521)) else (some false))) else (if (t520 == t522) = true then (some (t519 == t521)) else (some false)))) = some r := H
    have A5 := Aside0.mk A50
    clear A50
    by_cases c6 : (t520 != t522) = true
    · rw [if_pos c6] at H
      have c6b0 : (t520 != t522) = true := c6
      (try (have c6b1 : decide (t520 = t522) = false := by simpa using c6))
      (try (have c6b2 : (t520 == t522) = false := by simpa using c6))
      (try (have c6b3 : ¬ (t520 = t522) := by simpa using c6))
      clear c6
      by_cases c7 : (t520 == t522) = true
      · rw [if_pos c7] at H
        have c7b0 : (t520 == t522) = true := c7
        (try (have c7b1 : decide (t520 = t522) = true := by simpa using c7))
        (try (have c7b2 : (t520 == t522) = true := by simpa using c7))
        clear c7
        obtain rfl := Option.some.inj H
        exact absurd c7b2 (by rw [c6b2]; simp)
      · rw [if_neg c7] at H
        have c7b0 : (t520 == t522) = false := by simpa using c7
        (try (have c7b1 : decide (t520 = t522) = false := by simpa using c7))
        (try (have c7b2 : (t520 == t522) = false := by simpa using c7))
        (try (have c7b3 : ¬ (t520 = t522) := by simpa using c7))
        clear c7
        obtain rfl := Option.some.inj H
        go_enter Tryd.func10, Tryd.ntmps10
        go_wp2_with (first | ((with_reducible refine gate_callee (f := 29) rfl ?_); refine goesL_ (some 12) rfl rfl Tryd.func29 (by kernel_rfl) rfl #[.slice A0 l0.length c0] rfl za ?_; (with_reducible refine (spec_DrawDayGet.calls k _ _ l0 t518 _ ?side1 ?side2 A3.out).mono ?_); (case side1 => repeat (first | exact HR0.out | (with_reducible refine Kd.C_alloc ?_ _) | (with_reducible refine Kd.C_drewN ?_ _) | (with_reducible refine Kd.C_drew ?_))); (case side2 => exact HC0.out); rintro e w10 ⟨rfl, hb⟩; refine ⟨_, rfl, ?_⟩; have n0_ := Aside0.mk (below_step zb hb); clear HB; have HB := n0_; clear n0_; (try clear hb); (try clear hb2); (try clear hk); (try clear hi)) | ((with_reducible refine gate_callee (f := 27) rfl ?_); refine goesL_ (some 15) rfl rfl Tryd.func27 (by kernel_rfl) rfl #[.string t518] rfl za ?_; (with_reducible refine (impl_DayGet.calls k t518 t519 t520 _ ?side1 A4.out).mono ?_); (case side1 => exact HT.out.below zb); rintro e w11 ⟨rfl, hb⟩; refine ⟨_, rfl, ?_⟩; have n0_ := Aside0.mk (below_step zb hb); clear HB; have HB := n0_; clear n0_; (try clear hb); (try clear hb2); (try clear hk); (try clear hi)) | ((with_reducible refine gate_callee (f := 26) rfl ?_); refine goesL_ (some 20) rfl rfl Tryd.func26 (by kernel_rfl) rfl #[.string t518] rfl za ?_; (with_reducible refine (spec_DayGet.calls k t518 t521 t522 _ A5.out).mono ?_); rintro e w' ⟨rfl, ⟨nd, rfl⟩⟩; refine ⟨_, rfl, ?_⟩))
        go_ret
        exact ⟨by first | rfl | (simp [errW_none, errW_some] <;> rfl) | (simp [*, errW_none, errW_some] <;> rfl), zb⟩
    · rw [if_neg c6] at H
      have c6b0 : (t520 != t522) = false := by simpa using c6
      (try (have c6b1 : decide (t520 = t522) = true := by simpa using c6))
      (try (have c6b2 : (t520 == t522) = true := by simpa using c6))
      clear c6
      by_cases c12 : t519 = t521
      · rw [if_pos c12] at H
        have c12b0 : (t519 == t521) = true := beq_iff_eq.mpr c12
        have c12b1 : (t519 != t521) = false := bne_eq_false_iff_eq.mpr c12
        clear c12
        by_cases c13 : t520 = true
        · subst c13
          have H1 : ((impl_DayPut.f k t519).bind fun t523 => (some (t523.toList == t518.toList))) = some r := by rw [if_pos rfl] at H; exact H
          clear H
          have H := H1
          clear H1
          replace H := Option.bind_eq_some_iff.mp H
          obtain ⟨t523, A140, H⟩ := H
          replace H : (some (t523.toList == t518.toList)) = some r := H
          have A14 := Aside0.mk A140
          clear A140
          obtain rfl := Option.some.inj H
          go_enter Tryd.func10, Tryd.ntmps10
          go_wp2_with (first | ((with_reducible refine gate_callee (f := 29) rfl ?_); refine goesL_ (some 12) rfl rfl Tryd.func29 (by kernel_rfl) rfl #[.slice A0 l0.length c0] rfl za ?_; (with_reducible refine (spec_DrawDayGet.calls k _ _ l0 t518 _ ?side1 ?side2 A3.out).mono ?_); (case side1 => repeat (first | exact HR0.out | (with_reducible refine Kd.C_alloc ?_ _) | (with_reducible refine Kd.C_drewN ?_ _) | (with_reducible refine Kd.C_drew ?_))); (case side2 => exact HC0.out); rintro e w15 ⟨rfl, hb⟩; refine ⟨_, rfl, ?_⟩; have n0_ := Aside0.mk (below_step zb hb); clear HB; have HB := n0_; clear n0_; (try clear hb); (try clear hb2); (try clear hk); (try clear hi)) | ((with_reducible refine gate_callee (f := 27) rfl ?_); refine goesL_ (some 15) rfl rfl Tryd.func27 (by kernel_rfl) rfl #[.string t518] rfl za ?_; (with_reducible refine (impl_DayGet.calls k t518 t519 true _ ?side1 A4.out).mono ?_); (case side1 => exact HT.out.below zb); rintro e w16 ⟨rfl, hb⟩; refine ⟨_, rfl, ?_⟩; have n0_ := Aside0.mk (below_step zb hb); clear HB; have HB := n0_; clear n0_; (try clear hb); (try clear hb2); (try clear hk); (try clear hi)) | ((with_reducible refine gate_callee (f := 26) rfl ?_); refine goesL_ (some 20) rfl rfl Tryd.func26 (by kernel_rfl) rfl #[.string t518] rfl za ?_; (with_reducible refine (spec_DayGet.calls k t518 t521 t522 _ A5.out).mono ?_); rintro e w' ⟨rfl, ⟨nd, rfl⟩⟩; refine ⟨_, rfl, ?_⟩) | ((with_reducible refine gate_callee (f := 18) rfl ?_); refine goesL_ (some 44) rfl rfl Tryd.func18 (by kernel_rfl) rfl #[.int .i64 t519] rfl za ?_; (with_reducible refine (impl_DayPut.calls k t519 t523 _ ?side1 A14.out).mono ?_); (case side1 => exact HT.out.toI.below zb); rintro e w17 ⟨rfl, hb⟩; refine ⟨_, rfl, ?_⟩; have n0_ := Aside0.mk (below_step zb hb); clear HB; have HB := n0_; clear n0_; (try clear hb); (try clear hb2); (try clear hk); (try clear hi)))
          go_ret
          exact ⟨by first | rfl | (simp [errW_none, errW_some] <;> rfl) | (simp [*, errW_none, errW_some] <;> rfl), zb⟩
        · replace c13 := Bool.eq_false_iff.mpr c13
          subst c13
          have H1 : (if (false == t522) = true then (some (t519 == t521)) else (some false)) = some r := by rw [if_neg (show ¬ (false = true) by decide)] at H; exact H
          clear H
          have H := H1
          clear H1
          by_cases c18 : (false == t522) = true
          · rw [if_pos c18] at H
            have c18b0 : (false == t522) = true := c18
            (try (have c18b1 : decide (false = t522) = true := by simpa using c18))
            (try (have c18b2 : (false == t522) = true := by simpa using c18))
            clear c18
            obtain rfl := Option.some.inj H
            go_enter Tryd.func10, Tryd.ntmps10
            go_wp2_with (first | ((with_reducible refine gate_callee (f := 29) rfl ?_); refine goesL_ (some 12) rfl rfl Tryd.func29 (by kernel_rfl) rfl #[.slice A0 l0.length c0] rfl za ?_; (with_reducible refine (spec_DrawDayGet.calls k _ _ l0 t518 _ ?side1 ?side2 A3.out).mono ?_); (case side1 => repeat (first | exact HR0.out | (with_reducible refine Kd.C_alloc ?_ _) | (with_reducible refine Kd.C_drewN ?_ _) | (with_reducible refine Kd.C_drew ?_))); (case side2 => exact HC0.out); rintro e w19 ⟨rfl, hb⟩; refine ⟨_, rfl, ?_⟩; have n0_ := Aside0.mk (below_step zb hb); clear HB; have HB := n0_; clear n0_; (try clear hb); (try clear hb2); (try clear hk); (try clear hi)) | ((with_reducible refine gate_callee (f := 27) rfl ?_); refine goesL_ (some 15) rfl rfl Tryd.func27 (by kernel_rfl) rfl #[.string t518] rfl za ?_; (with_reducible refine (impl_DayGet.calls k t518 t519 false _ ?side1 A4.out).mono ?_); (case side1 => exact HT.out.below zb); rintro e w20 ⟨rfl, hb⟩; refine ⟨_, rfl, ?_⟩; have n0_ := Aside0.mk (below_step zb hb); clear HB; have HB := n0_; clear n0_; (try clear hb); (try clear hb2); (try clear hk); (try clear hi)) | ((with_reducible refine gate_callee (f := 26) rfl ?_); refine goesL_ (some 20) rfl rfl Tryd.func26 (by kernel_rfl) rfl #[.string t518] rfl za ?_; (with_reducible refine (spec_DayGet.calls k t518 t521 t522 _ A5.out).mono ?_); rintro e w' ⟨rfl, ⟨nd, rfl⟩⟩; refine ⟨_, rfl, ?_⟩))
            go_ret
            exact ⟨by first | rfl | (simp [errW_none, errW_some] <;> rfl) | (simp [*, errW_none, errW_some] <;> rfl), zb⟩
          · rw [if_neg c18] at H
            have c18b0 : (false == t522) = false := by simpa using c18
            (try (have c18b1 : decide (false = t522) = false := by simpa using c18))
            (try (have c18b2 : (false == t522) = false := by simpa using c18))
            (try (have c18b3 : ¬ (false = t522) := by simpa using c18))
            clear c18
            obtain rfl := Option.some.inj H
            exact absurd c18b2 (by rw [c6b2]; simp)
      · rw [if_neg c12] at H
        have c12b0 : (t519 == t521) = false := beq_eq_false_iff_ne.mpr c12
        have c12b1 : (t519 != t521) = true := bne_iff_ne.mpr c12
        by_cases c23 : (t520 == t522) = true
        · rw [if_pos c23] at H
          have c23b0 : (t520 == t522) = true := c23
          (try (have c23b1 : decide (t520 = t522) = true := by simpa using c23))
          (try (have c23b2 : (t520 == t522) = true := by simpa using c23))
          clear c23
          obtain rfl := Option.some.inj H
          go_enter Tryd.func10, Tryd.ntmps10
          go_wp2_with (first | ((with_reducible refine gate_callee (f := 29) rfl ?_); refine goesL_ (some 12) rfl rfl Tryd.func29 (by kernel_rfl) rfl #[.slice A0 l0.length c0] rfl za ?_; (with_reducible refine (spec_DrawDayGet.calls k _ _ l0 t518 _ ?side1 ?side2 A3.out).mono ?_); (case side1 => repeat (first | exact HR0.out | (with_reducible refine Kd.C_alloc ?_ _) | (with_reducible refine Kd.C_drewN ?_ _) | (with_reducible refine Kd.C_drew ?_))); (case side2 => exact HC0.out); rintro e w24 ⟨rfl, hb⟩; refine ⟨_, rfl, ?_⟩; have n0_ := Aside0.mk (below_step zb hb); clear HB; have HB := n0_; clear n0_; (try clear hb); (try clear hb2); (try clear hk); (try clear hi)) | ((with_reducible refine gate_callee (f := 27) rfl ?_); refine goesL_ (some 15) rfl rfl Tryd.func27 (by kernel_rfl) rfl #[.string t518] rfl za ?_; (with_reducible refine (impl_DayGet.calls k t518 t519 t520 _ ?side1 A4.out).mono ?_); (case side1 => exact HT.out.below zb); rintro e w25 ⟨rfl, hb⟩; refine ⟨_, rfl, ?_⟩; have n0_ := Aside0.mk (below_step zb hb); clear HB; have HB := n0_; clear n0_; (try clear hb); (try clear hb2); (try clear hk); (try clear hi)) | ((with_reducible refine gate_callee (f := 26) rfl ?_); refine goesL_ (some 20) rfl rfl Tryd.func26 (by kernel_rfl) rfl #[.string t518] rfl za ?_; (with_reducible refine (spec_DayGet.calls k t518 t521 t522 _ A5.out).mono ?_); rintro e w' ⟨rfl, ⟨nd, rfl⟩⟩; refine ⟨_, rfl, ?_⟩))
          go_ret
          exact ⟨by first | rfl | (simp [errW_none, errW_some] <;> rfl) | (simp [*, errW_none, errW_some] <;> rfl), zb⟩
        · rw [if_neg c23] at H
          have c23b0 : (t520 == t522) = false := by simpa using c23
          (try (have c23b1 : decide (t520 = t522) = false := by simpa using c23))
          (try (have c23b2 : (t520 == t522) = false := by simpa using c23))
          (try (have c23b3 : ¬ (t520 = t522) := by simpa using c23))
          clear c23
          obtain rfl := Option.some.inj H
          go_enter Tryd.func10, Tryd.ntmps10
          go_wp2_with (first | ((with_reducible refine gate_callee (f := 29) rfl ?_); refine goesL_ (some 12) rfl rfl Tryd.func29 (by kernel_rfl) rfl #[.slice A0 l0.length c0] rfl za ?_; (with_reducible refine (spec_DrawDayGet.calls k _ _ l0 t518 _ ?side1 ?side2 A3.out).mono ?_); (case side1 => repeat (first | exact HR0.out | (with_reducible refine Kd.C_alloc ?_ _) | (with_reducible refine Kd.C_drewN ?_ _) | (with_reducible refine Kd.C_drew ?_))); (case side2 => exact HC0.out); rintro e w26 ⟨rfl, hb⟩; refine ⟨_, rfl, ?_⟩; have n0_ := Aside0.mk (below_step zb hb); clear HB; have HB := n0_; clear n0_; (try clear hb); (try clear hb2); (try clear hk); (try clear hi)) | ((with_reducible refine gate_callee (f := 27) rfl ?_); refine goesL_ (some 15) rfl rfl Tryd.func27 (by kernel_rfl) rfl #[.string t518] rfl za ?_; (with_reducible refine (impl_DayGet.calls k t518 t519 t520 _ ?side1 A4.out).mono ?_); (case side1 => exact HT.out.below zb); rintro e w27 ⟨rfl, hb⟩; refine ⟨_, rfl, ?_⟩; have n0_ := Aside0.mk (below_step zb hb); clear HB; have HB := n0_; clear n0_; (try clear hb); (try clear hb2); (try clear hk); (try clear hi)) | ((with_reducible refine gate_callee (f := 26) rfl ?_); refine goesL_ (some 20) rfl rfl Tryd.func26 (by kernel_rfl) rfl #[.string t518] rfl za ?_; (with_reducible refine (spec_DayGet.calls k t518 t521 t522 _ A5.out).mono ?_); rintro e w' ⟨rfl, ⟨nd, rfl⟩⟩; refine ⟨_, rfl, ?_⟩))
          go_ret
          exact ⟨by first | rfl | (simp [errW_none, errW_some] <;> rfl) | (simp [*, errW_none, errW_some] <;> rfl), zb⟩
def laws_FnDayGet.Pure : Prop := ∀ (l0 : List Int), l0.length ≤ maxLen → l0.length * 1 ≤ 140737488351232 → (∀ x ∈ l0, (Lit.int .u8 x).wf = true) → ∃ k, laws_FnDayGet.f k l0 = some true
theorem laws_FnDayGet.walk (P : laws_FnDayGet.Pure) (a0 : Option Addr) (len0 cap0 : Nat) (z0 : List Int) (w : World) (hT : EnvA w) (w0 : (a0 = none ∧ len0 = 0 ∧ cap0 = 0 ∧ z0 = []) ∨ ∃ x, a0 = some x ∧ len0 ≤ cap0 ∧ cap0 ≤ maxLen ∧ z0.length = cap0 ∧ (∀ i, i < z0.length → w.cell? (x.add i) = some (.int .u8 (z0.getD i 0))) ∧ ∀ n ∈ z0, (Lit.int .u8 n).wf = true) (y0 : len0 * 1 ≤ 140737488351232) :
    Calls Tryd.prog 10 #[.slice a0 len0 cap0] w fun e w' => e = .returned (.bool true) ∧ Below w.heap.size w w' := by
  obtain ⟨l0, rfl, hr0, hm0, hw0, hc0⟩ := ReadsInt.ofRowC w0
  obtain ⟨k, h⟩ := P l0 hm0 y0 hw0
  refine (laws_FnDayGet.calls k _ _ l0 true w hT (Kd.C_of_reads (d := (0 : Int)) (h1 := fun _ => rfl) hr0) hc0 h).mono ?_
  rintro e w' ⟨rfl, hd⟩
  exact ⟨rfl, hd⟩
end Go.Proofs.YtgeloncilhighaaDoor.Pr
end
section
namespace Go.Proofs.YtgeloncilhighaaDoor.Dec
open Go.Lib
set_option linter.unusedVariables false
set_option linter.unusedSimpArgs false
def IsD (b : UInt8) : Prop := 48 ≤ b.toNat ∧ b.toNat ≤ 57
instance (b : UInt8) : Decidable (IsD b) := inferInstanceAs (Decidable (_ ∧ _))
def Digs (l : List UInt8) : Prop := ∀ b ∈ l, IsD b
instance (l : List UInt8) : Decidable (Digs l) := inferInstanceAs (Decidable (∀ b ∈ l, IsD b))
def dvalA (a : Nat) (l : List UInt8) : Nat := l.foldl (fun a b => a * 10 + (b.toNat - 48)) a
def dval (l : List UInt8) : Nat := dvalA 0 l
theorem Digs.nil : Digs [] := fun _ h => by cases h
theorem Digs.append {a b : List UInt8} (ha : Digs a) (hb : Digs b) : Digs (a ++ b) := fun x hx => (List.mem_append.1 hx).elim (ha x) (hb x)
theorem Digs.tail {x : UInt8} {a : List UInt8} (h : Digs (x :: a)) : Digs a := fun y hy => h y (by simp [hy])
theorem Digs.head {x : UInt8} {a : List UInt8} (h : Digs (x :: a)) : IsD x := h x (by simp)
theorem dvalA_nil (a : Nat) : dvalA a [] = a := List.foldl_nil
theorem dvalA_cons (a : Nat) (b : UInt8) (r : List UInt8) : dvalA a (b :: r) = dvalA (a * 10 + (b.toNat - 48)) r := List.foldl_cons ..
theorem dvalA_eq0 (l : List UInt8) : ∀ a, dvalA a l = a * 10 ^ l.length + dvalA 0 l := by
  induction l with
  | nil => intro a; rw [dvalA_nil, dvalA_nil, List.length_nil, Nat.pow_zero, Nat.mul_one, Nat.add_zero]
  | cons b r ih =>
    intro a
    rw [dvalA_cons, dvalA_cons, ih, ih (0 * 10 + (b.toNat - 48)), List.length_cons, Nat.pow_succ]
    generalize 10 ^ r.length = P
    generalize b.toNat - 48 = d
    rw [Nat.zero_mul, Nat.zero_add, Nat.add_mul, Nat.mul_assoc, Nat.mul_comm 10 P, Nat.add_assoc]
theorem dvalA_eq (l : List UInt8) (a : Nat) : dvalA a l = a * 10 ^ l.length + dval l := dvalA_eq0 l a
theorem dvalA_append (x b : List UInt8) (n : Nat) : dvalA n (x ++ b) = dvalA (dvalA n x) b := List.foldl_append ..
theorem dval_append (a b : List UInt8) : dval (a ++ b) = dval a * 10 ^ b.length + dval b := by
  unfold dval
  rw [dvalA_append, dvalA_eq b]
  rfl
theorem dval_nil : dval [] = 0 := dvalA_nil 0
theorem dval_one (b : UInt8) : dval [b] = b.toNat - 48 := by unfold dval; rw [dvalA_cons, dvalA_nil, Nat.zero_mul, Nat.zero_add]
theorem dval_cons (b : UInt8) (l : List UInt8) : dval (b :: l) = (b.toNat - 48) * 10 ^ l.length + dval l := by
  unfold dval
  rw [dvalA_cons, dvalA_eq0, Nat.zero_mul, Nat.zero_add]
theorem dval_snoc (l : List UInt8) (b : UInt8) : dval (l ++ [b]) = dval l * 10 + (b.toNat - 48) := by rw [dval_append, dval_one]; simp
theorem dval_lt {l : List UInt8} (h : Digs l) : dval l < 10 ^ l.length := by
  induction l with
  | nil => simp [dval_nil]
  | cons b r ih =>
    have h1 := ih h.tail
    have h2 := h.head
    unfold IsD at h2
    rw [dval_cons, List.length_cons, Nat.pow_succ]
    have h3 : (b.toNat - 48) * 10 ^ r.length ≤ 9 * 10 ^ r.length := Nat.mul_le_mul_right _ (by omega)
    omega
def zerosL (n : Nat) : List UInt8 := List.replicate n 48
theorem zerosL_digs (n : Nat) : Digs (zerosL n) := fun b hb => by
  rw [List.eq_of_mem_replicate hb]; decide
theorem zerosL_dval (n : Nat) : dval (zerosL n) = 0 := by
  induction n with
  | zero => rfl
  | succ n ih => unfold zerosL at *; rw [List.replicate_succ, dval_cons, ih]; simp
theorem zerosL_len (n : Nat) : (zerosL n).length = n := List.length_replicate
theorem ofNat_toNat {d : Nat} (h : d < 10) : (UInt8.ofNat (48 + d)).toNat = 48 + d := by
  rw [UInt8.toNat_ofNat']
  exact Nat.mod_eq_of_lt (by omega)
theorem decDigits_digs (n : Nat) : Digs (decDigits n) := by
  induction n using Nat.strongRecOn with
  | ind n ih =>
    rw [decDigits]
    split
    · intro b hb
      rw [List.mem_singleton.1 hb]
      unfold IsD
      rw [ofNat_toNat (by omega)]
      omega
    · refine (ih (n / 10) (by omega)).append ?_
      intro b hb
      rw [List.mem_singleton.1 hb]
      unfold IsD
      rw [ofNat_toNat (by omega)]
      omega
theorem decDigits_dval (n : Nat) : dval (decDigits n) = n := by
  induction n using Nat.strongRecOn with
  | ind n ih =>
    rw [decDigits]
    split
    · rw [dval_one, ofNat_toNat (by omega)]; omega
    · rw [dval_snoc, ih (n / 10) (by omega), ofNat_toNat (by omega)]; omega
def Canon (l : List UInt8) : Prop := l.length = 1 ∨ (1 < l.length ∧ l.head? ≠ some 48)
instance (l : List UInt8) : Decidable (Canon l) := inferInstanceAs (Decidable (_ ∨ _))
theorem decDigits_len_pos (n : Nat) : 0 < (decDigits n).length := by rw [decDigits]; split <;> simp
theorem decDigits_head (n : Nat) (h : n ≠ 0) : (decDigits n).head? ≠ some 48 := by
  induction n using Nat.strongRecOn with
  | ind n ih =>
    rw [decDigits]
    split
    · intro e
      rw [List.head?_cons, Option.some.injEq] at e
      have := congrArg UInt8.toNat e
      rw [ofNat_toNat (by omega)] at this
      have h48 : (48 : UInt8).toNat = 48 := rfl
      omega
    · have h1 := ih (n / 10) (by omega) (by omega)
      have h2 := decDigits_len_pos (n / 10)
      cases hd : decDigits (n / 10) with
      | nil => rw [hd] at h2; simp at h2
      | cons x xs => rw [hd] at h1; simpa using h1
theorem digit_inj {x y : UInt8} (hx : IsD x) (hy : IsD y) (h : x.toNat - 48 = y.toNat - 48) : x = y := by
  unfold IsD at hx hy
  exact UInt8.toNat_inj.1 (by omega)
theorem digs_uniq_len : ∀ {a b : List UInt8}, Digs a → Digs b → a.length = b.length → dval a = dval b → a = b
  | [], [], _, _, _, _ => rfl
  | [], _ :: _, _, _, h, _ => by simp at h
  | _ :: _, [], _, _, h, _ => by simp at h
  | x :: xs, y :: ys, ha, hb, h, hv => by
    have hl : xs.length = ys.length := by simpa using h
    rw [dval_cons, dval_cons, hl] at hv
    have l1 := dval_lt ha.tail
    have l2 := dval_lt hb.tail
    rw [hl] at l1
    have e : x.toNat - 48 = y.toNat - 48 := by
      have p : 0 < 10 ^ ys.length := Nat.pow_pos (by decide)
      rcases Nat.lt_trichotomy (x.toNat - 48) (y.toNat - 48) with hlt | he | hgt
      · have := Nat.mul_le_mul_right (10 ^ ys.length) (show (x.toNat - 48) + 1 ≤ y.toNat - 48 from hlt)
        rw [Nat.add_mul, Nat.one_mul] at this
        omega
      · exact he
      · have := Nat.mul_le_mul_right (10 ^ ys.length) (show (y.toNat - 48) + 1 ≤ x.toNat - 48 from hgt)
        rw [Nat.add_mul, Nat.one_mul] at this
        omega
    rw [e] at hv
    rw [digit_inj ha.head hb.head e, digs_uniq_len ha.tail hb.tail hl (by omega)]
theorem dval_ge {l : List UInt8} (h : Digs l) (h1 : l.head? ≠ some 48) (h0 : l ≠ []) : 10 ^ (l.length - 1) ≤ dval l := by
  cases l with
  | nil => exact absurd rfl h0
  | cons x xs =>
    have hx := h.head
    have : x.toNat ≠ 48 := fun e => h1 (by rw [List.head?_cons, UInt8.toNat_inj.1 (show x.toNat = (48 : UInt8).toNat from e)])
    unfold IsD at hx
    rw [dval_cons]
    have := Nat.mul_le_mul_right (10 ^ xs.length) (show 1 ≤ x.toNat - 48 by omega)
    simp only [List.length_cons, Nat.add_sub_cancel]
    omega
theorem decDigits_len_le {n k : Nat} (hk : 0 < k) (h : n < 10 ^ k) : (decDigits n).length ≤ k := by
  apply Nat.le_of_not_lt
  intro hlt
  have hn : n ≠ 0 := by
    intro e
    subst e
    have : (decDigits 0).length = 1 := by rw [decDigits, dif_pos (by decide)]; rfl
    omega
  have g := dval_ge (decDigits_digs n) (decDigits_head n hn) (by intro e; have := decDigits_len_pos n; rw [e] at this; simp at this)
  rw [decDigits_dval] at g
  have := Nat.pow_le_pow_right (show 0 < 10 by decide) (show k ≤ (decDigits n).length - 1 by omega)
  omega
def padL (n : Nat) (w : Nat) : List UInt8 := zerosL (w - (decDigits n).length) ++ decDigits n
theorem padL_digs (n w : Nat) : Digs (padL n w) := (zerosL_digs _).append (decDigits_digs n)
theorem padL_dval (n w : Nat) : dval (padL n w) = n := by unfold padL; rw [dval_append, zerosL_dval, decDigits_dval]; omega
theorem padL_len {n w : Nat} (hw : 0 < w) (h : n < 10 ^ w) : (padL n w).length = w := by
  have := decDigits_len_le hw h
  unfold padL
  rw [List.length_append, zerosL_len]; omega
theorem padL_of {l : List UInt8} (h : Digs l) (h0 : 0 < l.length) : padL (dval l) l.length = l :=
  digs_uniq_len (padL_digs _ _) h (padL_len h0 (dval_lt h)) (padL_dval _ _)
end Go.Proofs.YtgeloncilhighaaDoor.Dec
end
section
namespace Go.Proofs.YtgeloncilhighaaDoor.Str
open Go.Lib Go.RowKit Go.Proofs.YtgeloncilhighaaDoor.Dec Go.Proofs.YtgeloncilhighaaDoor.Pr Go.Proofs.YtgeloncilhighaaDoor.Ext Go.Proofs.YtgeloncilhighaaDoorW.PrintWords Go.Proofs.YtgeloncilhighaaDoorW.PrintLast Go.Proofs.YtgeloncilhighaaDoorW.PrintMore
set_option linter.unusedVariables false
set_option linter.unusedSimpArgs false
def str (l : List UInt8) : ByteArray := ⟨l.toArray⟩
theorem str_eta (s : ByteArray) : s = str s.data.toList := by unfold str; simp
theorem str_size (l : List UInt8) : (str l).size = l.length := by unfold str; simp [ByteArray.size]
theorem str_data (l : List UInt8) : (str l).data.toList = l := by unfold str; simp
theorem str_toList (l : List UInt8) : (str l).toList = l := by rw [ByteArray.toList_eq, str_data]
theorem str_append (a b : List UInt8) : str a ++ str b = str (a ++ b) := by
  apply ByteArray.ext
  simp [str]
theorem str_extract (l : List UInt8) (a b : Nat) : (str l).extract a b = str ((l.drop a).take (b - a)) := by
  rw [extract_eq, str_data]; rfl
theorem str_bt (l : List UInt8) {i : Int} (h0 : 0 ≤ i) (h1 : i < l.length) : bt (str l) i = ((l[i.toNat]'(by omega)).toNat : Int) := by
  unfold bt
  rw [dif_pos (by rw [str_size]; omega)]
  rfl
theorem str_btD (l : List UInt8) {i : Int} (h0 : 0 ≤ i) (h1 : i < l.length) : bt (str l) i = ((l.getD i.toNat 0).toNat : Int) := by
  rw [str_bt l h0 h1, List.getD_eq_getElem?_getD, List.getElem?_eq_getElem (by omega)]; rfl
theorem bS {α β : Type} (a : α) (f : α → Option β) : (some a).bind f = f a := by have h := Option.bind_some a f; rw [h]
theorem w64 {x : Int} (h : -9223372036854775808 ≤ x) (h' : x ≤ 9223372036854775807) : wrap64 x = x := by unfold wrap64; omega
theorem itoa_f {n : Int} (h0 : -9223372036854775808 ≤ n) (h1 : n ≤ 9223372036854775807) : lib_Itoa.f n = some (str (itoa n)) := by
  unfold lib_Itoa.f
  rw [if_pos ⟨h0, h1⟩]; rfl
theorem strOf_one {d : Int} (h0 : 0 ≤ d) (h1 : d < 10) : strOfNums [(wrap64 (48 + d)) % 256] = str [UInt8.ofNat (48 + d.toNat)] := by
  rw [w64 (by omega) (by omega), show (48 + d) % 256 = 48 + d from by omega]
  have e : (48 + d).toNat = 48 + d.toNat := by omega
  unfold strOfNums str
  simp [e]
theorem itoa_nonneg {n : Int} (h : 0 ≤ n) : itoa n = decDigits n.toNat := by unfold itoa; rw [if_neg (by omega)]
theorem itoa_neg {n : Int} (h : n < 0) : itoa n = 45 :: decDigits n.natAbs := by unfold itoa; rw [if_pos h]
theorem decDigits_le (n : Nat) : (decDigits n).length ≤ n + 1 := by
  induction n using Nat.strongRecOn with
  | ind n ih =>
    rw [decDigits]
    split
    · simp
    · have := ih (n / 10) (by omega)
      rw [List.length_append, List.length_singleton]; omega
theorem l1Dec_nonneg (m : Nat) : ∀ (k : Nat) (n : Int), 0 ≤ n → n ≤ 9223372036854775807 → n < 10 ^ m → m < k → spec_l1Dec.f k n = some (str (decDigits n.toNat)) := by
  induction m with
  | zero =>
    intro k n h0 _ hm hk
    obtain ⟨k, rfl⟩ : ∃ j, k = j + 1 := ⟨k - 1, by omega⟩
    have hn : n = 0 := by simp at hm; omega
    subst hn
    rw [spec_l1Dec.f, if_neg (by omega), if_neg (by omega), if_pos (by omega), strOf_one (by omega) (by omega), decDigits, dif_pos (by decide)]
  | succ m ih =>
    intro k n h0 h1 hm hk
    obtain ⟨k, rfl⟩ : ∃ j, k = j + 1 := ⟨k - 1, by omega⟩
    rw [spec_l1Dec.f, if_neg (by omega), if_neg (by omega)]
    by_cases h : n < 10
    · rw [if_pos h, strOf_one h0 h, decDigits, dif_pos (by omega)]
    · have hp : (10 : Int) ^ (m + 1) = 10 ^ m * 10 := Int.pow_succ ..
      rw [if_neg h, Int.tdiv_eq_ediv_of_nonneg h0, w64 (by omega) (by omega), ih k (n / 10) (by omega) (by omega) (by rw [hp] at hm; omega) (by omega), Int.tmod_eq_emod_of_nonneg h0]
      simp only [bS]
      have hd := decDigits_le (n / 10).toNat
      have hd2 : (decDigits (n / 10).toNat).length ≤ 19 := decDigits_len_le (by decide) (by omega)
      rw [strOf_one (by omega) (by omega), str_size, str_size, if_pos (by simp; omega), str_append]
      congr 2
      rw [show n.toNat = n.toNat from rfl, decDigits.eq_def n.toNat, dif_neg (by omega)]
      rw [show (n / 10).toNat = n.toNat / 10 from by omega, show (n % 10).toNat = n.toNat % 10 from by omega]
theorem p19 : (10 : Int) ^ 19 = 10000000000000000000 := by decide
theorem l1Dec_eq {n : Int} (h0 : -9223372036854775808 ≤ n) (h1 : n ≤ 9223372036854775807) (k : Nat) (hk : 25 ≤ k) : spec_l1Dec.f k n = some (str (itoa n)) := by
  by_cases h : 0 ≤ n
  · rw [l1Dec_nonneg 19 k n h h1 (by rw [p19]; omega) (by omega), itoa_nonneg h]
  · obtain ⟨k, rfl⟩ : ∃ j, k = j + 1 := ⟨k - 1, by omega⟩
    rw [spec_l1Dec.f]
    by_cases hm : n < -9223372036854775807
    · have : n = -9223372036854775808 := by omega
      subst this
      rw [if_pos hm]
      have e : itoa (-9223372036854775808) = [45, 57, 50, 50, 51, 51, 55, 50, 48, 51, 54, 56, 53, 52, 55, 55, 53, 56, 48, 56] := by decide +kernel
      rw [e]; rfl
    · have hd2 : (decDigits (-n).toNat).length ≤ 19 := decDigits_len_le (by decide) (by omega)
      rw [if_neg hm, if_pos (by omega), w64 (by omega) (by omega), l1Dec_nonneg 19 k (-n) (by omega) (by omega) (by rw [p19]; omega) (by omega)]
      simp only [bS]
      rw [str_size, if_pos (by omega), itoa_neg (by omega), show n.natAbs = (-n).toNat from by omega]
      exact congrArg some (str_append [45] _)
theorem itoa_len {n : Int} (h0 : -9223372036854775808 ≤ n) (h1 : n ≤ 9223372036854775807) : (itoa n).length ≤ 20 := by
  by_cases h : 0 ≤ n
  · rw [itoa_nonneg h]
    have : (decDigits n.toNat).length ≤ 19 := decDigits_len_le (by decide) (by omega)
    omega
  · rw [itoa_neg (by omega)]
    have : (decDigits n.natAbs).length ≤ 19 := decDigits_len_le (by decide) (by omega)
    rw [List.length_cons]; omega
end Go.Proofs.YtgeloncilhighaaDoor.Str
end
section
namespace Go.Proofs.YtgeloncilhighaaDoor.Drw
open Go.RowKit Go.Lib Go.Proofs.YtgeloncilhighaaDoor.Pr Go.Proofs.YtgeloncilhighaaDoor.Ext Go.Proofs.YtgeloncilhighaaDoor.Str Go.Proofs.YtgeloncilhighaaDoorW.PrintWords Go.Proofs.YtgeloncilhighaaDoorW.PrintLast Go.Proofs.YtgeloncilhighaaDoorW.PrintMore
set_option linter.unusedVariables false
set_option linter.unusedSimpArgs false
theorem wf8 {a : Int} (h : (Lit.int .u8 a).wf = true) : 0 ≤ a ∧ a ≤ 255 := by
  simp [Lit.wf, IntKind.min, IntKind.max, IntKind.signed, IntKind.bits] at h; omega
theorem rd_mem {l : List Int} {i : Int} (h0 : 0 ≤ i) (h : i < (l.length : Int)) : rd l i ∈ l := by
  have hi : i.toNat < l.length := by omega
  unfold rd
  rw [List.getD_eq_getElem?_getD, List.getElem?_eq_getElem hi]
  exact List.getElem_mem hi
theorem xor_nonneg {x y : Int} (hx : 0 ≤ x) (hx' : x < 4611686018427387904) (hy : 0 ≤ y) (hy' : y < 4611686018427387904) : 0 ≤ Go.bits .xor .i64 x y := by
  obtain ⟨a, rfl⟩ := Int.eq_ofNat_of_zero_le hx
  obtain ⟨b, rfl⟩ := Int.eq_ofNat_of_zero_le hy
  have ha : a < 2 ^ 62 := by omega
  have hb : b < 2 ^ 62 := by omega
  have hlt := Nat.xor_lt_two_pow ha hb
  have ha' : a % 2 ^ IntKind.i64.bits = a := Nat.mod_eq_of_lt (by show a < 2 ^ 64; omega)
  have hb' : b % 2 ^ IntKind.i64.bits = b := Nat.mod_eq_of_lt (by show b < 2 ^ 64; omega)
  have e : Go.bits .xor .i64 (a : Int) (b : Int) = ((a ^^^ b : Nat) : Int) := by
    simp only [Go.bits, BitVec.ofInt_natCast, BitVec.toNat_xor, BitVec.toNat_ofNat, ha', hb']
    rw [IntKind.wrap_i64]
    omega
  rw [e]
  omega
def BytesOk (b : List Int) : Prop := b.length ≤ 2000 ∧ ∀ x ∈ b, 0 ≤ x ∧ x ≤ 255
theorem pick_any {b : List Int} (hb : BytesOk b) {p n : Int} (hp : 0 ≤ p) (hp' : p ≤ 1000000) (hn : 1 ≤ n) :
    ∃ r, (∀ k, spec_l1Rd_pick.f (k + 1) b p n = some (r, p + 1)) ∧ 0 ≤ r ∧ r < n := by
  have e1 : wrap64 (p + 1) = p + 1 := w64 (by omega) (by omega)
  have e2 : wrap64 (p + 1 - 1) = p := by rw [w64 (by omega) (by omega)]; omega
  have hl := hb.1
  by_cases h0 : b.length = 0
  · refine ⟨0, fun k => ?_, by omega, by omega⟩
    have hz : ((b.length : Int) == 0) = true := by rw [h0]; rfl
    unfold spec_l1Rd_pick.f
    rw [if_neg (by omega), e1, hz]
    simp only [spec_l1Rd_pick.j0, if_true]
  · have hz : ((b.length : Int) == 0) = false := by rw [beq_eq_false_iff_ne]; omega
    by_cases hk : p < (b.length : Int)
    · have hm := hb.2 _ (rd_mem hp hk)
      refine ⟨Int.tmod (rd b p) n, fun k => ?_, Int.tmod_nonneg _ hm.1, Int.tmod_lt_of_pos _ (by omega)⟩
      unfold spec_l1Rd_pick.f
      rw [if_neg (by omega), e1, hz]
      simp only [spec_l1Rd_pick.j0]
      rw [if_neg (by decide), e2, if_pos hk, if_pos hp, if_neg (by omega), w64 (by omega) (by omega)]
    · have hL : (0 : Int) < (b.length : Int) := by omega
      have e7 : wrap64 (wrap64 (p * 7) + 3) = p * 7 + 3 := by
        rw [w64 (x := p * 7) (by omega) (by omega), w64 (by omega) (by omega)]
      have i1 := Int.tmod_nonneg (b.length : Int) hp
      have j1 := Int.tmod_lt_of_pos p hL
      have i2 := Int.tmod_nonneg (b.length : Int) (show 0 ≤ p * 7 + 3 by omega)
      have j2 := Int.tmod_lt_of_pos (p * 7 + 3) hL
      have hA := hb.2 _ (rd_mem i1 j1)
      have hB := hb.2 _ (rd_mem i2 j2)
      have hq0 : 0 ≤ Int.tdiv p (b.length : Int) := Int.tdiv_nonneg hp (by omega)
      have hq1 : Int.tdiv p (b.length : Int) ≤ p := by
        rw [Int.tdiv_eq_ediv_of_nonneg hp]; exact Int.ediv_le_self _ hp
      generalize hAe : rd b (Int.tmod p (b.length : Int)) = A at hA
      generalize hBe : rd b (Int.tmod (p * 7 + 3) (b.length : Int)) = B at hB
      generalize hQe : Int.tdiv p (b.length : Int) = Q at hq0 hq1
      have hX : 0 ≤ wrap64 (wrap64 (wrap64 (wrap64 (wrap64 A * 131) + wrap64 (wrap64 B * 1117)) + wrap64 (p * 29)) + wrap64 (wrap64 Q * 53)) ∧
          wrap64 (wrap64 (wrap64 (wrap64 (wrap64 A * 131) + wrap64 (wrap64 B * 1117)) + wrap64 (p * 29)) + wrap64 (wrap64 Q * 53)) < 1000000000 := by
        rw [w64 (x := A) (by omega) (by omega), w64 (x := B) (by omega) (by omega), w64 (x := Q) (by omega) (by omega), w64 (x := A * 131) (by omega) (by omega), w64 (x := B * 1117) (by omega) (by omega),
          w64 (x := p * 29) (by omega) (by omega), w64 (x := Q * 53) (by omega) (by omega), w64 (x := A * 131 + B * 1117) (by omega) (by omega), w64 (x := A * 131 + B * 1117 + p * 29) (by omega) (by omega),
          w64 (by omega) (by omega)]
        omega
      generalize hXe : wrap64 (wrap64 (wrap64 (wrap64 (wrap64 A * 131) + wrap64 (wrap64 B * 1117)) + wrap64 (p * 29)) + wrap64 (wrap64 Q * 53)) = X at hX
      have hY : 0 ≤ wrap64 (Int.tdiv X 64) ∧ wrap64 (Int.tdiv X 64) < 1000000000 := by
        rw [Int.tdiv_eq_ediv_of_nonneg hX.1, w64 (by omega) (by omega)]; omega
      refine ⟨Int.tmod (Go.bits .xor .i64 X (wrap64 (Int.tdiv X 64))) n, fun k => ?_, Int.tmod_nonneg _ (xor_nonneg hX.1 (by omega) hY.1 (by omega)), Int.tmod_lt_of_pos _ (by omega)⟩
      unfold spec_l1Rd_pick.f
      rw [if_neg (by omega), e1, hz]
      simp only [spec_l1Rd_pick.j0]
      rw [if_neg (by decide), e2, if_neg hk, if_neg (by omega), if_pos i1, if_pos j1, e7, if_pos i2, if_pos j2, if_neg (by omega), hAe, hBe, hQe, hXe]
theorem open_any {l : List Int} (hl : ∀ x ∈ l, (Lit.int .u8 x).wf = true) : ∃ b, spec_l1Open.f l = some (b, 0) ∧ BytesOk b := by
  unfold spec_l1Open.f
  by_cases h : (l.length : Int) > 2000
  · rw [if_pos h, if_pos (by omega)]
    exact ⟨_, rfl, by rw [List.length_take]; omega, fun x hx => wf8 (hl x (List.mem_of_mem_take hx))⟩
  · rw [if_neg h]
    exact ⟨_, rfl, by omega, fun x hx => wf8 (hl x hx)⟩
theorem one_any {b : List Int} (hb : BytesOk b) {p : Int} (hp : 0 ≤ p) (hp' : p ≤ 1000000) {l : List Int} (hl : 1 ≤ l.length) :
    ∃ r, (∀ k, spec_l1Rd_one.f (k + 1) b p l = some (r, p + 1)) ∧ r ∈ l := by
  obtain ⟨i, hi, h0, h1⟩ := pick_any hb hp hp' (n := (l.length : Int)) (by omega)
  refine ⟨rd l i, fun k => ?_, rd_mem h0 h1⟩
  unfold spec_l1Rd_one.f
  rw [hi k]
  simp only [Option.bind_some]
  rw [if_pos h0, if_pos h1]
theorem pick_ge {b : List Int} (hb : BytesOk b) {p n : Int} (hp : 0 ≤ p) (hp' : p ≤ 1000000) (hn : 1 ≤ n) :
    ∃ r, (∀ k, 1 ≤ k → spec_l1Rd_pick.f k b p n = some (r, p + 1)) ∧ 0 ≤ r ∧ r < n := by
  obtain ⟨r, h, h0, h1⟩ := pick_any hb hp hp' hn
  exact ⟨r, fun k hk => by obtain ⟨m, rfl⟩ : ∃ m, k = m + 1 := ⟨k - 1, by omega⟩; exact h m, h0, h1⟩
theorem one_ge {b : List Int} (hb : BytesOk b) {p : Int} (hp : 0 ≤ p) (hp' : p ≤ 1000000) {l : List Int} (hl : 1 ≤ l.length) :
    ∃ r, (∀ k, 1 ≤ k → spec_l1Rd_one.f k b p l = some (r, p + 1)) ∧ r ∈ l := by
  obtain ⟨r, h, h0⟩ := one_any hb hp hp' hl
  exact ⟨r, fun k hk => by obtain ⟨m, rfl⟩ : ∃ m, k = m + 1 := ⟨k - 1, by omega⟩; exact h m, h0⟩
theorem rdOf_mem {l : List ByteArray} {i : Int} (h0 : 0 ≤ i) (h : i < (l.length : Int)) : rdOf ByteArray.empty l i ∈ l := by
  have hi : i.toNat < l.length := by omega
  unfold rdOf
  rw [List.getD_eq_getElem?_getD, List.getElem?_eq_getElem hi]
  exact List.getElem_mem hi
theorem of_any {b : List Int} (hb : BytesOk b) {p : Int} (hp : 0 ≤ p) (hp' : p ≤ 1000000) {l : List ByteArray} (hl : 1 ≤ l.length) (M : Nat) (hM : ∀ x ∈ l, x.size ≤ M) :
    ∃ s, (∀ k, 1 ≤ k → spec_l1Rd_of.f k b p l = some (str s, p + 1)) ∧ s.length ≤ M := by
  obtain ⟨i, hi, h0, h1⟩ := pick_ge hb hp hp' (n := (l.length : Int)) (by omega)
  have hm := hM _ (rdOf_mem h0 h1)
  refine ⟨(rdOf ByteArray.empty l i).data.toList, fun k hk => ?_, ?_⟩
  · unfold spec_l1Rd_of.f
    rw [hi k hk, ← str_eta]
    simp only [bS]
    rw [if_pos h0, if_pos h1]
  · rw [Array.length_toList]; exact hm
theorem bent_any {b : List Int} (hb : BytesOk b) {p : Int} (hp : 0 ≤ p) (hp' : p ≤ 900000) (l : List UInt8) (hl : l.length ≤ 1000000) :
    ∃ s p', (∀ k, 1 ≤ k → spec_l14Bent.f k b p (str l) = some (str s, p')) ∧ s.length ≤ l.length + 10 := by
  obtain ⟨i, hi, i0, i1⟩ := pick_ge hb hp (by omega) (n := (l.length : Int) + 1) (by omega)
  obtain ⟨r, hr, _, _⟩ := pick_ge hb (p := p + 1) (by omega) (by omega) (n := 6) (by omega)
  have start : ∀ k, 1 ≤ k → spec_l1Rd_pick.f k b p (wrap64 (((str l).size : Int) + 1)) = some (i, p + 1) := fun k hk => by
    rw [str_size, Str.w64 (by omega) (by omega)]; exact hi k hk
  obtain ⟨u, hu, u1⟩ := of_any hb (p := p + 1 + 1) (by omega) (by omega) (l := [(⟨#[48]⟩ : ByteArray), (⟨#[57]⟩ : ByteArray), (⟨#[45]⟩ : ByteArray), (⟨#[46]⟩ : ByteArray), (⟨#[32]⟩ : ByteArray), (⟨#[120]⟩ : ByteArray), (⟨#[44]⟩ : ByteArray), (⟨#[58]⟩ : ByteArray), (⟨#[39]⟩ : ByteArray), (⟨#[33]⟩ : ByteArray), (⟨#[59]⟩ : ByteArray)]) (by simp) 1 (by decide)
  obtain ⟨v, hv, v1⟩ := of_any hb (p := p + 1 + 1) (by omega) (by omega) (l := [(⟨#[120]⟩ : ByteArray), (⟨#[48]⟩ : ByteArray), (⟨#[32]⟩ : ByteArray), (⟨#[39]⟩ : ByteArray), (⟨#[59]⟩ : ByteArray), (⟨#[10]⟩ : ByteArray)]) (by simp) 1 (by decide)
  obtain ⟨z, hz, z1⟩ := of_any hb (p := p + 1 + 1) (by omega) (by omega) (l := [(⟨#[48]⟩ : ByteArray), (⟨#[45]⟩ : ByteArray), (⟨#[46]⟩ : ByteArray), (⟨#[32]⟩ : ByteArray), (⟨#[40]⟩ : ByteArray), (⟨#[49]⟩ : ByteArray)]) (by simp) 1 (by decide)
  by_cases h0 : r = 0
  · by_cases hlt : i < (l.length : Int)
    · refine ⟨(((l.drop 0).take (i.toNat - 0)) ++ u) ++ (l.drop (i + 1).toNat).take (l.length - (i + 1).toNat), p + 1 + 1 + 1, fun k hk => ?_, by simp; omega⟩
      unfold spec_l14Bent.f
      rw [start k hk]; simp only [bS]
      rw [hr k hk]; simp only [bS]
      rw [if_pos h0, str_size, if_pos hlt, if_pos i0, if_pos (by omega), hu k hk]; simp only [bS]
      simp only [str_extract, str_append, str_size]
      rw [Str.w64 (by omega) (by omega), if_pos (by simp; omega), if_pos (by omega), if_pos (by omega), if_pos (by simp; omega)]
    · refine ⟨l, p + 1 + 1, fun k hk => ?_, by omega⟩
      unfold spec_l14Bent.f
      rw [start k hk]; simp only [bS]
      rw [hr k hk]; simp only [bS]
      rw [if_pos h0, str_size, if_neg hlt]
  · by_cases h1 : r = 1
    · refine ⟨(l.drop 0).take (i.toNat - 0), p + 1 + 1, fun k hk => ?_, by simp; omega⟩
      unfold spec_l14Bent.f
      rw [start k hk]; simp only [bS]
      rw [hr k hk]; simp only [bS]
      rw [if_neg h0, if_pos h1, str_size, if_pos i0, if_pos (by omega), str_extract]
    · by_cases h2 : r = 2
      · refine ⟨l ++ v, p + 1 + 1 + 1, fun k hk => ?_, by simp; omega⟩
        unfold spec_l14Bent.f
        rw [start k hk]; simp only [bS]
        rw [hr k hk]; simp only [bS]
        rw [if_neg h0, if_neg h1, if_pos h2, hv k hk]; simp only [bS]
        rw [str_size, str_size, if_pos (by omega), str_append]
      · by_cases h3 : r = 3
        · refine ⟨(((l.drop 0).take (i.toNat - 0)) ++ z) ++ (l.drop i.toNat).take (l.length - i.toNat), p + 1 + 1 + 1, fun k hk => ?_, by simp; omega⟩
          unfold spec_l14Bent.f
          rw [start k hk]; simp only [bS]
          rw [hr k hk]; simp only [bS]
          rw [if_neg h0, if_neg h1, if_neg h2, if_pos h3, str_size, if_pos i0, if_pos (by omega), hz k hk]; simp only [bS]
          simp only [str_extract, str_append, str_size]
          rw [if_pos (by simp; omega), if_pos (by simp; omega)]
        · refine ⟨l, p + 1 + 1, fun k hk => ?_, by omega⟩
          unfold spec_l14Bent.f
          rw [start k hk]; simp only [bS]
          rw [hr k hk]; simp only [bS]
          rw [if_neg h0, if_neg h1, if_neg h2, if_neg h3]
end Go.Proofs.YtgeloncilhighaaDoor.Drw
end
section
namespace Go.Proofs.YtgeloncilhighaaDoor.Cal
open Go.RowKit Go.Proofs.YtgeloncilhighaaDoor.Pr Go.Proofs.YtgeloncilhighaaDoor.Ext Go.Proofs.YtgeloncilhighaaDoorW.PrintWords Go.Proofs.YtgeloncilhighaaDoorW.PrintLast Go.Proofs.YtgeloncilhighaaDoorW.PrintMore
set_option linter.unusedVariables false
set_option linter.unusedSimpArgs false
theorem w64 {x : Int} (h : -9223372036854775808 ≤ x) (h' : x ≤ 9223372036854775807) : wrap64 x = x := by unfold wrap64; omega
def lpI (y : Int) : Int := if y % 4 = 0 ∧ (y % 100 ≠ 0 ∨ y % 400 = 0) then 1 else 0
theorem lpI_01 (y : Int) : lpI y = 0 ∨ lpI y = 1 := by unfold lpI; split <;> omega
def ld (y m : Int) : Int := if m = 2 then 28 + lpI y else if m = 4 then 30 else if m = 6 then 30 else if m = 9 then 30 else if m = 11 then 30 else 31
theorem ld_bd (y m : Int) : 28 ≤ ld y m ∧ ld y m ≤ 31 := by
  have := lpI_01 y
  unfold ld
  repeat' split
  all_goals omega
def cum (l m : Int) : Int :=
  if m ≤ 1 then 0 else if m = 2 then 31 else if m = 3 then 59 + l else if m = 4 then 90 + l else if m = 5 then 120 + l else if m = 6 then 151 + l else if m = 7 then 181 + l
  else if m = 8 then 212 + l else if m = 9 then 243 + l else if m = 10 then 273 + l else if m = 11 then 304 + l else if m = 12 then 334 + l else 365 + l
theorem mcases {m : Int} (h1 : 1 ≤ m) (h2 : m ≤ 12) : m = 1 ∨ m = 2 ∨ m = 3 ∨ m = 4 ∨ m = 5 ∨ m = 6 ∨ m = 7 ∨ m = 8 ∨ m = 9 ∨ m = 10 ∨ m = 11 ∨ m = 12 := by omega
theorem cum_succ (y m : Int) (h1 : 1 ≤ m) (h2 : m ≤ 12) : cum (lpI y) (m + 1) = cum (lpI y) m + ld y m := by
  rcases mcases h1 h2 with rfl | rfl | rfl | rfl | rfl | rfl | rfl | rfl | rfl | rfl | rfl | rfl <;> simp [cum, ld] <;> omega
theorem cum_one (l : Int) : cum l 1 = 0 := rfl
theorem cum_13 (l : Int) : cum l 13 = 365 + l := rfl
theorem ite_bd {P : Prop} [Decidable P] {a b lo hi : Int} (ha : lo ≤ a ∧ a ≤ hi) (hb : lo ≤ b ∧ b ≤ hi) : lo ≤ (if P then a else b) ∧ (if P then a else b) ≤ hi := by split <;> assumption
theorem cum_bd (y m : Int) : 0 ≤ cum (lpI y) m ∧ cum (lpI y) m ≤ 366 := by
  have := lpI_01 y
  unfold cum
  repeat' refine ite_bd ?_ ?_
  all_goals omega
def dby (y : Int) : Int := 365 * (y - 1) + (y - 1) / 4 - (y - 1) / 100 + (y - 1) / 400
theorem dby_succ (y : Int) : dby (y + 1) = dby y + 365 + lpI y := by
  unfold dby lpI
  split <;> omega
theorem dby_bd {y : Int} (h1 : 1 ≤ y) (h2 : y ≤ 10000) : 0 ≤ dby y ∧ dby y ≤ 3652059 := by unfold dby; omega
theorem dby_mono {a b : Int} (h : a ≤ b) : dby a ≤ dby b := by unfold dby; omega
def num (y m d : Int) : Int := dby y + cum (lpI y) m + d
def ms (K : Int) : Int := dby (K / 12) + cum (lpI (K / 12)) (K % 12 + 1)
def ml (K : Int) : Int := ld (K / 12) (K % 12 + 1)
theorem ml_bd (K : Int) : 28 ≤ ml K ∧ ml K ≤ 31 := ld_bd _ _
theorem ms_succ (K : Int) : ms (K + 1) = ms K + ml K := by
  unfold ms ml
  by_cases h : K % 12 = 11
  · have e1 : (K + 1) / 12 = K / 12 + 1 := by omega
    have e2 : (K + 1) % 12 = 0 := by omega
    have hs := cum_succ (K / 12) 12 (by omega) (by omega)
    rw [show (12 : Int) + 1 = 13 from rfl, cum_13] at hs
    have hd := dby_succ (K / 12)
    rw [e1, e2, h, show (0 : Int) + 1 = 1 from rfl, cum_one, show (11 : Int) + 1 = 12 from rfl]
    omega
  · have e1 : (K + 1) / 12 = K / 12 := by omega
    have e2 : (K + 1) % 12 = K % 12 + 1 := by omega
    have hs := cum_succ (K / 12) (K % 12 + 1) (by omega) (by omega)
    rw [e1, e2]
    omega
theorem ms_add (K : Int) (n : Nat) : ms K + 28 * n ≤ ms (K + n) ∧ ms (K + n) ≤ ms K + 31 * n := by
  induction n with
  | zero => simp
  | succ n ih =>
    have h := ms_succ (K + n)
    have hb := ml_bd (K + n)
    have e : K + ((n + 1 : Nat) : Int) = K + n + 1 := by omega
    rw [e]
    omega
theorem ms_le {a b : Int} (h : a ≤ b) : ms a + 28 * (b - a) ≤ ms b ∧ ms b ≤ ms a + 31 * (b - a) := by
  have := ms_add a (b - a).toNat
  rw [show a + ((b - a).toNat : Int) = b from by omega, show (((b - a).toNat : Nat) : Int) = b - a from by omega] at this
  exact this
theorem ms_lt {a b : Int} (h : a < b) : ms a + ml a ≤ ms b := by
  have h1 := ms_succ a
  have h2 := ms_le (show a + 1 ≤ b by omega)
  omega
theorem ms_12 : ms 12 = 0 := by decide
theorem ms_120000 : ms 120000 = 3652059 := by decide
def At (n K d : Int) : Prop := 12 ≤ K ∧ K ≤ 119999 ∧ 1 ≤ d ∧ d ≤ ml K ∧ n = ms K + d
theorem At.bd {n K d : Int} (h : At n K d) : 1 ≤ n ∧ n ≤ 3652059 := by
  obtain ⟨h1, h2, h3, h4, rfl⟩ := h
  have a := ms_le h1
  have b := ms_lt (show K < 120000 by omega)
  rw [ms_12] at a
  rw [ms_120000] at b
  omega
theorem at_ym {y m d : Int} (h1 : 1 ≤ y) (h2 : y ≤ 9999) (h3 : 1 ≤ m) (h4 : m ≤ 12) (h5 : 1 ≤ d) (h6 : d ≤ ld y m) : At (dby y + cum (lpI y) m + d) (12 * y + m - 1) d := by
  have e1 : (12 * y + m - 1) / 12 = y := by omega
  have e2 : (12 * y + m - 1) % 12 + 1 = m := by omega
  exact ⟨by omega, by omega, h5, by unfold ml; rw [e1, e2]; exact h6, by unfold ms; rw [e1, e2]⟩
theorem specLeap_eq {y : Int} (h : 0 ≤ y) : spec_l3Leap.f y = some (decide (lpI y = 1)) := by
  unfold spec_l3Leap.f lpI
  rw [Int.tmod_eq_emod_of_nonneg h, Int.tmod_eq_emod_of_nonneg h, Int.tmod_eq_emod_of_nonneg h]
  by_cases h4 : y % 4 = 0 <;> by_cases h100 : y % 100 = 0 <;> by_cases h400 : y % 400 = 0 <;> simp [h4, h100, h400] <;> omega
theorem implLeap_eq {y : Int} (h : 0 ≤ y) : impl_leap.f y = some (decide (lpI y = 1)) := by
  unfold impl_leap.f lpI
  rw [Int.tmod_eq_emod_of_nonneg h, Int.tmod_eq_emod_of_nonneg h, Int.tmod_eq_emod_of_nonneg h]
  by_cases h4 : y % 4 = 0 <;> by_cases h100 : y % 100 = 0 <;> by_cases h400 : y % 400 = 0 <;> simp [h4, h100, h400]
theorem specLast_eq {y : Int} (h : 0 ≤ y) (m : Int) : spec_l3Last.f y m = some (ld y m) := by
  unfold spec_l3Last.f ld
  rw [specLeap_eq h]
  have := lpI_01 y
  by_cases h2 : m = 2
  · rw [if_pos h2, if_pos h2]
    rcases this with e | e <;> simp [e]
  · rw [if_neg h2, if_neg h2]
    repeat' split
    all_goals rfl
def okYM (y m : Int) : Prop := 1 ≤ y ∧ y ≤ 9999 ∧ 1 ≤ m ∧ m ≤ 12
instance (y m : Int) : Decidable (okYM y m) := by unfold okYM; infer_instance
def dl (y m : Int) : Int := if okYM y m then ld y m else 0
theorem dl_ok {y m : Int} (h1 : 1 ≤ y) (h2 : y ≤ 9999) (h3 : 1 ≤ m) (h4 : m ≤ 12) : dl y m = ld y m := by unfold dl; rw [if_pos (show okYM y m from ⟨h1, h2, h3, h4⟩)]
theorem implLast_eq (k : Nat) (y m : Int) : impl_DayLast.f (k + 2) y m = some (dl y m) := by
  unfold impl_DayLast.f impl_in.f
  by_cases hy1 : y ≥ 1
  · by_cases hy2 : y ≤ 9999
    · by_cases hm1 : m ≥ 1
      · by_cases hm2 : m ≤ 12
        · rw [dl_ok hy1 hy2 hm1 hm2]
          have := lpI_01 y
          simp only [hy1, hy2, hm1, hm2, if_true, decide_true, Option.bind_some, Bool.not_true, impl_DayLast.j0, implLeap_eq (show 0 ≤ y by omega)]
          unfold ld
          by_cases h2 : m = 2
          · rcases this with e | e <;> simp [impl_DayLast.j1, h2, e]
          · simp only [impl_DayLast.j1, h2, if_false]
            simp only [Bool.false_eq_true, if_false]
            repeat' split
            all_goals rfl
        · have : dl y m = 0 := by unfold dl; rw [if_neg (by unfold okYM; omega)]
          simp [hy1, hy2, hm1, hm2, impl_DayLast.j0, this]
      · have : dl y m = 0 := by unfold dl; rw [if_neg (by unfold okYM; omega)]
        simp [hy1, hy2, hm1, impl_DayLast.j0, this]
    · have : dl y m = 0 := by unfold dl; rw [if_neg (by unfold okYM; omega)]
      simp [hy1, hy2, impl_DayLast.j0, this]
  · have : dl y m = 0 := by unfold dl; rw [if_neg (by unfold okYM; omega)]
    simp [hy1, impl_DayLast.j0, this]
theorem implLast_ge {k : Nat} (h : 2 ≤ k) (y m : Int) : impl_DayLast.f k y m = some (dl y m) := by
  obtain ⟨j, rfl⟩ : ∃ j, k = j + 2 := ⟨k - 2, by omega⟩
  exact implLast_eq j y m
theorem ahead_eq {y : Int} (h1 : 1 ≤ y) (h2 : y ≤ 10000) : impl_ahead.f y = some (dby y) := by
  unfold impl_ahead.f dby
  rw [w64 (x := y - 1) (by omega) (by omega), Int.tdiv_eq_ediv_of_nonneg (show 0 ≤ y - 1 by omega), Int.tdiv_eq_ediv_of_nonneg (show 0 ≤ y - 1 by omega), Int.tdiv_eq_ediv_of_nonneg (show 0 ≤ y - 1 by omega)]
  rw [w64 (x := 365 * (y - 1)) (by omega) (by omega), w64 (x := (y - 1) / 4) (by omega) (by omega), w64 (x := (y - 1) / 100) (by omega) (by omega), w64 (x := (y - 1) / 400) (by omega) (by omega)]
  rw [w64 (x := 365 * (y - 1) + (y - 1) / 4) (by omega) (by omega), w64 (x := 365 * (y - 1) + (y - 1) / 4 - (y - 1) / 100) (by omega) (by omega), w64 (by omega) (by omega)]
theorem implOf_l0 {y m : Int} (hy1 : 1 ≤ y) (hy2 : y ≤ 9999) (hm2 : m ≤ 12) (d : Nat) : ∀ (k : Nat) (n j : Int), 0 ≤ n → n ≤ 10000000 + 31 * j → 1 ≤ j → j ≤ m → m - j = d → d < k →
    impl_DayOf.l0 (k + 2) y m n j = some (n + cum (lpI y) m - cum (lpI y) j) := by
  induction d with
  | zero =>
    intro k n j h0 h1 hj1 hj2 hd hk
    obtain rfl : j = m := by omega
    obtain ⟨k, rfl⟩ : ∃ i, k = i + 1 := ⟨k - 1, by omega⟩
    rw [impl_DayOf.l0]
    rw [if_neg (by omega)]
    congr 1; omega
  | succ d ih =>
    intro k n j h0 h1 hj1 hj2 hd hk
    obtain ⟨k, rfl⟩ : ∃ i, k = i + 1 := ⟨k - 1, by omega⟩
    have hb := ld_bd y j
    have hs := cum_succ y j hj1 (by omega)
    show impl_DayOf.l0 (k + 2 + 1) y m n j = _
    rw [impl_DayOf.l0]
    rw [if_pos (by omega), implLast_eq, dl_ok hy1 hy2 hj1 (by omega)]
    simp only [Option.bind_some]
    rw [w64 (by omega) (by omega), w64 (by omega) (by omega), ih k _ _ (by omega) (by omega) (by omega) (by omega) (by omega) (by omega), hs]
    congr 1; omega
def okD (y m d : Int) : Prop := okYM y m ∧ 1 ≤ d ∧ d ≤ ld y m
instance (y m d : Int) : Decidable (okD y m d) := by unfold okD; infer_instance
def dof (y m d : Int) : Int := if okD y m d then num y m d else 0
theorem implOf_eq (k : Nat) (y m d : Int) : impl_DayOf.f (k + 16) y m d = some (dof y m d) := by
  unfold impl_DayOf.f
  rw [show k + 16 = (k + 14) + 2 from rfl, implLast_eq]
  simp only [Option.bind_some]
  unfold impl_in.f dof
  by_cases h : okD y m d
  · have h' := h
    obtain ⟨⟨h1, h2, h3, h4⟩, h5, h6⟩ := h'
    have hb := dby_bd h1 (show y ≤ 10000 by omega)
    have hl := ld_bd y m
    rw [if_pos h, dl_ok h1 h2 h3 h4, if_pos h5]
    simp only [Option.bind_some]
    rw [if_pos (decide_eq_true h6), ahead_eq h1 (by omega)]
    simp only [Option.bind_some]
    rw [w64 (by omega) (by omega), implOf_l0 h1 h2 h4 (m - 1).toNat (k + 14) _ 1 (by omega) (by omega) (by omega) h3 (by omega) (by omega), cum_one]
    unfold num
    congr 1; omega
  · rw [if_neg h]
    by_cases h5 : d ≥ 1
    · have h6 : ¬ d ≤ dl y m := by
        intro h6
        apply h
        unfold dl at h6
        by_cases hq : okYM y m
        · rw [if_pos hq] at h6; exact ⟨hq, h5, h6⟩
        · rw [if_neg hq] at h6; omega
      simp [h5, h6]
    · simp [h5]
theorem implOf_ge {k : Nat} (h : 16 ≤ k) (y m d : Int) : impl_DayOf.f k y m d = some (dof y m d) := by
  obtain ⟨j, rfl⟩ : ∃ j, k = j + 16 := ⟨k - 16, by omega⟩
  exact implOf_eq j y m d
theorem dof_at {K x : Int} (h1 : 12 ≤ K) (h2 : K ≤ 119999) (h3 : 1 ≤ x) (h4 : x ≤ ml K) : dof (K / 12) (K % 12 + 1) x = ms K + x := by
  unfold dof
  rw [if_pos ⟨⟨by omega, by omega, by omega, by omega⟩, h3, h4⟩]
  rfl
theorem isDay_eq (n : Int) : impl_isDay.f n = some (decide (1 ≤ n ∧ n ≤ 3652059)) := by
  unfold impl_isDay.f impl_in.f
  by_cases h1 : n ≥ 1 <;> by_cases h2 : n ≤ 3652059 <;> simp [h1, h2]
theorem cum_le (y m : Int) : cum (lpI y) m ≤ 365 + lpI y := by
  have h01 := lpI_01 y
  have : 0 ≤ cum (lpI y) m ∧ cum (lpI y) m ≤ 365 + lpI y := by
    unfold cum
    repeat' refine ite_bd ?_ ?_
    all_goals omega
  exact this.2
theorem exists_at {n : Int} (h1 : 1 ≤ n) (h2 : n ≤ 3652059) : ∃ K d, At n K d := by
  have key : ∀ (j : Nat), (12 : Int) + j ≤ 120000 → n ≤ ms (12 + j) → ∃ K d, At n K d := by
    intro j
    induction j with
    | zero =>
      intro _ hn
      have := ms_12
      simp at hn
      omega
    | succ j ih =>
      intro hj hn
      by_cases hlt : n ≤ ms (12 + j)
      · exact ih (by omega) hlt
      · have hs := ms_succ (12 + j)
        have e : (12 : Int) + ((j + 1 : Nat) : Int) = 12 + j + 1 := by omega
        rw [e] at hn
        exact ⟨12 + j, n - ms (12 + j), by omega, by omega, by omega, by omega, by omega⟩
  have h := ms_120000
  refine key 119988 (by decide) ?_
  rw [show (12 : Int) + ((119988 : Nat) : Int) = 120000 from by decide, h]
  exact h2
theorem ms_ym {y m : Int} (h3 : 1 ≤ m) (h4 : m ≤ 12) : ms (12 * y + m - 1) = dby y + cum (lpI y) m ∧ ml (12 * y + m - 1) = ld y m := by
  have e1 : (12 * y + m - 1) / 12 = y := by omega
  have e2 : (12 * y + m - 1) % 12 + 1 = m := by omega
  unfold ms ml
  rw [e1, e2]
  exact ⟨rfl, rfl⟩
theorem year_in {n K d : Int} (h : At n K d) : dby (K / 12) < n ∧ n ≤ dby (K / 12 + 1) := by
  obtain ⟨h1, h2, h3, h4, e⟩ := h
  have a := cum_bd (K / 12) (K % 12 + 1)
  have b := cum_succ (K / 12) (K % 12 + 1) (by omega) (by omega)
  have c := cum_le (K / 12) (K % 12 + 1 + 1)
  have s := dby_succ (K / 12)
  unfold ml at h4
  unfold ms at e
  omega
theorem year_lt {a b n : Int} (ha : dby a < n) (hb : n ≤ dby (b + 1)) : a ≤ b := by
  apply Int.le_of_not_gt
  intro h
  have := dby_mono (show b + 1 ≤ a by omega)
  omega
theorem ms_bd {K : Int} (h1 : 12 ≤ K) (h2 : K ≤ 120000) : 0 ≤ ms K ∧ ms K ≤ 3652059 := by
  have a := (ms_le h1).1
  have b := (ms_le h2).1
  rw [ms_12] at a
  rw [ms_120000] at b
  omega
theorem implParts_l1 {n K d : Int} (h : At n K d) (e : Nat) : ∀ (k : Nat) (J : Int), 12 * (K / 12) ≤ J → J ≤ K → K - J = e → e + 3 < k →
    impl_DayParts.l1 k (K / 12) (n - ms J) (J - 12 * (K / 12) + 1) = some (K / 12, K % 12 + 1, d, true) := by
  obtain ⟨h1, h2, h3, h4, hn⟩ := h
  induction e with
  | zero =>
    intro k J j1 j2 hd hk
    obtain rfl : J = K := by omega
    obtain ⟨k, rfl⟩ : ∃ i, k = i + 1 := ⟨k - 1, by omega⟩
    rw [show J - 12 * (J / 12) + 1 = J % 12 + 1 from by omega, impl_DayParts.l1, implLast_ge (by omega), dl_ok (by omega) (by omega) (by omega) (by omega)]
    simp only [Option.bind_some]
    unfold ml at h4
    rw [if_neg (by omega), show n - ms J = d from by omega]
  | succ e ih =>
    intro k J j1 j2 hd hk
    obtain ⟨k, rfl⟩ : ∃ i, k = i + 1 := ⟨k - 1, by omega⟩
    have y1 : J / 12 = K / 12 := by omega
    have y2 : J % 12 + 1 = J - 12 * (K / 12) + 1 := by omega
    have hl : ml J = ld (K / 12) (J - 12 * (K / 12) + 1) := by unfold ml; rw [y1, y2]
    have hs := ms_succ J
    have hle := (ms_le (show J + 1 ≤ K by omega)).1
    have hb := ms_bd (show 12 ≤ J by omega) (by omega)
    have hb2 := ms_bd (show 12 ≤ J + 1 by omega) (by omega)
    have hk1 := ms_bd h1 (show K ≤ 120000 by omega)
    have hml := ml_bd K
    rw [impl_DayParts.l1, implLast_ge (by omega), dl_ok (by omega) (by omega) (by omega) (by omega), ← hl]
    simp only [Option.bind_some]
    rw [if_pos (by omega), w64 (by omega) (by omega), w64 (by omega) (by omega), show n - ms J - ml J = n - ms (J + 1) from by omega, show J - 12 * (K / 12) + 1 + 1 = (J + 1) - 12 * (K / 12) + 1 from by omega]
    exact ih k (J + 1) (by omega) (by omega) (by omega) (by omega)
theorem implParts_l0 {n K d : Int} (h : At n K d) (g : Nat) : ∀ (k : Nat) (lo hi : Int), 1 ≤ lo → lo ≤ K / 12 → K / 12 ≤ hi → hi ≤ 9999 → hi - lo ≤ g → g + 20 < k →
    impl_DayParts.l0 k n lo hi = some (K / 12, K % 12 + 1, d, true) := by
  have hy := year_in h
  have hbd := h.bd
  obtain ⟨h1, h2, h3, h4, hn⟩ := id h
  induction g with
  | zero =>
    intro k lo hi l1 l2 l3 l4 hg hk
    obtain rfl : lo = K / 12 := by omega
    obtain ⟨k, rfl⟩ : ∃ i, k = i + 1 := ⟨k - 1, by omega⟩
    rw [impl_DayParts.l0, if_neg (by omega), ahead_eq (by omega) (by omega)]
    simp only [Option.bind_some]
    have hb := dby_bd (show 1 ≤ K / 12 by omega) (show K / 12 ≤ 10000 by omega)
    have e0 : ms (12 * (K / 12)) = dby (K / 12) := by
      have := (ms_ym (y := K / 12) (m := 1) (by omega) (by omega)).1
      rw [show 12 * (K / 12) + 1 - 1 = 12 * (K / 12) from by omega, cum_one] at this
      omega
    rw [w64 (by omega) (by omega), ← e0]
    have := implParts_l1 h (K - 12 * (K / 12)).toNat k (12 * (K / 12)) (by omega) (by omega) (by omega) (by omega)
    rw [show 12 * (K / 12) - 12 * (K / 12) + 1 = 1 from by omega] at this
    exact this
  | succ g ih =>
    intro k lo hi l1 l2 l3 l4 hg hk
    by_cases hlt : lo < hi
    · obtain ⟨k, rfl⟩ : ∃ i, k = i + 1 := ⟨k - 1, by omega⟩
      have e1 : wrap64 (Int.tdiv (wrap64 (wrap64 (lo + hi) + 1)) 2) = (lo + hi + 1) / 2 := by
        rw [w64 (x := lo + hi) (by omega) (by omega), w64 (x := lo + hi + 1) (by omega) (by omega), Int.tdiv_eq_ediv_of_nonneg (by omega), w64 (by omega) (by omega)]
      rw [impl_DayParts.l0, if_pos hlt, e1, ahead_eq (by omega) (by omega)]
      simp only [Option.bind_some]
      by_cases hc : dby ((lo + hi + 1) / 2) < n
      · rw [if_pos hc]
        have := year_lt hc hy.2
        exact ih k _ _ (by omega) (by omega) (by omega) (by omega) (by omega) (by omega)
      · rw [if_neg hc, w64 (by omega) (by omega)]
        have : ¬ (lo + hi + 1) / 2 ≤ K / 12 := fun hle => by have := dby_mono hle; omega
        exact ih k _ _ (by omega) (by omega) (by omega) (by omega) (by omega) (by omega)
    · exact ih k lo hi l1 l2 l3 l4 (by omega) (by omega)
theorem implParts_yes {n K d : Int} (h : At n K d) {k : Nat} (hk : 11000 ≤ k) : impl_DayParts.f k n = some (K / 12, K % 12 + 1, d, true) := by
  have hbd := h.bd
  obtain ⟨h1, h2, h3, h4, hn⟩ := id h
  unfold impl_DayParts.f
  rw [isDay_eq, decide_eq_true hbd]
  simp only [Option.bind_some, if_true]
  exact implParts_l0 h 9998 k 1 9999 (by omega) (by omega) (by omega) (by omega) (by omega) (by omega)
theorem before_eq {y : Int} (h1 : 1 ≤ y) (h2 : y ≤ 10000) : spec_l3Before.f y = some (dby y) := by
  unfold spec_l3Before.f dby
  rw [w64 (x := y - 1) (by omega) (by omega), Int.tdiv_eq_ediv_of_nonneg (show 0 ≤ y - 1 by omega), Int.tdiv_eq_ediv_of_nonneg (show 0 ≤ y - 1 by omega), Int.tdiv_eq_ediv_of_nonneg (show 0 ≤ y - 1 by omega)]
  rw [w64 (x := 365 * (y - 1)) (by omega) (by omega), w64 (x := (y - 1) / 4) (by omega) (by omega), w64 (x := (y - 1) / 100) (by omega) (by omega), w64 (x := (y - 1) / 400) (by omega) (by omega)]
  rw [w64 (x := 365 * (y - 1) + (y - 1) / 4) (by omega) (by omega), w64 (x := 365 * (y - 1) + (y - 1) / 4 - (y - 1) / 100) (by omega) (by omega), w64 (by omega) (by omega)]
theorem specOf_l0 {y m : Int} (hy1 : 1 ≤ y) (hm2 : m ≤ 12) (d : Nat) : ∀ (k : Nat) (n j : Int), 0 ≤ n → n ≤ 10000000 + 31 * j → 1 ≤ j → j ≤ m → m - j = d → d < k →
    spec_l3Of.l0 k y m n j = some (n + cum (lpI y) m - cum (lpI y) j) := by
  induction d with
  | zero =>
    intro k n j h0 h1 hj1 hj2 hd hk
    obtain rfl : j = m := by omega
    obtain ⟨k, rfl⟩ : ∃ i, k = i + 1 := ⟨k - 1, by omega⟩
    rw [spec_l3Of.l0]
    rw [if_neg (by omega)]
    congr 1; omega
  | succ d ih =>
    intro k n j h0 h1 hj1 hj2 hd hk
    obtain ⟨k, rfl⟩ : ∃ i, k = i + 1 := ⟨k - 1, by omega⟩
    have hb := ld_bd y j
    have hs := cum_succ y j hj1 (by omega)
    rw [spec_l3Of.l0]
    rw [if_pos (by omega), specLast_eq (by omega)]
    simp only [Option.bind_some]
    rw [w64 (by omega) (by omega), w64 (by omega) (by omega), ih k _ _ (by omega) (by omega) (by omega) (by omega) (by omega) (by omega), hs]
    congr 1; omega
theorem specL3Of_eq (k : Nat) {y m d : Int} (h1 : 1 ≤ y) (h2 : y ≤ 9999) (h3 : 1 ≤ m) (h4 : m ≤ 12) (h5 : 0 ≤ d) (h6 : d ≤ 31) : spec_l3Of.f (k + 12) y m d = some (num y m d) := by
  unfold spec_l3Of.f
  have hb := dby_bd h1 (show y ≤ 10000 by omega)
  rw [before_eq h1 (by omega)]
  simp only [Option.bind_some]
  rw [w64 (by omega) (by omega), specOf_l0 h1 h4 (m - 1).toNat (k + 12) _ 1 (by omega) (by omega) (by omega) h3 (by omega) (by omega), cum_one]
  unfold num
  congr 1; omega
theorem specL3Of_ge {k : Nat} (hk : 12 ≤ k) {y m d : Int} (h1 : 1 ≤ y) (h2 : y ≤ 9999) (h3 : 1 ≤ m) (h4 : m ≤ 12) (h5 : 0 ≤ d) (h6 : d ≤ 31) : spec_l3Of.f k y m d = some (num y m d) := by
  obtain ⟨j, rfl⟩ : ∃ j, k = j + 12 := ⟨k - 12, by omega⟩
  exact specL3Of_eq j h1 h2 h3 h4 h5 h6
theorem specYear_l0 {n K d : Int} (h : At n K d) (g : Nat) : ∀ (k : Nat) (lo hi : Int), 1 ≤ lo → lo ≤ K / 12 → K / 12 < hi → hi ≤ 10000 → hi - lo ≤ g + 1 → g < k →
    spec_l3Year.l0 k n lo hi = some (K / 12) := by
  have hy := year_in h
  have hbd := h.bd
  obtain ⟨h1, h2, h3, h4, hn⟩ := id h
  induction g with
  | zero =>
    intro k lo hi l1 l2 l3 l4 hg hk
    obtain rfl : lo = K / 12 := by omega
    obtain ⟨k, rfl⟩ : ∃ i, k = i + 1 := ⟨k - 1, by omega⟩
    rw [spec_l3Year.l0, w64 (by omega) (by omega), if_neg (by omega)]
  | succ g ih =>
    intro k lo hi l1 l2 l3 l4 hg hk
    by_cases hlt : hi - lo > 1
    · obtain ⟨k, rfl⟩ : ∃ i, k = i + 1 := ⟨k - 1, by omega⟩
      have e1 : wrap64 (Int.tdiv (wrap64 (lo + hi)) 2) = (lo + hi) / 2 := by
        rw [w64 (x := lo + hi) (by omega) (by omega), Int.tdiv_eq_ediv_of_nonneg (by omega), w64 (by omega) (by omega)]
      rw [spec_l3Year.l0, w64 (x := hi - lo) (by omega) (by omega), if_pos hlt, e1, before_eq (by omega) (by omega)]
      simp only [Option.bind_some]
      by_cases hc : dby ((lo + hi) / 2) < n
      · rw [if_pos hc]
        have := year_lt hc hy.2
        exact ih k _ _ (by omega) (by omega) (by omega) (by omega) (by omega) (by omega)
      · rw [if_neg hc]
        have : ¬ (lo + hi) / 2 ≤ K / 12 := fun hle => by have := dby_mono hle; omega
        exact ih k _ _ (by omega) (by omega) (by omega) (by omega) (by omega) (by omega)
    · exact ih k lo hi l1 l2 l3 l4 (by omega) (by omega)
theorem specYear_eq {n K d : Int} (h : At n K d) {k : Nat} (hk : 10000 ≤ k) : spec_l3Year.f k n = some (K / 12) := by
  obtain ⟨h1, h2, h3, h4, hn⟩ := id h
  unfold spec_l3Year.f
  exact specYear_l0 h 9998 k 1 10000 (by omega) (by omega) (by omega) (by omega) (by omega) (by omega)
theorem specMonth_l0 {n K d : Int} (h : At n K d) (e : Nat) : ∀ (k : Nat) (J : Int), 12 * (K / 12) ≤ J → J ≤ K → K - J = e → e < k →
    spec_l3Month.l0 k (K / 12) (J - 12 * (K / 12) + 1) (n - ms J) = some (K % 12 + 1) := by
  obtain ⟨h1, h2, h3, h4, hn⟩ := h
  induction e with
  | zero =>
    intro k J j1 j2 hd hk
    obtain rfl : J = K := by omega
    obtain ⟨k, rfl⟩ : ∃ i, k = i + 1 := ⟨k - 1, by omega⟩
    rw [show J - 12 * (J / 12) + 1 = J % 12 + 1 from by omega, spec_l3Month.l0, specLast_eq (by omega)]
    simp only [Option.bind_some]
    unfold ml at h4
    rw [if_neg (by omega)]
  | succ e ih =>
    intro k J j1 j2 hd hk
    obtain ⟨k, rfl⟩ : ∃ i, k = i + 1 := ⟨k - 1, by omega⟩
    have y1 : J / 12 = K / 12 := by omega
    have y2 : J % 12 + 1 = J - 12 * (K / 12) + 1 := by omega
    have hl : ml J = ld (K / 12) (J - 12 * (K / 12) + 1) := by unfold ml; rw [y1, y2]
    have hs := ms_succ J
    have hle := (ms_le (show J + 1 ≤ K by omega)).1
    have hb := ms_bd (show 12 ≤ J by omega) (by omega)
    have hb2 := ms_bd (show 12 ≤ J + 1 by omega) (by omega)
    have hk1 := ms_bd h1 (show K ≤ 120000 by omega)
    have hml := ml_bd K
    rw [spec_l3Month.l0, specLast_eq (by omega), ← hl]
    simp only [Option.bind_some]
    rw [if_pos (by omega), w64 (by omega) (by omega), w64 (by omega) (by omega), show n - ms J - ml J = n - ms (J + 1) from by omega, show J - 12 * (K / 12) + 1 + 1 = (J + 1) - 12 * (K / 12) + 1 from by omega]
    exact ih k (J + 1) (by omega) (by omega) (by omega) (by omega)
theorem ms_year {K : Int} : ms (12 * (K / 12)) = dby (K / 12) := by
  have := (ms_ym (y := K / 12) (m := 1) (by omega) (by omega)).1
  rw [show 12 * (K / 12) + 1 - 1 = 12 * (K / 12) from by omega, cum_one] at this
  omega
theorem specMonth_eq {n K d : Int} (h : At n K d) {k : Nat} (hk : 20 ≤ k) : spec_l3Month.f k n (K / 12) = some (K % 12 + 1) := by
  have hbd := h.bd
  obtain ⟨h1, h2, h3, h4, hn⟩ := id h
  unfold spec_l3Month.f
  rw [before_eq (by omega) (by omega)]
  simp only [Option.bind_some]
  have hb := dby_bd (show 1 ≤ K / 12 by omega) (show K / 12 ≤ 10000 by omega)
  rw [w64 (by omega) (by omega), ← ms_year]
  have := specMonth_l0 h (K - 12 * (K / 12)).toNat k (12 * (K / 12)) (by omega) (by omega) (by omega) (by omega)
  rw [show 12 * (K / 12) - 12 * (K / 12) + 1 = 1 from by omega] at this
  exact this
theorem num_at (K d : Int) : num (K / 12) (K % 12 + 1) d = ms K + d := rfl
theorem specDay_eq {n K d : Int} (h : At n K d) {k : Nat} (hk : 10000 ≤ k) : spec_l3Day.f k n = some d := by
  have hbd := h.bd
  obtain ⟨h1, h2, h3, h4, hn⟩ := id h
  have hb := ms_bd h1 (show K ≤ 120000 by omega)
  unfold spec_l3Day.f
  rw [specYear_eq h hk]; simp only [Option.bind_some]
  rw [specMonth_eq h (by omega)]; simp only [Option.bind_some]
  rw [specL3Of_ge (by omega) (by omega) (by omega) (by omega) (by omega) (by omega) (by omega), num_at]; simp only [Option.bind_some]
  rw [w64 (x := n - (ms K + 1)) (by omega) (by omega), w64 (by omega) (by omega), show n - (ms K + 1) + 1 = d from by omega]
end Go.Proofs.YtgeloncilhighaaDoor.Cal
end
section
namespace Go.Proofs.YtgeloncilhighaaDoor.Str
open Go.Lib Go.RowKit Go.Proofs.YtgeloncilhighaaDoor.Dec Go.Proofs.YtgeloncilhighaaDoor.Cal Go.Proofs.YtgeloncilhighaaDoor.Pr Go.Proofs.YtgeloncilhighaaDoor.Ext Go.Proofs.YtgeloncilhighaaDoorW.PrintWords Go.Proofs.YtgeloncilhighaaDoorW.PrintLast Go.Proofs.YtgeloncilhighaaDoorW.PrintMore
set_option linter.unusedVariables false
set_option linter.unusedSimpArgs false
theorem repeat_zeros (c : Nat) : repeatL [48] c = zerosL c := by
  induction c with
  | zero => rfl
  | succ c ih => unfold zerosL at *; rw [repeatL, ih, List.replicate_succ]; rfl
theorem implPadded {n w : Int} (h0 : 0 ≤ n) (h1 : n ≤ 9223372036854775807) (w0 : 0 ≤ w) (w1 : w ≤ 1000) : impl_padded.f n w = some (str (padL n.toNat w.toNat)) := by
  unfold impl_padded.f
  have hl := itoa_len (n := n) (by omega) h1
  rw [itoa_nonneg h0] at hl
  rw [itoa_f (by omega) h1, itoa_nonneg h0]
  simp only [bS, str_size]
  rw [Str.w64 (x := w - ((decDigits n.toNat).length : Int)) (by omega) (by omega)]
  have e : mx 0 (w - ((decDigits n.toNat).length : Int)) = ((w.toNat - (decDigits n.toNat).length : Nat) : Int) := by unfold mx; split <;> omega
  rw [e]
  unfold lib_Repeat.f
  rw [if_pos (by rw [show (⟨#[48]⟩ : ByteArray) = str [48] from rfl, str_size, List.length_singleton]; omega), show (⟨#[48]⟩ : ByteArray) = str [48] from rfl, str_data, Int.toNat_natCast, repeat_zeros]
  simp only [bS]
  rw [show (⟨(zerosL (w.toNat - (decDigits n.toNat).length)).toArray⟩ : ByteArray) = str (zerosL (w.toNat - (decDigits n.toNat).length)) from rfl, str_size, zerosL_len, if_pos (by omega), str_append]
  rfl
theorem specWide_l0 (d : Nat) : ∀ (k : Nat) (w : Int) (l : List UInt8), w ≤ 100 → l.length ≤ 100 → w - l.length ≤ d → d < k → spec_l1Wide.l0 k w (str l) = some (str (zerosL (w.toNat - l.length) ++ l)) := by
  induction d with
  | zero =>
    intro k w l hw hl hd hk
    obtain ⟨k, rfl⟩ : ∃ j, k = j + 1 := ⟨k - 1, by omega⟩
    rw [spec_l1Wide.l0, str_size, if_neg (by omega), show w.toNat - l.length = 0 by omega]
    rfl
  | succ d ih =>
    intro k w l hw hl hd hk
    obtain ⟨k, rfl⟩ : ∃ j, k = j + 1 := ⟨k - 1, by omega⟩
    rw [spec_l1Wide.l0, str_size]
    by_cases h : (l.length : Int) < w
    · rw [if_pos h, if_pos (by omega), show (⟨#[48]⟩ : ByteArray) = str [48] from rfl, str_append]
      by_cases h2 : l.length + 1 ≤ 100
      · rw [ih k w ([48] ++ l) hw (by simp; omega) (by simp; omega) (by omega)]
        congr 2
        rw [List.length_append, List.length_singleton, ← List.append_assoc]
        congr 1
        rw [show w.toNat - l.length = (w.toNat - (1 + l.length)) + 1 by omega]
        unfold zerosL
        rw [List.replicate_succ']
      · exfalso; omega
    · rw [if_neg h, show w.toNat - l.length = 0 by omega]
      rfl
theorem specWide {n w : Int} (h0 : 0 ≤ n) (h1 : n ≤ 9223372036854775807) (w0 : 0 ≤ w) (w1 : w ≤ 90) (k : Nat) (hk : 120 ≤ k) : spec_l1Wide.f k n w = some (str (padL n.toNat w.toNat)) := by
  unfold spec_l1Wide.f
  have hl := itoa_len (n := n) (by omega) h1
  rw [l1Dec_eq (by omega) h1 k (by omega)]
  simp only [bS]
  rw [itoa_nonneg h0] at hl ⊢
  rw [specWide_l0 100 k w _ (by omega) (by omega) (by omega) (by omega)]
  rfl
def dayT (y m d : Int) : List UInt8 := (((padL y.toNat 4 ++ [45]) ++ padL m.toNat 2) ++ [45]) ++ padL d.toNat 2
theorem padL_len_le (n w : Nat) : (padL n w).length ≤ w + (decDigits n).length := by unfold padL; rw [List.length_append, zerosL_len]; omega
theorem pad_small {n : Int} (h0 : 0 ≤ n) (h1 : n ≤ 9999) (w : Nat) : (padL n.toNat w).length ≤ w + 4 := by
  have := padL_len_le n.toNat w
  have : (decDigits n.toNat).length ≤ 4 := decDigits_len_le (by decide) (by omega)
  omega
theorem implDayPut {n K d : Int} (h : At n K d) (k : Nat) (hk : 11000 ≤ k) : impl_DayPut.f k n = some (str (dayT (K / 12) (K % 12 + 1) d)) := by
  obtain ⟨h1, h2, h3, h4, hn⟩ := id h
  have hm := ml_bd K
  have l1 := pad_small (n := K / 12) (by omega) (by omega) 4
  have l2 := pad_small (n := K % 12 + 1) (by omega) (by omega) 2
  have l3 := pad_small (n := d) (by omega) (by omega) 2
  unfold impl_DayPut.f
  rw [implParts_yes h hk]
  simp only [bS, if_true]
  rw [implPadded (by omega) (by omega) (by omega) (by omega), show (4 : Int).toNat = 4 from rfl]
  simp only [bS]
  rw [str_size, if_pos (by omega), implPadded (by omega) (by omega) (by omega) (by omega)]
  simp only [bS]
  rw [show (⟨#[45]⟩ : ByteArray) = str [45] from rfl]
  simp only [str_append, str_size, List.length_append, List.length_cons, List.length_nil]
  rw [show (2 : Int).toNat = 2 from rfl]
  rw [if_pos (by omega), if_pos (by omega), implPadded (by omega) (by omega) (by omega) (by omega)]
  simp only [bS]
  rw [str_size, show (2 : Int).toNat = 2 from rfl, if_pos (by omega), str_append]
  rfl
theorem specL3Put {n K d : Int} (h : At n K d) (k : Nat) (hk : 11000 ≤ k) : spec_l3Put.f k n = some (str (dayT (K / 12) (K % 12 + 1) d)) := by
  obtain ⟨h1, h2, h3, h4, hn⟩ := id h
  have hm := ml_bd K
  have l1 := pad_small (n := K / 12) (by omega) (by omega) 4
  have l2 := pad_small (n := K % 12 + 1) (by omega) (by omega) 2
  have l3 := pad_small (n := d) (by omega) (by omega) 2
  unfold spec_l3Put.f
  rw [specYear_eq h (by omega)]; simp only [bS]
  rw [specWide (by omega) (by omega) (by omega) (by omega) k (by omega)]; simp only [bS]
  rw [str_size, show (4 : Int).toNat = 4 from rfl, if_pos (by omega), specMonth_eq h (by omega)]; simp only [bS]
  rw [specWide (by omega) (by omega) (by omega) (by omega) k (by omega)]; simp only [bS]
  rw [show (⟨#[45]⟩ : ByteArray) = str [45] from rfl]
  simp only [str_append, str_size, List.length_append, List.length_cons, List.length_nil]
  rw [show (2 : Int).toNat = 2 from rfl, if_pos (by omega), if_pos (by omega), specDay_eq h (by omega)]; simp only [bS]
  rw [specWide (by omega) (by omega) (by omega) (by omega) k (by omega)]; simp only [bS]
  rw [str_size, show (2 : Int).toNat = 2 from rfl, if_pos (by omega), str_append]
  rfl
end Go.Proofs.YtgeloncilhighaaDoor.Str
end
section
namespace Go.Proofs.YtgeloncilhighaaDoor.Str
open Go.Lib Go.RowKit Go.Proofs.YtgeloncilhighaaDoor.Dec Go.Proofs.YtgeloncilhighaaDoor.Pr Go.Proofs.YtgeloncilhighaaDoor.Ext Go.Proofs.YtgeloncilhighaaDoorW.PrintWords Go.Proofs.YtgeloncilhighaaDoorW.PrintLast Go.Proofs.YtgeloncilhighaaDoorW.PrintMore
set_option linter.unusedVariables false
set_option linter.unusedSimpArgs false
def spanOk (a b : Int) : Prop := (-120000 ≤ a ∧ a ≤ 120000) ∧ (-4000000 ≤ b ∧ b ≤ 4000000)
instance (a b : Int) : Decidable (spanOk a b) := inferInstanceAs (Decidable (_ ∧ _))
end Go.Proofs.YtgeloncilhighaaDoor.Str
end
