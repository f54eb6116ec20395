/- What the claim's row needs of the contracts and words below it, and no more. -/
import Derived.Test.YtdbgpoileffbeaaGreatDoorQDv4
import Derived.Lib.AtoiAllMem
import Derived.Lib.IndexLaws
import Derived.Lib.AtoiAllCases
import Derived.Test.YtdbgpoileffbeaaGreatDoorRows
import Derived.Stop.LaidErr
import Derived.Lib.LaidTab
import Derived.Shelf.Vars
import Derived.SizedLaws
import Derived.KernelRfl
section
namespace Go.Proofs.YtdbgpoileffbeaaGreatDoor.Pr
open Go.RowKit Go.Proofs.YtdbgpoileffbeaaGreatDoorW.PrintWords Go.Proofs.YtdbgpoileffbeaaGreatDoorW.PrintLast Go.Proofs.YtdbgpoileffbeaaGreatDoor.Ext Go.Proofs.YtdbgpoileffbeaaGreatDoorW.PrintMore
attribute [local go_sem] max2_int min2_int max_two min_two max_three min_three max_four min_four
set_option linter.unusedVariables false
set_option linter.unusedSimpArgs false
def spec_l14Bent.f (k : Nat) (s0_0 : List Int) (s0_1 : Int) (a1 : ByteArray) : Option (ByteArray × Int) := (spec_l1Rd_pick.f k s0_0 s0_1 (wrap64 ((a1.size : Int) + 1))).bind fun bt500 => ((spec_l1Rd_pick.f k s0_0 bt500.2 6).bind fun bt502 => (if bt502.1 = 0 then (if bt500.1 < (a1.size : Int) then (if 0 ≤ bt500.1 then (if bt500.1 ≤ (a1.size : Int) then ((spec_l1Rd_of.f k s0_0 bt502.2 (([(⟨#[48]⟩ : ByteArray), (⟨#[57]⟩ : ByteArray), (⟨#[45]⟩ : ByteArray), (⟨#[46]⟩ : ByteArray), (⟨#[32]⟩ : ByteArray), (⟨#[120]⟩ : ByteArray), (⟨#[44]⟩ : ByteArray), (⟨#[58]⟩ : ByteArray), (⟨#[39]⟩ : ByteArray), (⟨#[33]⟩ : ByteArray), (⟨#[59]⟩ : ByteArray)] : List ByteArray))).bind fun bt507 => (if (a1.extract 0 (bt500.1 : Int).toNat).size + bt507.1.size ≤ 9223372036854775807 then (if 0 ≤ (wrap64 (bt500.1 + 1)) then (if (wrap64 (bt500.1 + 1)) ≤ (a1.size : Int) then (if ((a1.extract 0 (bt500.1 : Int).toNat) ++ bt507.1).size + (a1.extract ((wrap64 (bt500.1 + 1)) : Int).toNat a1.size).size ≤ 9223372036854775807 then (some (((a1.extract 0 (bt500.1 : Int).toNat) ++ bt507.1) ++ (a1.extract ((wrap64 (bt500.1 + 1)) : Int).toNat a1.size), bt507.2)) else (none)) else (none)) else (none)) else (none))) else (none)) else (none)) else (some (a1, bt502.2))) else (if bt502.1 = 1 then (if 0 ≤ bt500.1 then (if bt500.1 ≤ (a1.size : Int) then (some (a1.extract 0 (bt500.1 : Int).toNat, bt502.2)) else (none)) else (none)) else (if bt502.1 = 2 then ((spec_l1Rd_of.f k s0_0 bt502.2 (([(⟨#[120]⟩ : ByteArray), (⟨#[48]⟩ : ByteArray), (⟨#[32]⟩ : ByteArray), (⟨#[39]⟩ : ByteArray), (⟨#[59]⟩ : ByteArray), (⟨#[10]⟩ : ByteArray)] : List ByteArray))).bind fun bt512 => (if a1.size + bt512.1.size ≤ 9223372036854775807 then (some (a1 ++ bt512.1, bt512.2)) else (none))) else (if bt502.1 = 3 then (if 0 ≤ bt500.1 then (if bt500.1 ≤ (a1.size : Int) then ((spec_l1Rd_of.f k s0_0 bt502.2 (([(⟨#[48]⟩ : ByteArray), (⟨#[45]⟩ : ByteArray), (⟨#[46]⟩ : ByteArray), (⟨#[32]⟩ : ByteArray), (⟨#[40]⟩ : ByteArray), (⟨#[49]⟩ : ByteArray)] : List ByteArray))).bind fun bt517 => (if (a1.extract 0 (bt500.1 : Int).toNat).size + bt517.1.size ≤ 9223372036854775807 then (if ((a1.extract 0 (bt500.1 : Int).toNat) ++ bt517.1).size + (a1.extract (bt500.1 : Int).toNat a1.size).size ≤ 9223372036854775807 then (some (((a1.extract 0 (bt500.1 : Int).toNat) ++ bt517.1) ++ (a1.extract (bt500.1 : Int).toNat a1.size), bt517.2)) else (none)) else (none))) else (none)) else (none)) else (some (a1, bt502.2)))))))
def spec_l14Bent.T5 : Bool × List (List Nat × List Nat) := (true, [([], []), ([], []), ([0, 1], [0, 1]), ([], []), ([], []), ([3, 4], [3, 4]), ([2, 5], [2, 5]), ([], []), ([], []), ([8], [8]), ([7, 9], [7, 9]), ([6, 10], [6, 10]), ([11, 5, 0, 1, 2, 3, 4, 5, 6, 7, 8, 9, 10, 11], [11])])
def spec_l14Bent.B5 : List Nat := [0, 0, 3, 0, 0, 24, 63, 0, 0, 256, 896, 2047, 4095]
theorem spec_l14Bent.tab5 : rtab .any (opsOf Tryz.f36 5) = spec_l14Bent.T5 := by kernel_rfl
theorem spec_l14Bent.bits5 : waitsOk spec_l14Bent.T5.2 spec_l14Bent.B5 = true := by kernel_rfl
def spec_l14Bent.T11 : Bool × List (List Nat × List Nat) := (true, [([], []), ([], []), ([0, 1], [0, 1]), ([], []), ([], []), ([3, 4], [3, 4]), ([2, 5], [2, 5]), ([], []), ([], []), ([7, 8], [7, 8]), ([6, 9], [6, 9]), ([10, 5, 0, 1, 2, 3, 4, 5, 6, 7, 8, 9, 10], [10])])
def spec_l14Bent.B11 : List Nat := [0, 0, 3, 0, 0, 24, 63, 0, 0, 384, 1023, 2047]
theorem spec_l14Bent.tab11 : rtab .any (opsOf Tryz.f36 11) = spec_l14Bent.T11 := by kernel_rfl
theorem spec_l14Bent.bits11 : waitsOk spec_l14Bent.T11.2 spec_l14Bent.B11 = true := by kernel_rfl
set_option maxHeartbeats 8000000 in
set_option maxRecDepth 100000 in
theorem spec_l14Bent.calls (k : Nat) (g : Nat) (s0_0 : List Int) (s0_1 : Int) (a1 : ByteArray) (r1 : ByteArray) (r2 : Int) (w0 w : World) (hI : IsS74 w0 w g s0_0 s0_1) (hB : Below w0.heap.size w0 w) (h : spec_l14Bent.f k s0_0 s0_1 a1 = some (r1, r2)) :
    Calls Tryz.prog 36 #[.pointer (some ⟨g, 0, none⟩), .string a1] w fun e w' => e = .returned (.string r1) ∧ IsS74 w0 w' g s0_0 r2 ∧ Below w0.heap.size w0 w' ∧ KeepBut w w' g none := by
  have HI0 := Aside0.mk hI
  have HK := Aside0.mk (KeepBut.refl w g none)
  have HL := Aside0.mk hB.size
  clear hI
  have HW0 := Aside0.mk hB.size
  have HB := Aside0.mk hB
  clear hB
  have H : ((spec_l1Rd_pick.f k s0_0 s0_1 (wrap64 ((a1.size : Int) + 1))).bind fun bt500 => ((spec_l1Rd_pick.f k s0_0 bt500.2 6).bind fun bt502 => (if bt502.1 = 0 then (if bt500.1 < (a1.size : Int) then (if 0 ≤ bt500.1 then (if bt500.1 ≤ (a1.size : Int) then ((spec_l1Rd_of.f k s0_0 bt502.2 (([(⟨#[48]⟩ : ByteArray), (⟨#[57]⟩ : ByteArray), (⟨#[45]⟩ : ByteArray), (⟨#[46]⟩ : ByteArray), (⟨#[32]⟩ : ByteArray), (⟨#[120]⟩ : ByteArray), (⟨#[44]⟩ : ByteArray), (⟨#[58]⟩ : ByteArray), (⟨#[39]⟩ : ByteArray), (⟨#[33]⟩ : ByteArray), (⟨#[59]⟩ : ByteArray)] : List ByteArray))).bind fun bt507 => (if (a1.extract 0 (bt500.1 : Int).toNat).size + bt507.1.size ≤ 9223372036854775807 then (if 0 ≤ (wrap64 (bt500.1 + 1)) then (if (wrap64 (bt500.1 + 1)) ≤ (a1.size : Int) then (if ((a1.extract 0 (bt500.1 : Int).toNat) ++ bt507.1).size + (a1.extract ((wrap64 (bt500.1 + 1)) : Int).toNat a1.size).size ≤ 9223372036854775807 then (some (((a1.extract 0 (bt500.1 : Int).toNat) ++ bt507.1) ++ (a1.extract ((wrap64 (bt500.1 + 1)) : Int).toNat a1.size), bt507.2)) else (none)) else (none)) else (none)) else (none))) else (none)) else (none)) else (some (a1, bt502.2))) else (if bt502.1 = 1 then (if 0 ≤ bt500.1 then (if bt500.1 ≤ (a1.size : Int) then (some (a1.extract 0 (bt500.1 : Int).toNat, bt502.2)) else (none)) else (none)) else (if bt502.1 = 2 then ((spec_l1Rd_of.f k s0_0 bt502.2 (([(⟨#[120]⟩ : ByteArray), (⟨#[48]⟩ : ByteArray), (⟨#[32]⟩ : ByteArray), (⟨#[39]⟩ : ByteArray), (⟨#[59]⟩ : ByteArray), (⟨#[10]⟩ : ByteArray)] : List ByteArray))).bind fun bt512 => (if a1.size + bt512.1.size ≤ 9223372036854775807 then (some (a1 ++ bt512.1, bt512.2)) else (none))) else (if bt502.1 = 3 then (if 0 ≤ bt500.1 then (if bt500.1 ≤ (a1.size : Int) then ((spec_l1Rd_of.f k s0_0 bt502.2 (([(⟨#[48]⟩ : ByteArray), (⟨#[45]⟩ : ByteArray), (⟨#[46]⟩ : ByteArray), (⟨#[32]⟩ : ByteArray), (⟨#[40]⟩ : ByteArray), (⟨#[49]⟩ : ByteArray)] : List ByteArray))).bind fun bt517 => (if (a1.extract 0 (bt500.1 : Int).toNat).size + bt517.1.size ≤ 9223372036854775807 then (if ((a1.extract 0 (bt500.1 : Int).toNat) ++ bt517.1).size + (a1.extract (bt500.1 : Int).toNat a1.size).size ≤ 9223372036854775807 then (some (((a1.extract 0 (bt500.1 : Int).toNat) ++ bt517.1) ++ (a1.extract (bt500.1 : Int).toNat a1.size), bt517.2)) else (none)) else (none))) else (none)) else (none)) else (some (a1, bt502.2)))))))) = some (r1, r2) := h
  clear h
  replace H := Option.bind_eq_some_iff.mp H
  obtain ⟨⟨t500, t501⟩, A30, H⟩ := H
  replace H : ((spec_l1Rd_pick.f k s0_0 t501 6).bind fun bt502 => (if bt502.1 = 0 then (if t500 < (a1.size : Int) then (if 0 ≤ t500 then (if t500 ≤ (a1.size : Int) then ((spec_l1Rd_of.f k s0_0 bt502.2 (([(⟨#[48]⟩ : ByteArray), (⟨#[57]⟩ : ByteArray), (⟨#[45]⟩ : ByteArray), (⟨#[46]⟩ : ByteArray), (⟨#[32]⟩ : ByteArray), (⟨#[120]⟩ : ByteArray), (⟨#[44]⟩ : ByteArray), (⟨#[58]⟩ : ByteArray), (⟨#[39]⟩ : ByteArray), (⟨#[33]⟩ : ByteArray), (⟨#[59]⟩ : ByteArray)] : List ByteArray))).bind fun bt507 => (if (a1.extract 0 (t500 : Int).toNat).size + bt507.1.size ≤ 9223372036854775807 then (if 0 ≤ (wrap64 (t500 + 1)) then (if (wrap64 (t500 + 1)) ≤ (a1.size : Int) then (if ((a1.extract 0 (t500 : Int).toNat) ++ bt507.1).size + (a1.extract ((wrap64 (t500 + 1)) : Int).toNat a1.size).size ≤ 9223372036854775807 then (some (((a1.extract 0 (t500 : Int).toNat) ++ bt507.1) ++ (a1.extract ((wrap64 (t500 + 1)) : Int).toNat a1.size), bt507.2)) else (none)) else (none)) else (none)) else (none))) else (none)) else (none)) else (some (a1, bt502.2))) else (if bt502.1 = 1 then (if 0 ≤ t500 then (if t500 ≤ (a1.size : Int) then (some (a1.extract 0 (t500 : Int).toNat, bt502.2)) else (none)) else (none)) else (if bt502.1 = 2 then ((spec_l1Rd_of.f k s0_0 bt502.2 (([(⟨#[120]⟩ : ByteArray), (⟨#[48]⟩ : ByteArray), (⟨#[32]⟩ : ByteArray), (⟨#[39]⟩ : ByteArray), (⟨#[59]⟩ : ByteArray), (⟨#[10]⟩ : ByteArray)] : List ByteArray))).bind fun bt512 => (if a1.size + bt512.1.size ≤ 9223372036854775807 then (some (a1 ++ bt512.1, bt512.2)) else (none))) else (if bt502.1 = 3 then (if 0 ≤ t500 then (if t500 ≤ (a1.size : Int) then ((spec_l1Rd_of.f k s0_0 bt502.2 (([(⟨#[48]⟩ : ByteArray), (⟨#[45]⟩ : ByteArray), (⟨#[46]⟩ : ByteArray), (⟨#[32]⟩ : ByteArray), (⟨#[40]⟩ : ByteArray), (⟨#[49]⟩ : ByteArray)] : List ByteArray))).bind fun bt517 => (if (a1.extract 0 (t500 : Int).toNat).size + bt517.1.size ≤ 9223372036854775807 then (if ((a1.extract 0 (t500 : Int).toNat) ++ bt517.1).size + (a1.extract (t500 : Int).toNat a1.size).size ≤ 9223372036854775807 then (some (((a1.extract 0 (t500 : Int).toNat) ++ bt517.1) ++ (a1.extract (t500 : Int).toNat a1.size), bt517.2)) else (none)) else (none))) else (none)) else (none)) else (some (a1, bt502.2))))))) = some (r1, r2) := H
  have A3 := Aside0.mk A30
  clear A30
  replace H := Option.bind_eq_some_iff.mp H
  obtain ⟨⟨t502, t503⟩, A40, H⟩ := H
  replace H : (if t502 = 0 then (if t500 < (a1.size : Int) then (if 0 ≤ t500 then (if t500 ≤ (a1.size : Int) then ((spec_l1Rd_of.f k s0_0 t503 (([(⟨#[48]⟩ : ByteArray), (⟨#[57]⟩ : ByteArray), (⟨#[45]⟩ : ByteArray), (⟨#[46]⟩ : ByteArray), (⟨#[32]⟩ : ByteArray), (⟨#[120]⟩ : ByteArray), (⟨#[44]⟩ : ByteArray), (⟨#[58]⟩ : ByteArray), (⟨#[39]⟩ : ByteArray), (⟨#[33]⟩ : ByteArray), (⟨#[59]⟩ : ByteArray)] : List ByteArray))).bind fun bt507 => (if (a1.extract 0 (t500 : Int).toNat).size + bt507.1.size ≤ 9223372036854775807 then (if 0 ≤ (wrap64 (t500 + 1)) then (if (wrap64 (t500 + 1)) ≤ (a1.size : Int) then (if ((a1.extract 0 (t500 : Int).toNat) ++ bt507.1).size + (a1.extract ((wrap64 (t500 + 1)) : Int).toNat a1.size).size ≤ 9223372036854775807 then (some (((a1.extract 0 (t500 : Int).toNat) ++ bt507.1) ++ (a1.extract ((wrap64 (t500 + 1)) : Int).toNat a1.size), bt507.2)) else (none)) else (none)) else (none)) else (none))) else (none)) else (none)) else (some (a1, t503))) else (if t502 = 1 then (if 0 ≤ t500 then (if t500 ≤ (a1.size : Int) then (some (a1.extract 0 (t500 : Int).toNat, t503)) else (none)) else (none)) else (if t502 = 2 then ((spec_l1Rd_of.f k s0_0 t503 (([(⟨#[120]⟩ : ByteArray), (⟨#[48]⟩ : ByteArray), (⟨#[32]⟩ : ByteArray), (⟨#[39]⟩ : ByteArray), (⟨#[59]⟩ : ByteArray), (⟨#[10]⟩ : ByteArray)] : List ByteArray))).bind fun bt512 => (if a1.size + bt512.1.size ≤ 9223372036854775807 then (some (a1 ++ bt512.1, bt512.2)) else (none))) else (if t502 = 3 then (if 0 ≤ t500 then (if t500 ≤ (a1.size : Int) then ((spec_l1Rd_of.f k s0_0 t503 (([(⟨#[48]⟩ : ByteArray), (⟨#[45]⟩ : ByteArray), (⟨#[46]⟩ : ByteArray), (⟨#[32]⟩ : ByteArray), (⟨#[40]⟩ : ByteArray), (⟨#[49]⟩ : ByteArray)] : List ByteArray))).bind fun bt517 => (if (a1.extract 0 (t500 : Int).toNat).size + bt517.1.size ≤ 9223372036854775807 then (if ((a1.extract 0 (t500 : Int).toNat) ++ bt517.1).size + (a1.extract (t500 : Int).toNat a1.size).size ≤ 9223372036854775807 then (some (((a1.extract 0 (t500 : Int).toNat) ++ bt517.1) ++ (a1.extract (t500 : Int).toNat a1.size), bt517.2)) else (none)) else (none))) else (none)) else (none)) else (some (a1, t503)))))) = some (r1, r2) := H
  have A4 := Aside0.mk A40
  clear A40
  by_cases c5 : t502 = 0
  · rw [if_pos c5] at H
    have c5b0 : (t502 == 0) = true := beq_iff_eq.mpr c5
    have c5b1 : (t502 != 0) = false := bne_eq_false_iff_eq.mpr c5
    clear c5
    by_cases c6 : t500 < (a1.size : Int)
    · rw [if_pos c6] at H
      have c6b0 : decide (t500 < (a1.size : Int)) = true := decide_eq_true c6
      clear c6
      by_cases c7 : 0 ≤ t500
      · rw [if_pos c7] at H
        have c7b0 := eq_true c7
        have c7b1 : decide (0 ≤ t500) = true := decide_eq_true c7
        clear c7
        by_cases c8 : t500 ≤ (a1.size : Int)
        · rw [if_pos c8] at H
          have c8b0 := eq_true c8
          have c8b1 : decide (t500 ≤ (a1.size : Int)) = true := decide_eq_true c8
          clear c8
          obtain ⟨y504, hy504⟩ : ∃ y_ : List ByteArray, y_ = (([(⟨#[48]⟩ : ByteArray), (⟨#[57]⟩ : ByteArray), (⟨#[45]⟩ : ByteArray), (⟨#[46]⟩ : ByteArray), (⟨#[32]⟩ : ByteArray), (⟨#[120]⟩ : ByteArray), (⟨#[44]⟩ : ByteArray), (⟨#[58]⟩ : ByteArray), (⟨#[39]⟩ : ByteArray), (⟨#[33]⟩ : ByteArray), (⟨#[59]⟩ : ByteArray)] : List ByteArray)) := ⟨_, rfl⟩
          replace H : ((spec_l1Rd_of.f k s0_0 t503 y504).bind fun bt507 => (if (a1.extract 0 (t500 : Int).toNat).size + bt507.1.size ≤ 9223372036854775807 then (if 0 ≤ (wrap64 (t500 + 1)) then (if (wrap64 (t500 + 1)) ≤ (a1.size : Int) then (if ((a1.extract 0 (t500 : Int).toNat) ++ bt507.1).size + (a1.extract ((wrap64 (t500 + 1)) : Int).toNat a1.size).size ≤ 9223372036854775807 then (some (((a1.extract 0 (t500 : Int).toNat) ++ bt507.1) ++ (a1.extract ((wrap64 (t500 + 1)) : Int).toNat a1.size), bt507.2)) else (none)) else (none)) else (none)) else (none))) = some (r1, r2) := by first | (rw [hy504]; with_reducible exact H) | (have H2_ := (Option.bind_some _ _).symm.trans H; rw [hy504]; with_reducible exact H2_) | (have H2_ := (Option.bind_some _ _).symm.trans H; with_reducible exact H2_) | with_reducible exact H | (rw [hy504]; exact H) | exact H
          have Ny504 := Aside0.mk hy504
          clear hy504
          replace H := Option.bind_eq_some_iff.mp H
          obtain ⟨⟨t507, t508⟩, A90, H⟩ := H
          replace H : (if (a1.extract 0 (t500 : Int).toNat).size + t507.size ≤ 9223372036854775807 then (if 0 ≤ (wrap64 (t500 + 1)) then (if (wrap64 (t500 + 1)) ≤ (a1.size : Int) then (if ((a1.extract 0 (t500 : Int).toNat) ++ t507).size + (a1.extract ((wrap64 (t500 + 1)) : Int).toNat a1.size).size ≤ 9223372036854775807 then (some (((a1.extract 0 (t500 : Int).toNat) ++ t507) ++ (a1.extract ((wrap64 (t500 + 1)) : Int).toNat a1.size), t508)) else (none)) else (none)) else (none)) else (none)) = some (r1, r2) := H
          have A9 := Aside0.mk A90
          clear A90
          by_cases c10 : (a1.extract 0 (t500 : Int).toNat).size + t507.size ≤ 9223372036854775807
          · rw [if_pos c10] at H
            have c10b0 := eq_true c10
            have c10b1 : decide ((a1.extract 0 (t500 : Int).toNat).size + t507.size ≤ 9223372036854775807) = true := decide_eq_true c10
            try have c10b2 : (9223372036854775807 < (a1.extract 0 (t500 : Int).toNat).size + t507.size) = False := eq_false (Nat.not_lt.2 c10)
            try have c10bs : (9223372036854775807 < t500.toNat + t507.size) = False := eq_false (by have q0_ : ((t500 : Int) : Int) ≤ (a1.size : Int) := (by first | exact of_eq_true (by assumption) | exact Int.le_of_lt (of_eq_true (by assumption)) | exact of_decide_eq_true (by assumption) | exact Int.le_of_lt (of_decide_eq_true (by assumption))); have h_ := c10; simp only [ByteArray.size_append, ByteArray.size_extract] at h_; omega)
            obtain ⟨ji11, hji11⟩ : ∃ j_ : Int, (wrap64 (t500 + 1)) = j_ := ⟨_, rfl⟩
            replace H : (if 0 ≤ (ji11) then (if (ji11) ≤ (a1.size : Int) then (if ((a1.extract 0 (t500 : Int).toNat) ++ t507).size + (a1.extract ((ji11) : Int).toNat a1.size).size ≤ 9223372036854775807 then (some (((a1.extract 0 (t500 : Int).toNat) ++ t507) ++ (a1.extract ((ji11) : Int).toNat a1.size), t508)) else (none)) else (none)) else (none)) = some (r1, r2) := by first | (rw [hji11] at H; exact H) | (simp only [hji11] at H ⊢; exact H)
            (try rw [hji11] at A3)
            (try rw [hji11] at A4)
            (try rw [hji11] at A9)
            have hji11w : (IntKind.i64.wrap (t500 + 1)) = ji11 := (i64_w _).trans hji11
            by_cases c12 : 0 ≤ (ji11)
            · rw [if_pos c12] at H
              have c12b0 := eq_true c12
              have c12b1 : decide (0 ≤ (ji11)) = true := decide_eq_true c12
              clear c12
              by_cases c13 : (ji11) ≤ (a1.size : Int)
              · rw [if_pos c13] at H
                have c13b0 := eq_true c13
                have c13b1 : decide ((ji11) ≤ (a1.size : Int)) = true := decide_eq_true c13
                clear c13
                by_cases c14 : ((a1.extract 0 (t500 : Int).toNat) ++ t507).size + (a1.extract ((ji11) : Int).toNat a1.size).size ≤ 9223372036854775807
                · rw [if_pos c14] at H
                  have c14b0 := eq_true c14
                  have c14b1 : decide (((a1.extract 0 (t500 : Int).toNat) ++ t507).size + (a1.extract ((ji11) : Int).toNat a1.size).size ≤ 9223372036854775807) = true := decide_eq_true c14
                  try have c14b2 : (9223372036854775807 < ((a1.extract 0 (t500 : Int).toNat) ++ t507).size + (a1.extract ((ji11) : Int).toNat a1.size).size) = False := eq_false (Nat.not_lt.2 c14)
                  try have c14bs : (9223372036854775807 < t500.toNat + t507.size + (a1.size - ji11.toNat)) = False := eq_false (by have q0_ : ((t500 : Int) : Int) ≤ (a1.size : Int) := (by first | exact of_eq_true (by assumption) | exact Int.le_of_lt (of_eq_true (by assumption)) | exact of_decide_eq_true (by assumption) | exact Int.le_of_lt (of_decide_eq_true (by assumption))); have h_ := c14; simp only [ByteArray.size_append, ByteArray.size_extract] at h_; omega)
                  simp only [Option.some.injEq, Prod.mk.injEq] at H
                  obtain ⟨rfl, rfl⟩ := H
                  go_enter Tryz.func36, Tryz.ntmps36
                  try go_wp2_with (first | ((with_reducible refine gate_callee (f := 33) rfl ?_); refine goesL_ (some 10) rfl rfl Tryz.func33 (by kernel_rfl) rfl #[.pointer (some ⟨g, 0, none⟩), .int .i64 (wrap64 ((a1.size : Int) + 1))] rfl za ?_; (with_reducible refine (spec_l1Rd_pick.calls k g s0_0 s0_1 (wrap64 ((a1.size : Int) + 1)) t500 t501 w0 _ ?side1 ?side2 A3.out).mono ?_); (case side1 => repeat (first | (with_reducible first | exact HI0.out | apply IsS74.alloc | apply IsS74.drewN | apply IsS74.drew | apply IsS74.set_1) | exact HI0.out)); (case side2 => repeat (first | (with_reducible first | exact HB.out | apply below_alloc | apply pw_below_drewN | apply below_drew1 | refine below_set ?_ (IsS74.ge HI0.out)) | exact HB.out)); rintro e w15 ⟨rfl, hi, hb, hk⟩; refine ⟨_, rfl, ?_⟩; have n0_ := Aside0.mk (KeepBut.trans (by repeat (first | (with_reducible first | exact HK.out | apply KeepBut.set_ | apply keep_drewN | apply keep_drew | apply keep_alloc) | exact HK.out)) hk (.inl rfl)); have n1_ := Aside0.mk (hb); have n2_ := Aside0.mk (hi); clear HK; clear HB; clear HI0; have HK := n0_; have HB := n1_; have HI0 := n2_; clear n0_ n1_ n2_; (try clear hb); (try clear hb2); (try clear hk); (try clear hi)) | ((with_reducible refine gate_callee (f := 33) rfl ?_); refine goesL_ (some 12) rfl rfl Tryz.func33 (by kernel_rfl) rfl #[.pointer (some ⟨g, 0, none⟩), .int .i64 6] rfl za ?_; (with_reducible refine (spec_l1Rd_pick.calls k g s0_0 t501 6 t502 t503 w0 _ ?side1 ?side2 A4.out).mono ?_); (case side1 => repeat (first | (with_reducible first | exact HI0.out | apply IsS74.alloc | apply IsS74.drewN | apply IsS74.drew | apply IsS74.set_1) | exact HI0.out)); (case side2 => repeat (first | (with_reducible first | exact HB.out | apply below_alloc | apply pw_below_drewN | apply below_drew1 | refine below_set ?_ (IsS74.ge HI0.out)) | exact HB.out)); rintro e w16 ⟨rfl, hi, hb, hk⟩; refine ⟨_, rfl, ?_⟩; have n0_ := Aside0.mk (KeepBut.trans (by repeat (first | (with_reducible first | exact HK.out | apply KeepBut.set_ | apply keep_drewN | apply keep_drew | apply keep_alloc) | exact HK.out)) hk (.inl rfl)); have n1_ := Aside0.mk (hb); have n2_ := Aside0.mk (hi); clear HK; clear HB; clear HI0; have HK := n0_; have HB := n1_; have HI0 := n2_; clear n0_ n1_ n2_; (try clear hb); (try clear hb2); (try clear hk); (try clear hi)))
                  have n0_ := Aside0.mk (IsS74.drew HI0.out)
                  have n1_ := Aside0.mk (keep_drew HK.out)
                  have n2_ := Aside0.mk (below_drew1 HB.out)
                  clear HI0
                  clear HK
                  clear HB
                  have HI0 := n0_
                  have HK := n1_
                  have HB := n2_
                  clear n0_ n1_ n2_
                  refine start_ (n := 13) (S := fun w' => True) (ds := []) #[false, false, false, false, false, false, false, false, false, false, false, false, false] (by kernel_rfl) rfl rfl trivial (fun hHeld => ?_); refine with_tabW spec_l14Bent.tab5 spec_l14Bent.bits5 (fun HT_ HW_ => ?_)
                  generalize w16.drew = w17 at HI0 HK HB hHeld ⊢
                  refine pure_ (i := 0) (N := some 19) (v := ?_) (a' := ?_) #[true, false, false, false, false, false, false, false, false, false, false, false, false] rfl rfl (any_of HT_.out (by kernel_rfl)) (fun _ _ _ h => h) (Or.inl ⟨by rfl, ?_⟩) ?_ ?_
                  rotate_left
                  · intro w'
                    go_simp
                    with_reducible rfl
                  rotate_left
                  · simp only [Act.put, List.setIfInBounds_toArray, List.set_cons_zero, List.set_cons_succ, i64_w, i32_w]
                    rfl
                  refine pure_ (i := 1) (N := some 20) (v := ?_) (a' := ?_) #[true, true, false, false, false, false, false, false, false, false, false, false, false] rfl rfl (any_of HT_.out (by kernel_rfl)) (fun _ _ _ h => h) (Or.inl ⟨by rfl, ?_⟩) ?_ ?_
                  rotate_left
                  · intro w'
                    go_simp
                    with_reducible rfl
                  rotate_left
                  · simp only [Act.put, List.setIfInBounds_toArray, List.set_cons_zero, List.set_cons_succ, i64_w, i32_w]
                    rfl
                  refine pure_ (i := 2) (N := some 21) (v := ?_) (a' := ?_) #[true, true, true, false, false, false, false, false, false, false, false, false, false] rfl rfl (any_of HT_.out (by kernel_rfl)) (fun _ _ _ h => h) (Or.inl ⟨by rfl, ?_⟩) ?_ ?_
                  rotate_left
                  · intro w'
                    go_simp
                    with_reducible rfl
                  rotate_left
                  · simp only [Act.put, List.setIfInBounds_toArray, List.set_cons_zero, List.set_cons_succ, i64_w, i32_w]
                    rfl
                  refine pure_ (i := 3) (N := some 22) (v := ?_) (a' := ?_) #[true, true, true, true, false, false, false, false, false, false, false, false, false] rfl rfl (any_of HT_.out (by kernel_rfl)) (fun _ _ _ h => h) (Or.inl ⟨by rfl, ?_⟩) ?_ ?_
                  rotate_left
                  · intro w'
                    go_simp
                    with_reducible rfl
                  rotate_left
                  · simp only [Act.put, List.setIfInBounds_toArray, List.set_cons_zero, List.set_cons_succ, i64_w, i32_w]
                    rfl
                  refine pure_ (i := 7) (N := some 26) (v := ?_) (a' := ?_) #[true, true, true, true, false, false, false, true, false, false, false, false, false] rfl rfl (any_of HT_.out (by kernel_rfl)) (fun _ _ _ h => h) (Or.inl ⟨by rfl, ?_⟩) ?_ ?_
                  rotate_left
                  · intro w'
                    go_simp
                    with_reducible rfl
                  rotate_left
                  · simp only [Act.put, List.setIfInBounds_toArray, List.set_cons_zero, List.set_cons_succ, i64_w, i32_w]
                    rfl
                  refine pure_ (i := 8) (N := some 27) (v := ?_) (a' := ?_) #[true, true, true, true, false, false, false, true, true, false, false, false, false] rfl rfl (any_of HT_.out (by kernel_rfl)) (fun _ _ _ h => h) (Or.inl ⟨by rfl, ?_⟩) ?_ ?_
                  rotate_left
                  · intro w'
                    go_simp
                    with_reducible rfl
                  rotate_left
                  · simp only [Act.put, List.setIfInBounds_toArray, List.set_cons_zero, List.set_cons_succ, i64_w, i32_w]
                    rfl
                  refine pure_ (i := 9) (N := some 28) (v := ?_) (a' := ?_) #[true, true, true, true, false, false, false, true, true, true, false, false, false] rfl rfl (any_of HT_.out (by kernel_rfl)) (fun _ _ _ h => h) (Or.inl ⟨by rfl, ?_⟩) ?_ ?_
                  rotate_left
                  · intro w'
                    go_simp
                    with_reducible rfl
                  rotate_left
                  · simp only [Act.put, List.setIfInBounds_toArray, List.set_cons_zero, List.set_cons_succ, i64_w, i32_w]
                    rfl
                  refine pure_ (i := 10) (N := some 29) (v := ?_) (a' := ?_) #[true, true, true, true, false, false, false, true, true, true, true, false, false] rfl rfl (any_of HT_.out (by kernel_rfl)) (fun _ _ _ h => h) (Or.inl ⟨by rfl, ?_⟩) ?_ ?_
                  rotate_left
                  · intro w'
                    go_simp
                    with_reducible rfl
                  rotate_left
                  · simp only [Act.put, List.setIfInBounds_toArray, List.set_cons_zero, List.set_cons_succ, i64_w, i32_w]
                    rfl
                  refine one_ (i := 4) (N := some 23) #[true, true, true, true, true, false, false, true, true, true, true, false, false] rfl rfl (one_of HT_.out (by kernel_rfl)) (by decide) (fun K hK => ?_)
                  refine Kd.R_lit_step Kd.string _ 9 ?hg (N := 23) ?hd (xs := ([(⟨#[48]⟩ : ByteArray), (⟨#[57]⟩ : ByteArray), (⟨#[45]⟩ : ByteArray), (⟨#[46]⟩ : ByteArray), (⟨#[32]⟩ : ByteArray), (⟨#[120]⟩ : ByteArray), (⟨#[44]⟩ : ByteArray), (⟨#[58]⟩ : ByteArray), (⟨#[39]⟩ : ByteArray), (⟨#[33]⟩ : ByteArray), (⟨#[59]⟩ : ByteArray)] : List ByteArray)) (inner := [.string (⟨#[48]⟩ : ByteArray), .string (⟨#[57]⟩ : ByteArray), .string (⟨#[45]⟩ : ByteArray), .string (⟨#[46]⟩ : ByteArray), .string (⟨#[32]⟩ : ByteArray), .string (⟨#[120]⟩ : ByteArray), .string (⟨#[44]⟩ : ByteArray), .string (⟨#[58]⟩ : ByteArray), .string (⟨#[39]⟩ : ByteArray), .string (⟨#[33]⟩ : ByteArray), .string (⟨#[59]⟩ : ByteArray)]) (ok := fun _ => True) (okp := fun _ => True) ?hr ?hp (fun _ hk => hk) trivial (Below.refl _ _) (Nat.le_refl _) (by simp) ?_; (case hd => rfl); (case hg => rfl); (case hr => first | (go_simp; done) | (go_simp; rfl)); (case hp => exact (Reps.one (show Kd.M Kd.string _ _ _ (⟨#[48]⟩ : ByteArray) [.string (⟨#[48]⟩ : ByteArray)] from rfl) (Reps.one (show Kd.M Kd.string _ _ _ (⟨#[57]⟩ : ByteArray) [.string (⟨#[57]⟩ : ByteArray)] from rfl) (Reps.one (show Kd.M Kd.string _ _ _ (⟨#[45]⟩ : ByteArray) [.string (⟨#[45]⟩ : ByteArray)] from rfl) (Reps.one (show Kd.M Kd.string _ _ _ (⟨#[46]⟩ : ByteArray) [.string (⟨#[46]⟩ : ByteArray)] from rfl) (Reps.one (show Kd.M Kd.string _ _ _ (⟨#[32]⟩ : ByteArray) [.string (⟨#[32]⟩ : ByteArray)] from rfl) (Reps.one (show Kd.M Kd.string _ _ _ (⟨#[120]⟩ : ByteArray) [.string (⟨#[120]⟩ : ByteArray)] from rfl) (Reps.one (show Kd.M Kd.string _ _ _ (⟨#[44]⟩ : ByteArray) [.string (⟨#[44]⟩ : ByteArray)] from rfl) (Reps.one (show Kd.M Kd.string _ _ _ (⟨#[58]⟩ : ByteArray) [.string (⟨#[58]⟩ : ByteArray)] from rfl) (Reps.one (show Kd.M Kd.string _ _ _ (⟨#[39]⟩ : ByteArray) [.string (⟨#[39]⟩ : ByteArray)] from rfl) (Reps.one (show Kd.M Kd.string _ _ _ (⟨#[33]⟩ : ByteArray) [.string (⟨#[33]⟩ : ByteArray)] from rfl) (Reps.one (show Kd.M Kd.string _ _ _ (⟨#[59]⟩ : ByteArray) [.string (⟨#[59]⟩ : ByteArray)] from rfl) (Reps.none _ _)))))))))))))
                  intro v505 w18 ho19 hb hg_ hnew_
                  clear hg_ hnew_
                  (first | rw [← Ny504.out] at ho19 | (simp only [Int.reduceToNat] at ho19; rw [← Ny504.out] at ho19))
                  have n0_ := Aside0.mk (Kd.R_lower ho19 (keep_size (w := w) (g := g) (row := none) (by repeat (first | (with_reducible first | exact HK.out | apply KeepBut.set_ | apply keep_drewN | apply keep_drew | apply keep_alloc) | exact HK.out))))
                  have n1_ := Aside0.mk (IsS74.below (by repeat (first | (with_reducible first | exact HI0.out | apply IsS74.alloc | apply IsS74.drewN | apply IsS74.drew | apply IsS74.set_1) | exact HI0.out)) hb)
                  have n2_ := Aside0.mk (KeepBut.trans (by repeat (first | (with_reducible first | exact HK.out | apply KeepBut.set_ | apply keep_drewN | apply keep_drew | apply keep_alloc) | exact HK.out)) (KeepBut.of_below hb g none) (.inl rfl))
                  have n3_ := Aside0.mk (below_step (by repeat (first | (with_reducible first | exact HB.out | apply below_alloc | apply pw_below_drewN | apply below_drew1 | refine below_set ?_ (IsS74.ge HI0.out)) | exact HB.out)) hb)
                  clear HI0
                  clear HK
                  clear HB
                  have HO506 := n0_
                  have HI0 := n1_
                  have HK := n2_
                  have HB := n3_
                  clear n0_ n1_ n2_ n3_
                  clear hb ho19
                  obtain ⟨Ao20, co20, eo20⟩ := Kd.R_slice HO506.out
                  (first | subst eo20 | (injection eo20 with f1_ f2_ f3_; have f4_ := f1_.symm; have f5_ := f3_.symm; clear f1_ f2_ f3_; subst f4_; subst f5_))
                  refine hK.out _ _ trivial (fun hHeld => ?_)
                  clear hK K
                  refine norm_ (a' := ?_) ?_ ?_
                  rotate_left
                  · show Act.put _ (some 23) _ = _
                    simp only [Act.put, List.setIfInBounds_toArray, List.set_cons_zero, List.set_cons_succ, i64_w, i32_w]
                    rfl
                  refine one_ (i := 5) (N := some 24) #[true, true, true, true, true, true, false, true, true, true, true, false, false] rfl rfl (one_of HT_.out (by kernel_rfl)) (by decide) (fun K hK => ?_)
                  refine goes_ Tryz.func34 (by kernel_rfl) rfl #[.pointer (some ⟨g, 0, none⟩), .slice Ao20 y504.length co20] (by rfl) rfl rfl za ?_
                  with_reducible refine (spec_l1Rd_of.calls k g s0_0 t503 _ _ y504 t507 t508 w0 _ ?side1 ?side2 ?side3 ?side4 ?side5 A9.out).mono ?_
                  (case side1 => repeat (first | (with_reducible first | exact HI0.out | apply IsS74.alloc | apply IsS74.drewN | apply IsS74.drew | apply IsS74.set_1) | exact HI0.out))
                  (case side2 => repeat (first | (with_reducible first | exact HB.out | apply below_alloc | apply pw_below_drewN | apply below_drew1 | refine below_set ?_ (IsS74.ge HI0.out)) | exact HB.out))
                  (case side3 => repeat (first | exact (Kd.R_reads' HO506.out).2.2 | (with_reducible refine Kd.C_alloc ?_ _) | (with_reducible refine Kd.C_drewN ?_ _) | (with_reducible refine Kd.C_drew ?_)))
                  (case side4 => exact (Kd.R_reads' HO506.out).2.1)
                  (case side5 => exact far_slice (IsS74.own_ne HI0.out HO506.out (by decide)))
                  rintro e w21 ⟨rfl, hi, hb, hk⟩
                  refine ⟨_, rfl, ?_⟩
                  have n0_ := Aside0.mk (Kd.R_mono (Kd.R_keep (IsS74.apart (show IsS74 w0 _ g s0_0 t503 from by repeat (first | (with_reducible first | exact HI0.out | apply IsS74.alloc | apply IsS74.drewN | apply IsS74.drew | apply IsS74.set_1) | exact HI0.out)) (zR HO506.out) (by decide)) hk (fun _ h => h.2)) (fun _ h => h.1))
                  have n1_ := Aside0.mk (KeepBut.trans (by repeat (first | (with_reducible first | exact HK.out | apply KeepBut.set_ | apply keep_drewN | apply keep_drew | apply keep_alloc) | exact HK.out)) hk (.inl rfl))
                  have n2_ := Aside0.mk (hb)
                  have n3_ := Aside0.mk (hi)
                  clear HO506
                  clear HK
                  clear HB
                  clear HI0
                  have HO506 := n0_
                  have HK := n1_
                  have HB := n2_
                  have HI0 := n3_
                  clear n0_ n1_ n2_ n3_
                  (try clear hb)
                  (try clear hb2)
                  (try clear hk)
                  (try clear hi)
                  refine hK.out _ _ trivial (fun hHeld => ?_)
                  clear hK K
                  refine norm_ (a' := ?_) ?_ ?_
                  rotate_left
                  · show Act.put _ (some 24) _ = _
                    simp only [Act.put, List.setIfInBounds_toArray, List.set_cons_zero, List.set_cons_succ, i64_w, i32_w]
                    rfl
                  refine pure_ (i := 6) (N := some 25) (v := ?_) (a' := ?_) #[true, true, true, true, true, true, true, true, true, true, true, false, false] rfl rfl (any_of HT_.out (by kernel_rfl)) (fun _ _ _ h => h) (Or.inl ⟨by rfl, ?_⟩) ?_ ?_
                  rotate_left
                  · intro w'
                    go_simp
                    with_reducible rfl
                  rotate_left
                  · simp only [Act.put, List.setIfInBounds_toArray, List.set_cons_zero, List.set_cons_succ, i64_w, i32_w]
                    rfl
                  refine pure_ (i := 11) (N := some 30) (v := ?_) (a' := ?_) #[true, true, true, true, true, true, true, true, true, true, true, true, false] rfl rfl (any_of HT_.out (by kernel_rfl)) (fun _ _ _ h => h) (Or.inl ⟨by rfl, ?_⟩) ?_ ?_
                  rotate_left
                  · intro w'
                    go_simp
                    with_reducible rfl
                  rotate_left
                  · simp only [Act.put, List.setIfInBounds_toArray, List.set_cons_zero, List.set_cons_succ, i64_w, i32_w]
                    rfl
                  refine pure_ (i := 12) (N := some 4) (v := ?_) (a' := ?_) #[true, true, true, true, true, true, true, true, true, true, true, true, true] rfl rfl (any_of HT_.out (by kernel_rfl)) (fun _ _ _ h => h) (Or.inl ⟨by rfl, ?_⟩) ?_ ?_
                  rotate_left
                  · intro w'
                    go_simp
                    with_reducible rfl
                  rotate_left
                  · simp only [Act.put, List.setIfInBounds_toArray, List.set_cons_zero, List.set_cons_succ, i64_w, i32_w]
                    rfl
                  refine done_ (done_of HT_.out (by kernel_rfl)) ?_
                  try go_wp2
                  go_ret
                  exact ⟨by first | rfl | (simp [errW_none, errW_some] <;> rfl) | (simp only [← hji11]; first | rfl | (simp [errW_none, errW_some] <;> rfl)) | (simp [*, errW_none, errW_some] <;> rfl), by repeat (first | (with_reducible first | exact HI0.out | apply IsS74.alloc | apply IsS74.drewN | apply IsS74.drew | apply IsS74.set_1) | exact HI0.out), by repeat (first | (with_reducible first | exact HB.out | apply below_alloc | apply pw_below_drewN | apply below_drew1 | refine below_set ?_ (IsS74.ge HI0.out)) | exact HB.out), by repeat (first | (with_reducible first | exact HK.out | apply KeepBut.set_ | apply keep_drewN | apply keep_drew | apply keep_alloc) | exact HK.out)⟩
                · rw [if_neg c14] at H
                  exact absurd H (by simp)
              · rw [if_neg c13] at H
                exact absurd H (by simp)
            · rw [if_neg c12] at H
              exact absurd H (by simp)
          · rw [if_neg c10] at H
            exact absurd H (by simp)
        · rw [if_neg c8] at H
          exact absurd H (by simp)
      · rw [if_neg c7] at H
        exact absurd H (by simp)
    · rw [if_neg c6] at H
      have c6b0 : decide (t500 < (a1.size : Int)) = false := decide_eq_false c6
      clear c6
      simp only [Option.some.injEq, Prod.mk.injEq] at H
      obtain ⟨rfl, rfl⟩ := H
      go_enter Tryz.func36, Tryz.ntmps36
      go_wp2_with (first | ((with_reducible refine gate_callee (f := 33) rfl ?_); refine goesL_ (some 10) rfl rfl Tryz.func33 (by kernel_rfl) rfl #[.pointer (some ⟨g, 0, none⟩), .int .i64 (wrap64 ((a1.size : Int) + 1))] rfl za ?_; (with_reducible refine (spec_l1Rd_pick.calls k g s0_0 s0_1 (wrap64 ((a1.size : Int) + 1)) t500 t501 w0 _ ?side1 ?side2 A3.out).mono ?_); (case side1 => repeat (first | (with_reducible first | exact HI0.out | apply IsS74.alloc | apply IsS74.drewN | apply IsS74.drew | apply IsS74.set_1) | exact HI0.out)); (case side2 => repeat (first | (with_reducible first | exact HB.out | apply below_alloc | apply pw_below_drewN | apply below_drew1 | refine below_set ?_ (IsS74.ge HI0.out)) | exact HB.out)); rintro e w22 ⟨rfl, hi, hb, hk⟩; refine ⟨_, rfl, ?_⟩; have n0_ := Aside0.mk (KeepBut.trans (by repeat (first | (with_reducible first | exact HK.out | apply KeepBut.set_ | apply keep_drewN | apply keep_drew | apply keep_alloc) | exact HK.out)) hk (.inl rfl)); have n1_ := Aside0.mk (hb); have n2_ := Aside0.mk (hi); clear HK; clear HB; clear HI0; have HK := n0_; have HB := n1_; have HI0 := n2_; clear n0_ n1_ n2_; (try clear hb); (try clear hb2); (try clear hk); (try clear hi)) | ((with_reducible refine gate_callee (f := 33) rfl ?_); refine goesL_ (some 12) rfl rfl Tryz.func33 (by kernel_rfl) rfl #[.pointer (some ⟨g, 0, none⟩), .int .i64 6] rfl za ?_; (with_reducible refine (spec_l1Rd_pick.calls k g s0_0 t501 6 t502 t503 w0 _ ?side1 ?side2 A4.out).mono ?_); (case side1 => repeat (first | (with_reducible first | exact HI0.out | apply IsS74.alloc | apply IsS74.drewN | apply IsS74.drew | apply IsS74.set_1) | exact HI0.out)); (case side2 => repeat (first | (with_reducible first | exact HB.out | apply below_alloc | apply pw_below_drewN | apply below_drew1 | refine below_set ?_ (IsS74.ge HI0.out)) | exact HB.out)); rintro e w23 ⟨rfl, hi, hb, hk⟩; refine ⟨_, rfl, ?_⟩; have n0_ := Aside0.mk (KeepBut.trans (by repeat (first | (with_reducible first | exact HK.out | apply KeepBut.set_ | apply keep_drewN | apply keep_drew | apply keep_alloc) | exact HK.out)) hk (.inl rfl)); have n1_ := Aside0.mk (hb); have n2_ := Aside0.mk (hi); clear HK; clear HB; clear HI0; have HK := n0_; have HB := n1_; have HI0 := n2_; clear n0_ n1_ n2_; (try clear hb); (try clear hb2); (try clear hk); (try clear hi)))
      go_ret
      exact ⟨by first | rfl | (simp [errW_none, errW_some] <;> rfl) | (simp [*, errW_none, errW_some] <;> rfl), by repeat (first | (with_reducible first | exact HI0.out | apply IsS74.alloc | apply IsS74.drewN | apply IsS74.drew | apply IsS74.set_1) | exact HI0.out), by repeat (first | (with_reducible first | exact HB.out | apply below_alloc | apply pw_below_drewN | apply below_drew1 | refine below_set ?_ (IsS74.ge HI0.out)) | exact HB.out), by repeat (first | (with_reducible first | exact HK.out | apply KeepBut.set_ | apply keep_drewN | apply keep_drew | apply keep_alloc) | exact HK.out)⟩
  · rw [if_neg c5] at H
    have c5b0 : (t502 == 0) = false := beq_eq_false_iff_ne.mpr c5
    have c5b1 : (t502 != 0) = true := bne_iff_ne.mpr c5
    by_cases c24 : t502 = 1
    · rw [if_pos c24] at H
      have c24b0 : (t502 == 1) = true := beq_iff_eq.mpr c24
      have c24b1 : (t502 != 1) = false := bne_eq_false_iff_eq.mpr c24
      clear c24
      by_cases c25 : 0 ≤ t500
      · rw [if_pos c25] at H
        have c25b0 := eq_true c25
        have c25b1 : decide (0 ≤ t500) = true := decide_eq_true c25
        clear c25
        by_cases c26 : t500 ≤ (a1.size : Int)
        · rw [if_pos c26] at H
          have c26b0 := eq_true c26
          have c26b1 : decide (t500 ≤ (a1.size : Int)) = true := decide_eq_true c26
          clear c26
          simp only [Option.some.injEq, Prod.mk.injEq] at H
          obtain ⟨rfl, rfl⟩ := H
          go_enter Tryz.func36, Tryz.ntmps36
          go_wp2_with (first | ((with_reducible refine gate_callee (f := 33) rfl ?_); refine goesL_ (some 10) rfl rfl Tryz.func33 (by kernel_rfl) rfl #[.pointer (some ⟨g, 0, none⟩), .int .i64 (wrap64 ((a1.size : Int) + 1))] rfl za ?_; (with_reducible refine (spec_l1Rd_pick.calls k g s0_0 s0_1 (wrap64 ((a1.size : Int) + 1)) t500 t501 w0 _ ?side1 ?side2 A3.out).mono ?_); (case side1 => repeat (first | (with_reducible first | exact HI0.out | apply IsS74.alloc | apply IsS74.drewN | apply IsS74.drew | apply IsS74.set_1) | exact HI0.out)); (case side2 => repeat (first | (with_reducible first | exact HB.out | apply below_alloc | apply pw_below_drewN | apply below_drew1 | refine below_set ?_ (IsS74.ge HI0.out)) | exact HB.out)); rintro e w27 ⟨rfl, hi, hb, hk⟩; refine ⟨_, rfl, ?_⟩; have n0_ := Aside0.mk (KeepBut.trans (by repeat (first | (with_reducible first | exact HK.out | apply KeepBut.set_ | apply keep_drewN | apply keep_drew | apply keep_alloc) | exact HK.out)) hk (.inl rfl)); have n1_ := Aside0.mk (hb); have n2_ := Aside0.mk (hi); clear HK; clear HB; clear HI0; have HK := n0_; have HB := n1_; have HI0 := n2_; clear n0_ n1_ n2_; (try clear hb); (try clear hb2); (try clear hk); (try clear hi)) | ((with_reducible refine gate_callee (f := 33) rfl ?_); refine goesL_ (some 12) rfl rfl Tryz.func33 (by kernel_rfl) rfl #[.pointer (some ⟨g, 0, none⟩), .int .i64 6] rfl za ?_; (with_reducible refine (spec_l1Rd_pick.calls k g s0_0 t501 6 t502 t503 w0 _ ?side1 ?side2 A4.out).mono ?_); (case side1 => repeat (first | (with_reducible first | exact HI0.out | apply IsS74.alloc | apply IsS74.drewN | apply IsS74.drew | apply IsS74.set_1) | exact HI0.out)); (case side2 => repeat (first | (with_reducible first | exact HB.out | apply below_alloc | apply pw_below_drewN | apply below_drew1 | refine below_set ?_ (IsS74.ge HI0.out)) | exact HB.out)); rintro e w28 ⟨rfl, hi, hb, hk⟩; refine ⟨_, rfl, ?_⟩; have n0_ := Aside0.mk (KeepBut.trans (by repeat (first | (with_reducible first | exact HK.out | apply KeepBut.set_ | apply keep_drewN | apply keep_drew | apply keep_alloc) | exact HK.out)) hk (.inl rfl)); have n1_ := Aside0.mk (hb); have n2_ := Aside0.mk (hi); clear HK; clear HB; clear HI0; have HK := n0_; have HB := n1_; have HI0 := n2_; clear n0_ n1_ n2_; (try clear hb); (try clear hb2); (try clear hk); (try clear hi)))
          go_ret
          exact ⟨by first | rfl | (simp [errW_none, errW_some] <;> rfl) | (simp [*, errW_none, errW_some] <;> rfl), by repeat (first | (with_reducible first | exact HI0.out | apply IsS74.alloc | apply IsS74.drewN | apply IsS74.drew | apply IsS74.set_1) | exact HI0.out), by repeat (first | (with_reducible first | exact HB.out | apply below_alloc | apply pw_below_drewN | apply below_drew1 | refine below_set ?_ (IsS74.ge HI0.out)) | exact HB.out), by repeat (first | (with_reducible first | exact HK.out | apply KeepBut.set_ | apply keep_drewN | apply keep_drew | apply keep_alloc) | exact HK.out)⟩
        · rw [if_neg c26] at H
          exact absurd H (by simp)
      · rw [if_neg c25] at H
        exact absurd H (by simp)
    · rw [if_neg c24] at H
      have c24b0 : (t502 == 1) = false := beq_eq_false_iff_ne.mpr c24
      have c24b1 : (t502 != 1) = true := bne_iff_ne.mpr c24
      by_cases c29 : t502 = 2
      · rw [if_pos c29] at H
        have c29b0 : (t502 == 2) = true := beq_iff_eq.mpr c29
        have c29b1 : (t502 != 2) = false := bne_eq_false_iff_eq.mpr c29
        clear c29
        obtain ⟨y509, hy509⟩ : ∃ y_ : List ByteArray, y_ = (([(⟨#[120]⟩ : ByteArray), (⟨#[48]⟩ : ByteArray), (⟨#[32]⟩ : ByteArray), (⟨#[39]⟩ : ByteArray), (⟨#[59]⟩ : ByteArray), (⟨#[10]⟩ : ByteArray)] : List ByteArray)) := ⟨_, rfl⟩
        replace H : ((spec_l1Rd_of.f k s0_0 t503 y509).bind fun bt512 => (if a1.size + bt512.1.size ≤ 9223372036854775807 then (some (a1 ++ bt512.1, bt512.2)) else (none))) = some (r1, r2) := by first | (rw [hy509]; with_reducible exact H) | (have H2_ := (Option.bind_some _ _).symm.trans H; rw [hy509]; with_reducible exact H2_) | (have H2_ := (Option.bind_some _ _).symm.trans H; with_reducible exact H2_) | with_reducible exact H | (rw [hy509]; exact H) | exact H
        have Ny509 := Aside0.mk hy509
        clear hy509
        replace H := Option.bind_eq_some_iff.mp H
        obtain ⟨⟨t512, t513⟩, A300, H⟩ := H
        replace H : (if a1.size + t512.size ≤ 9223372036854775807 then (some (a1 ++ t512, t513)) else (none)) = some (r1, r2) := H
        have A30 := Aside0.mk A300
        clear A300
        by_cases c31 : a1.size + t512.size ≤ 9223372036854775807
        · rw [if_pos c31] at H
          have c31b0 := eq_true c31
          have c31b1 : decide (a1.size + t512.size ≤ 9223372036854775807) = true := decide_eq_true c31
          try have c31b2 : (9223372036854775807 < a1.size + t512.size) = False := eq_false (Nat.not_lt.2 c31)
          simp only [Option.some.injEq, Prod.mk.injEq] at H
          obtain ⟨rfl, rfl⟩ := H
          go_enter Tryz.func36, Tryz.ntmps36
          go_wp2_with (first | ((with_reducible refine gate_callee (f := 33) rfl ?_); refine goesL_ (some 10) rfl rfl Tryz.func33 (by kernel_rfl) rfl #[.pointer (some ⟨g, 0, none⟩), .int .i64 (wrap64 ((a1.size : Int) + 1))] rfl za ?_; (with_reducible refine (spec_l1Rd_pick.calls k g s0_0 s0_1 (wrap64 ((a1.size : Int) + 1)) t500 t501 w0 _ ?side1 ?side2 A3.out).mono ?_); (case side1 => repeat (first | (with_reducible first | exact HI0.out | apply IsS74.alloc | apply IsS74.drewN | apply IsS74.drew | apply IsS74.set_1) | exact HI0.out)); (case side2 => repeat (first | (with_reducible first | exact HB.out | apply below_alloc | apply pw_below_drewN | apply below_drew1 | refine below_set ?_ (IsS74.ge HI0.out)) | exact HB.out)); rintro e w32 ⟨rfl, hi, hb, hk⟩; refine ⟨_, rfl, ?_⟩; have n0_ := Aside0.mk (KeepBut.trans (by repeat (first | (with_reducible first | exact HK.out | apply KeepBut.set_ | apply keep_drewN | apply keep_drew | apply keep_alloc) | exact HK.out)) hk (.inl rfl)); have n1_ := Aside0.mk (hb); have n2_ := Aside0.mk (hi); clear HK; clear HB; clear HI0; have HK := n0_; have HB := n1_; have HI0 := n2_; clear n0_ n1_ n2_; (try clear hb); (try clear hb2); (try clear hk); (try clear hi)) | ((with_reducible refine gate_callee (f := 33) rfl ?_); refine goesL_ (some 12) rfl rfl Tryz.func33 (by kernel_rfl) rfl #[.pointer (some ⟨g, 0, none⟩), .int .i64 6] rfl za ?_; (with_reducible refine (spec_l1Rd_pick.calls k g s0_0 t501 6 t502 t503 w0 _ ?side1 ?side2 A4.out).mono ?_); (case side1 => repeat (first | (with_reducible first | exact HI0.out | apply IsS74.alloc | apply IsS74.drewN | apply IsS74.drew | apply IsS74.set_1) | exact HI0.out)); (case side2 => repeat (first | (with_reducible first | exact HB.out | apply below_alloc | apply pw_below_drewN | apply below_drew1 | refine below_set ?_ (IsS74.ge HI0.out)) | exact HB.out)); rintro e w33 ⟨rfl, hi, hb, hk⟩; refine ⟨_, rfl, ?_⟩; have n0_ := Aside0.mk (KeepBut.trans (by repeat (first | (with_reducible first | exact HK.out | apply KeepBut.set_ | apply keep_drewN | apply keep_drew | apply keep_alloc) | exact HK.out)) hk (.inl rfl)); have n1_ := Aside0.mk (hb); have n2_ := Aside0.mk (hi); clear HK; clear HB; clear HI0; have HK := n0_; have HB := n1_; have HI0 := n2_; clear n0_ n1_ n2_; (try clear hb); (try clear hb2); (try clear hk); (try clear hi)) | ((with_reducible refine gate_dst (N := 40) rfl ?_); refine Kd.R_lit Kd.string _ 9 ?hg (N := 40) ?hd (xs := ([(⟨#[120]⟩ : ByteArray), (⟨#[48]⟩ : ByteArray), (⟨#[32]⟩ : ByteArray), (⟨#[39]⟩ : ByteArray), (⟨#[59]⟩ : ByteArray), (⟨#[10]⟩ : ByteArray)] : List ByteArray)) (inner := [.string (⟨#[120]⟩ : ByteArray), .string (⟨#[48]⟩ : ByteArray), .string (⟨#[32]⟩ : ByteArray), .string (⟨#[39]⟩ : ByteArray), .string (⟨#[59]⟩ : ByteArray), .string (⟨#[10]⟩ : ByteArray)]) (ok := fun _ => True) (okp := fun _ => True) ?hr ?hp (fun _ hk => hk) trivial (Below.refl _ _) (Nat.le_refl _) (by simp) ?_; (case hd => rfl); (case hg => rfl); (case hr => first | (go_simp; done) | (go_simp; rfl)); (case hp => exact (Reps.one (show Kd.M Kd.string _ _ _ (⟨#[120]⟩ : ByteArray) [.string (⟨#[120]⟩ : ByteArray)] from rfl) (Reps.one (show Kd.M Kd.string _ _ _ (⟨#[48]⟩ : ByteArray) [.string (⟨#[48]⟩ : ByteArray)] from rfl) (Reps.one (show Kd.M Kd.string _ _ _ (⟨#[32]⟩ : ByteArray) [.string (⟨#[32]⟩ : ByteArray)] from rfl) (Reps.one (show Kd.M Kd.string _ _ _ (⟨#[39]⟩ : ByteArray) [.string (⟨#[39]⟩ : ByteArray)] from rfl) (Reps.one (show Kd.M Kd.string _ _ _ (⟨#[59]⟩ : ByteArray) [.string (⟨#[59]⟩ : ByteArray)] from rfl) (Reps.one (show Kd.M Kd.string _ _ _ (⟨#[10]⟩ : ByteArray) [.string (⟨#[10]⟩ : ByteArray)] from rfl) (Reps.none _ _)))))))); intro v510 w34 ho35 hb hg_ hnew_; clear hg_ hnew_; (first | rw [← Ny509.out] at ho35 | (simp only [Int.reduceToNat] at ho35; rw [← Ny509.out] at ho35)); have n0_ := Aside0.mk (Kd.R_lower ho35 (keep_size (w := w) (g := g) (row := none) (by repeat (first | (with_reducible first | exact HK.out | apply KeepBut.set_ | apply keep_drewN | apply keep_drew | apply keep_alloc) | exact HK.out)))); have n1_ := Aside0.mk (IsS74.below (by repeat (first | (with_reducible first | exact HI0.out | apply IsS74.alloc | apply IsS74.drewN | apply IsS74.drew | apply IsS74.set_1) | exact HI0.out)) hb); have n2_ := Aside0.mk (KeepBut.trans (by repeat (first | (with_reducible first | exact HK.out | apply KeepBut.set_ | apply keep_drewN | apply keep_drew | apply keep_alloc) | exact HK.out)) (KeepBut.of_below hb g none) (.inl rfl)); have n3_ := Aside0.mk (below_step (by repeat (first | (with_reducible first | exact HB.out | apply below_alloc | apply pw_below_drewN | apply below_drew1 | refine below_set ?_ (IsS74.ge HI0.out)) | exact HB.out)) hb); clear HI0; clear HK; clear HB; have HO511 := n0_; have HI0 := n1_; have HK := n2_; have HB := n3_; clear n0_ n1_ n2_ n3_; clear hb ho35; obtain ⟨Ao36, co36, eo36⟩ := Kd.R_slice HO511.out; subst eo36) | ((with_reducible refine gate_callee (f := 34) rfl ?_); refine goesL_ (some 41) rfl rfl Tryz.func34 (by kernel_rfl) rfl #[.pointer (some ⟨g, 0, none⟩), .slice Ao36 y509.length co36] rfl za ?_; (with_reducible refine (spec_l1Rd_of.calls k g s0_0 t503 _ _ y509 t512 t513 w0 _ ?side1 ?side2 ?side3 ?side4 ?side5 A30.out).mono ?_); (case side1 => repeat (first | (with_reducible first | exact HI0.out | apply IsS74.alloc | apply IsS74.drewN | apply IsS74.drew | apply IsS74.set_1) | exact HI0.out)); (case side2 => repeat (first | (with_reducible first | exact HB.out | apply below_alloc | apply pw_below_drewN | apply below_drew1 | refine below_set ?_ (IsS74.ge HI0.out)) | exact HB.out)); (case side3 => repeat (first | exact (Kd.R_reads' HO511.out).2.2 | (with_reducible refine Kd.C_alloc ?_ _) | (with_reducible refine Kd.C_drewN ?_ _) | (with_reducible refine Kd.C_drew ?_))); (case side4 => exact (Kd.R_reads' HO511.out).2.1); (case side5 => exact far_slice (IsS74.own_ne HI0.out HO511.out (by decide))); rintro e w37 ⟨rfl, hi, hb, hk⟩; refine ⟨_, rfl, ?_⟩; have n0_ := Aside0.mk (Kd.R_mono (Kd.R_keep (IsS74.apart (show IsS74 w0 _ g s0_0 t503 from by repeat (first | (with_reducible first | exact HI0.out | apply IsS74.alloc | apply IsS74.drewN | apply IsS74.drew | apply IsS74.set_1) | exact HI0.out)) (zR HO511.out) (by decide)) hk (fun _ h => h.2)) (fun _ h => h.1)); have n1_ := Aside0.mk (KeepBut.trans (by repeat (first | (with_reducible first | exact HK.out | apply KeepBut.set_ | apply keep_drewN | apply keep_drew | apply keep_alloc) | exact HK.out)) hk (.inl rfl)); have n2_ := Aside0.mk (hb); have n3_ := Aside0.mk (hi); clear HO511; clear HK; clear HB; clear HI0; have HO511 := n0_; have HK := n1_; have HB := n2_; have HI0 := n3_; clear n0_ n1_ n2_ n3_; (try clear hb); (try clear hb2); (try clear hk); (try clear hi)))
          go_ret
          exact ⟨by first | rfl | (simp [errW_none, errW_some] <;> rfl) | (simp [*, errW_none, errW_some] <;> rfl), by repeat (first | (with_reducible first | exact HI0.out | apply IsS74.alloc | apply IsS74.drewN | apply IsS74.drew | apply IsS74.set_1) | exact HI0.out), by repeat (first | (with_reducible first | exact HB.out | apply below_alloc | apply pw_below_drewN | apply below_drew1 | refine below_set ?_ (IsS74.ge HI0.out)) | exact HB.out), by repeat (first | (with_reducible first | exact HK.out | apply KeepBut.set_ | apply keep_drewN | apply keep_drew | apply keep_alloc) | exact HK.out)⟩
        · rw [if_neg c31] at H
          exact absurd H (by simp)
      · rw [if_neg c29] at H
        have c29b0 : (t502 == 2) = false := beq_eq_false_iff_ne.mpr c29
        have c29b1 : (t502 != 2) = true := bne_iff_ne.mpr c29
        by_cases c38 : t502 = 3
        · rw [if_pos c38] at H
          have c38b0 : (t502 == 3) = true := beq_iff_eq.mpr c38
          have c38b1 : (t502 != 3) = false := bne_eq_false_iff_eq.mpr c38
          clear c38
          by_cases c39 : 0 ≤ t500
          · rw [if_pos c39] at H
            have c39b0 := eq_true c39
            have c39b1 : decide (0 ≤ t500) = true := decide_eq_true c39
            clear c39
            by_cases c40 : t500 ≤ (a1.size : Int)
            · rw [if_pos c40] at H
              have c40b0 := eq_true c40
              have c40b1 : decide (t500 ≤ (a1.size : Int)) = true := decide_eq_true c40
              clear c40
              obtain ⟨y514, hy514⟩ : ∃ y_ : List ByteArray, y_ = (([(⟨#[48]⟩ : ByteArray), (⟨#[45]⟩ : ByteArray), (⟨#[46]⟩ : ByteArray), (⟨#[32]⟩ : ByteArray), (⟨#[40]⟩ : ByteArray), (⟨#[49]⟩ : ByteArray)] : List ByteArray)) := ⟨_, rfl⟩
              replace H : ((spec_l1Rd_of.f k s0_0 t503 y514).bind fun bt517 => (if (a1.extract 0 (t500 : Int).toNat).size + bt517.1.size ≤ 9223372036854775807 then (if ((a1.extract 0 (t500 : Int).toNat) ++ bt517.1).size + (a1.extract (t500 : Int).toNat a1.size).size ≤ 9223372036854775807 then (some (((a1.extract 0 (t500 : Int).toNat) ++ bt517.1) ++ (a1.extract (t500 : Int).toNat a1.size), bt517.2)) else (none)) else (none))) = some (r1, r2) := by first | (rw [hy514]; with_reducible exact H) | (have H2_ := (Option.bind_some _ _).symm.trans H; rw [hy514]; with_reducible exact H2_) | (have H2_ := (Option.bind_some _ _).symm.trans H; with_reducible exact H2_) | with_reducible exact H | (rw [hy514]; exact H) | exact H
              have Ny514 := Aside0.mk hy514
              clear hy514
              replace H := Option.bind_eq_some_iff.mp H
              obtain ⟨⟨t517, t518⟩, A410, H⟩ := H
              replace H : (if (a1.extract 0 (t500 : Int).toNat).size + t517.size ≤ 9223372036854775807 then (if ((a1.extract 0 (t500 : Int).toNat) ++ t517).size + (a1.extract (t500 : Int).toNat a1.size).size ≤ 9223372036854775807 then (some (((a1.extract 0 (t500 : Int).toNat) ++ t517) ++ (a1.extract (t500 : Int).toNat a1.size), t518)) else (none)) else (none)) = some (r1, r2) := H
              have A41 := Aside0.mk A410
              clear A410
              by_cases c42 : (a1.extract 0 (t500 : Int).toNat).size + t517.size ≤ 9223372036854775807
              · rw [if_pos c42] at H
                have c42b0 := eq_true c42
                have c42b1 : decide ((a1.extract 0 (t500 : Int).toNat).size + t517.size ≤ 9223372036854775807) = true := decide_eq_true c42
                try have c42b2 : (9223372036854775807 < (a1.extract 0 (t500 : Int).toNat).size + t517.size) = False := eq_false (Nat.not_lt.2 c42)
                try have c42bs : (9223372036854775807 < t500.toNat + t517.size) = False := eq_false (by have q0_ : ((t500 : Int) : Int) ≤ (a1.size : Int) := (by first | exact of_eq_true (by assumption) | exact Int.le_of_lt (of_eq_true (by assumption)) | exact of_decide_eq_true (by assumption) | exact Int.le_of_lt (of_decide_eq_true (by assumption))); have h_ := c42; simp only [ByteArray.size_append, ByteArray.size_extract] at h_; omega)
                have c43b0 := eq_true (of_decide_eq_true (by first | (with_reducible assumption) | assumption) : 0 ≤ t500)
                have c44b0 := eq_true (of_decide_eq_true (by first | (with_reducible assumption) | assumption) : t500 ≤ (a1.size : Int))
                by_cases c45 : ((a1.extract 0 (t500 : Int).toNat) ++ t517).size + (a1.extract (t500 : Int).toNat a1.size).size ≤ 9223372036854775807
                · rw [if_pos c45] at H
                  have c45b0 := eq_true c45
                  have c45b1 : decide (((a1.extract 0 (t500 : Int).toNat) ++ t517).size + (a1.extract (t500 : Int).toNat a1.size).size ≤ 9223372036854775807) = true := decide_eq_true c45
                  try have c45b2 : (9223372036854775807 < ((a1.extract 0 (t500 : Int).toNat) ++ t517).size + (a1.extract (t500 : Int).toNat a1.size).size) = False := eq_false (Nat.not_lt.2 c45)
                  try have c45bs : (9223372036854775807 < t500.toNat + t517.size + (a1.size - t500.toNat)) = False := eq_false (by have q0_ : ((t500 : Int) : Int) ≤ (a1.size : Int) := (by first | exact of_eq_true (by assumption) | exact Int.le_of_lt (of_eq_true (by assumption)) | exact of_decide_eq_true (by assumption) | exact Int.le_of_lt (of_decide_eq_true (by assumption))); have h_ := c45; simp only [ByteArray.size_append, ByteArray.size_extract] at h_; omega)
                  simp only [Option.some.injEq, Prod.mk.injEq] at H
                  obtain ⟨rfl, rfl⟩ := H
                  go_enter Tryz.func36, Tryz.ntmps36
                  try go_wp2_with (first | ((with_reducible refine gate_callee (f := 33) rfl ?_); refine goesL_ (some 10) rfl rfl Tryz.func33 (by kernel_rfl) rfl #[.pointer (some ⟨g, 0, none⟩), .int .i64 (wrap64 ((a1.size : Int) + 1))] rfl za ?_; (with_reducible refine (spec_l1Rd_pick.calls k g s0_0 s0_1 (wrap64 ((a1.size : Int) + 1)) t500 t501 w0 _ ?side1 ?side2 A3.out).mono ?_); (case side1 => repeat (first | (with_reducible first | exact HI0.out | apply IsS74.alloc | apply IsS74.drewN | apply IsS74.drew | apply IsS74.set_1) | exact HI0.out)); (case side2 => repeat (first | (with_reducible first | exact HB.out | apply below_alloc | apply pw_below_drewN | apply below_drew1 | refine below_set ?_ (IsS74.ge HI0.out)) | exact HB.out)); rintro e w46 ⟨rfl, hi, hb, hk⟩; refine ⟨_, rfl, ?_⟩; have n0_ := Aside0.mk (KeepBut.trans (by repeat (first | (with_reducible first | exact HK.out | apply KeepBut.set_ | apply keep_drewN | apply keep_drew | apply keep_alloc) | exact HK.out)) hk (.inl rfl)); have n1_ := Aside0.mk (hb); have n2_ := Aside0.mk (hi); clear HK; clear HB; clear HI0; have HK := n0_; have HB := n1_; have HI0 := n2_; clear n0_ n1_ n2_; (try clear hb); (try clear hb2); (try clear hk); (try clear hi)) | ((with_reducible refine gate_callee (f := 33) rfl ?_); refine goesL_ (some 12) rfl rfl Tryz.func33 (by kernel_rfl) rfl #[.pointer (some ⟨g, 0, none⟩), .int .i64 6] rfl za ?_; (with_reducible refine (spec_l1Rd_pick.calls k g s0_0 t501 6 t502 t503 w0 _ ?side1 ?side2 A4.out).mono ?_); (case side1 => repeat (first | (with_reducible first | exact HI0.out | apply IsS74.alloc | apply IsS74.drewN | apply IsS74.drew | apply IsS74.set_1) | exact HI0.out)); (case side2 => repeat (first | (with_reducible first | exact HB.out | apply below_alloc | apply pw_below_drewN | apply below_drew1 | refine below_set ?_ (IsS74.ge HI0.out)) | exact HB.out)); rintro e w47 ⟨rfl, hi, hb, hk⟩; refine ⟨_, rfl, ?_⟩; have n0_ := Aside0.mk (KeepBut.trans (by repeat (first | (with_reducible first | exact HK.out | apply KeepBut.set_ | apply keep_drewN | apply keep_drew | apply keep_alloc) | exact HK.out)) hk (.inl rfl)); have n1_ := Aside0.mk (hb); have n2_ := Aside0.mk (hi); clear HK; clear HB; clear HI0; have HK := n0_; have HB := n1_; have HI0 := n2_; clear n0_ n1_ n2_; (try clear hb); (try clear hb2); (try clear hk); (try clear hi)))
                  have n0_ := Aside0.mk (IsS74.drew HI0.out)
                  have n1_ := Aside0.mk (keep_drew HK.out)
                  have n2_ := Aside0.mk (below_drew1 HB.out)
                  clear HI0
                  clear HK
                  clear HB
                  have HI0 := n0_
                  have HK := n1_
                  have HB := n2_
                  clear n0_ n1_ n2_
                  refine start_ (n := 12) (S := fun w' => True) (ds := []) #[false, false, false, false, false, false, false, false, false, false, false, false] (by kernel_rfl) rfl rfl trivial (fun hHeld => ?_); refine with_tabW spec_l14Bent.tab11 spec_l14Bent.bits11 (fun HT_ HW_ => ?_)
                  generalize w47.drew = w48 at HI0 HK HB hHeld ⊢
                  refine pure_ (i := 0) (N := some 45) (v := ?_) (a' := ?_) #[true, false, false, false, false, false, false, false, false, false, false, false] rfl rfl (any_of HT_.out (by kernel_rfl)) (fun _ _ _ h => h) (Or.inl ⟨by rfl, ?_⟩) ?_ ?_
                  rotate_left
                  · intro w'
                    go_simp
                    with_reducible rfl
                  rotate_left
                  · simp only [Act.put, List.setIfInBounds_toArray, List.set_cons_zero, List.set_cons_succ, i64_w, i32_w]
                    rfl
                  refine pure_ (i := 1) (N := some 46) (v := ?_) (a' := ?_) #[true, true, false, false, false, false, false, false, false, false, false, false] rfl rfl (any_of HT_.out (by kernel_rfl)) (fun _ _ _ h => h) (Or.inl ⟨by rfl, ?_⟩) ?_ ?_
                  rotate_left
                  · intro w'
                    go_simp
                    with_reducible rfl
                  rotate_left
                  · simp only [Act.put, List.setIfInBounds_toArray, List.set_cons_zero, List.set_cons_succ, i64_w, i32_w]
                    rfl
                  refine pure_ (i := 2) (N := some 47) (v := ?_) (a' := ?_) #[true, true, true, false, false, false, false, false, false, false, false, false] rfl rfl (any_of HT_.out (by kernel_rfl)) (fun _ _ _ h => h) (Or.inl ⟨by rfl, ?_⟩) ?_ ?_
                  rotate_left
                  · intro w'
                    go_simp
                    with_reducible rfl
                  rotate_left
                  · simp only [Act.put, List.setIfInBounds_toArray, List.set_cons_zero, List.set_cons_succ, i64_w, i32_w]
                    rfl
                  refine pure_ (i := 3) (N := some 48) (v := ?_) (a' := ?_) #[true, true, true, true, false, false, false, false, false, false, false, false] rfl rfl (any_of HT_.out (by kernel_rfl)) (fun _ _ _ h => h) (Or.inl ⟨by rfl, ?_⟩) ?_ ?_
                  rotate_left
                  · intro w'
                    go_simp
                    with_reducible rfl
                  rotate_left
                  · simp only [Act.put, List.setIfInBounds_toArray, List.set_cons_zero, List.set_cons_succ, i64_w, i32_w]
                    rfl
                  refine pure_ (i := 7) (N := some 52) (v := ?_) (a' := ?_) #[true, true, true, true, false, false, false, true, false, false, false, false] rfl rfl (any_of HT_.out (by kernel_rfl)) (fun _ _ _ h => h) (Or.inl ⟨by rfl, ?_⟩) ?_ ?_
                  rotate_left
                  · intro w'
                    go_simp
                    with_reducible rfl
                  rotate_left
                  · simp only [Act.put, List.setIfInBounds_toArray, List.set_cons_zero, List.set_cons_succ, i64_w, i32_w]
                    rfl
                  refine pure_ (i := 8) (N := some 53) (v := ?_) (a' := ?_) #[true, true, true, true, false, false, false, true, true, false, false, false] rfl rfl (any_of HT_.out (by kernel_rfl)) (fun _ _ _ h => h) (Or.inl ⟨by rfl, ?_⟩) ?_ ?_
                  rotate_left
                  · intro w'
                    go_simp
                    with_reducible rfl
                  rotate_left
                  · simp only [Act.put, List.setIfInBounds_toArray, List.set_cons_zero, List.set_cons_succ, i64_w, i32_w]
                    rfl
                  refine pure_ (i := 9) (N := some 54) (v := ?_) (a' := ?_) #[true, true, true, true, false, false, false, true, true, true, false, false] rfl rfl (any_of HT_.out (by kernel_rfl)) (fun _ _ _ h => h) (Or.inl ⟨by rfl, ?_⟩) ?_ ?_
                  rotate_left
                  · intro w'
                    go_simp
                    with_reducible rfl
                  rotate_left
                  · simp only [Act.put, List.setIfInBounds_toArray, List.set_cons_zero, List.set_cons_succ, i64_w, i32_w]
                    rfl
                  refine one_ (i := 4) (N := some 49) #[true, true, true, true, true, false, false, true, true, true, false, false] rfl rfl (one_of HT_.out (by kernel_rfl)) (by decide) (fun K hK => ?_)
                  refine Kd.R_lit_step Kd.string _ 9 ?hg (N := 49) ?hd (xs := ([(⟨#[48]⟩ : ByteArray), (⟨#[45]⟩ : ByteArray), (⟨#[46]⟩ : ByteArray), (⟨#[32]⟩ : ByteArray), (⟨#[40]⟩ : ByteArray), (⟨#[49]⟩ : ByteArray)] : List ByteArray)) (inner := [.string (⟨#[48]⟩ : ByteArray), .string (⟨#[45]⟩ : ByteArray), .string (⟨#[46]⟩ : ByteArray), .string (⟨#[32]⟩ : ByteArray), .string (⟨#[40]⟩ : ByteArray), .string (⟨#[49]⟩ : ByteArray)]) (ok := fun _ => True) (okp := fun _ => True) ?hr ?hp (fun _ hk => hk) trivial (Below.refl _ _) (Nat.le_refl _) (by simp) ?_; (case hd => rfl); (case hg => rfl); (case hr => first | (go_simp; done) | (go_simp; rfl)); (case hp => exact (Reps.one (show Kd.M Kd.string _ _ _ (⟨#[48]⟩ : ByteArray) [.string (⟨#[48]⟩ : ByteArray)] from rfl) (Reps.one (show Kd.M Kd.string _ _ _ (⟨#[45]⟩ : ByteArray) [.string (⟨#[45]⟩ : ByteArray)] from rfl) (Reps.one (show Kd.M Kd.string _ _ _ (⟨#[46]⟩ : ByteArray) [.string (⟨#[46]⟩ : ByteArray)] from rfl) (Reps.one (show Kd.M Kd.string _ _ _ (⟨#[32]⟩ : ByteArray) [.string (⟨#[32]⟩ : ByteArray)] from rfl) (Reps.one (show Kd.M Kd.string _ _ _ (⟨#[40]⟩ : ByteArray) [.string (⟨#[40]⟩ : ByteArray)] from rfl) (Reps.one (show Kd.M Kd.string _ _ _ (⟨#[49]⟩ : ByteArray) [.string (⟨#[49]⟩ : ByteArray)] from rfl) (Reps.none _ _))))))))
                  intro v515 w49 ho50 hb hg_ hnew_
                  clear hg_ hnew_
                  (first | rw [← Ny514.out] at ho50 | (simp only [Int.reduceToNat] at ho50; rw [← Ny514.out] at ho50))
                  have n0_ := Aside0.mk (Kd.R_lower ho50 (keep_size (w := w) (g := g) (row := none) (by repeat (first | (with_reducible first | exact HK.out | apply KeepBut.set_ | apply keep_drewN | apply keep_drew | apply keep_alloc) | exact HK.out))))
                  have n1_ := Aside0.mk (IsS74.below (by repeat (first | (with_reducible first | exact HI0.out | apply IsS74.alloc | apply IsS74.drewN | apply IsS74.drew | apply IsS74.set_1) | exact HI0.out)) hb)
                  have n2_ := Aside0.mk (KeepBut.trans (by repeat (first | (with_reducible first | exact HK.out | apply KeepBut.set_ | apply keep_drewN | apply keep_drew | apply keep_alloc) | exact HK.out)) (KeepBut.of_below hb g none) (.inl rfl))
                  have n3_ := Aside0.mk (below_step (by repeat (first | (with_reducible first | exact HB.out | apply below_alloc | apply pw_below_drewN | apply below_drew1 | refine below_set ?_ (IsS74.ge HI0.out)) | exact HB.out)) hb)
                  clear HI0
                  clear HK
                  clear HB
                  have HO516 := n0_
                  have HI0 := n1_
                  have HK := n2_
                  have HB := n3_
                  clear n0_ n1_ n2_ n3_
                  clear hb ho50
                  obtain ⟨Ao51, co51, eo51⟩ := Kd.R_slice HO516.out
                  (first | subst eo51 | (injection eo51 with f1_ f2_ f3_; have f4_ := f1_.symm; have f5_ := f3_.symm; clear f1_ f2_ f3_; subst f4_; subst f5_))
                  refine hK.out _ _ trivial (fun hHeld => ?_)
                  clear hK K
                  refine norm_ (a' := ?_) ?_ ?_
                  rotate_left
                  · show Act.put _ (some 49) _ = _
                    simp only [Act.put, List.setIfInBounds_toArray, List.set_cons_zero, List.set_cons_succ, i64_w, i32_w]
                    rfl
                  refine one_ (i := 5) (N := some 50) #[true, true, true, true, true, true, false, true, true, true, false, false] rfl rfl (one_of HT_.out (by kernel_rfl)) (by decide) (fun K hK => ?_)
                  refine goes_ Tryz.func34 (by kernel_rfl) rfl #[.pointer (some ⟨g, 0, none⟩), .slice Ao51 y514.length co51] (by rfl) rfl rfl za ?_
                  with_reducible refine (spec_l1Rd_of.calls k g s0_0 t503 _ _ y514 t517 t518 w0 _ ?side1 ?side2 ?side3 ?side4 ?side5 A41.out).mono ?_
                  (case side1 => repeat (first | (with_reducible first | exact HI0.out | apply IsS74.alloc | apply IsS74.drewN | apply IsS74.drew | apply IsS74.set_1) | exact HI0.out))
                  (case side2 => repeat (first | (with_reducible first | exact HB.out | apply below_alloc | apply pw_below_drewN | apply below_drew1 | refine below_set ?_ (IsS74.ge HI0.out)) | exact HB.out))
                  (case side3 => repeat (first | exact (Kd.R_reads' HO516.out).2.2 | (with_reducible refine Kd.C_alloc ?_ _) | (with_reducible refine Kd.C_drewN ?_ _) | (with_reducible refine Kd.C_drew ?_)))
                  (case side4 => exact (Kd.R_reads' HO516.out).2.1)
                  (case side5 => exact far_slice (IsS74.own_ne HI0.out HO516.out (by decide)))
                  rintro e w52 ⟨rfl, hi, hb, hk⟩
                  refine ⟨_, rfl, ?_⟩
                  have n0_ := Aside0.mk (Kd.R_mono (Kd.R_keep (IsS74.apart (show IsS74 w0 _ g s0_0 t503 from by repeat (first | (with_reducible first | exact HI0.out | apply IsS74.alloc | apply IsS74.drewN | apply IsS74.drew | apply IsS74.set_1) | exact HI0.out)) (zR HO516.out) (by decide)) hk (fun _ h => h.2)) (fun _ h => h.1))
                  have n1_ := Aside0.mk (KeepBut.trans (by repeat (first | (with_reducible first | exact HK.out | apply KeepBut.set_ | apply keep_drewN | apply keep_drew | apply keep_alloc) | exact HK.out)) hk (.inl rfl))
                  have n2_ := Aside0.mk (hb)
                  have n3_ := Aside0.mk (hi)
                  clear HO516
                  clear HK
                  clear HB
                  clear HI0
                  have HO516 := n0_
                  have HK := n1_
                  have HB := n2_
                  have HI0 := n3_
                  clear n0_ n1_ n2_ n3_
                  (try clear hb)
                  (try clear hb2)
                  (try clear hk)
                  (try clear hi)
                  refine hK.out _ _ trivial (fun hHeld => ?_)
                  clear hK K
                  refine norm_ (a' := ?_) ?_ ?_
                  rotate_left
                  · show Act.put _ (some 50) _ = _
                    simp only [Act.put, List.setIfInBounds_toArray, List.set_cons_zero, List.set_cons_succ, i64_w, i32_w]
                    rfl
                  refine pure_ (i := 6) (N := some 51) (v := ?_) (a' := ?_) #[true, true, true, true, true, true, true, true, true, true, false, false] rfl rfl (any_of HT_.out (by kernel_rfl)) (fun _ _ _ h => h) (Or.inl ⟨by rfl, ?_⟩) ?_ ?_
                  rotate_left
                  · intro w'
                    go_simp
                    with_reducible rfl
                  rotate_left
                  · simp only [Act.put, List.setIfInBounds_toArray, List.set_cons_zero, List.set_cons_succ, i64_w, i32_w]
                    rfl
                  refine pure_ (i := 10) (N := some 55) (v := ?_) (a' := ?_) #[true, true, true, true, true, true, true, true, true, true, true, false] rfl rfl (any_of HT_.out (by kernel_rfl)) (fun _ _ _ h => h) (Or.inl ⟨by rfl, ?_⟩) ?_ ?_
                  rotate_left
                  · intro w'
                    go_simp
                    with_reducible rfl
                  rotate_left
                  · simp only [Act.put, List.setIfInBounds_toArray, List.set_cons_zero, List.set_cons_succ, i64_w, i32_w]
                    rfl
                  refine pure_ (i := 11) (N := some 4) (v := ?_) (a' := ?_) #[true, true, true, true, true, true, true, true, true, true, true, true] rfl rfl (any_of HT_.out (by kernel_rfl)) (fun _ _ _ h => h) (Or.inl ⟨by rfl, ?_⟩) ?_ ?_
                  rotate_left
                  · intro w'
                    go_simp
                    with_reducible rfl
                  rotate_left
                  · simp only [Act.put, List.setIfInBounds_toArray, List.set_cons_zero, List.set_cons_succ, i64_w, i32_w]
                    rfl
                  refine done_ (done_of HT_.out (by kernel_rfl)) ?_
                  try go_wp2
                  go_ret
                  exact ⟨by first | rfl | (simp [errW_none, errW_some] <;> rfl) | (simp [*, errW_none, errW_some] <;> rfl), by repeat (first | (with_reducible first | exact HI0.out | apply IsS74.alloc | apply IsS74.drewN | apply IsS74.drew | apply IsS74.set_1) | exact HI0.out), by repeat (first | (with_reducible first | exact HB.out | apply below_alloc | apply pw_below_drewN | apply below_drew1 | refine below_set ?_ (IsS74.ge HI0.out)) | exact HB.out), by repeat (first | (with_reducible first | exact HK.out | apply KeepBut.set_ | apply keep_drewN | apply keep_drew | apply keep_alloc) | exact HK.out)⟩
                · rw [if_neg c45] at H
                  exact absurd H (by simp)
              · rw [if_neg c42] at H
                exact absurd H (by simp)
            · rw [if_neg c40] at H
              exact absurd H (by simp)
          · rw [if_neg c39] at H
            exact absurd H (by simp)
        · rw [if_neg c38] at H
          have c38b0 : (t502 == 3) = false := beq_eq_false_iff_ne.mpr c38
          have c38b1 : (t502 != 3) = true := bne_iff_ne.mpr c38
          simp only [Option.some.injEq, Prod.mk.injEq] at H
          obtain ⟨rfl, rfl⟩ := H
          go_enter Tryz.func36, Tryz.ntmps36
          go_wp2_with (first | ((with_reducible refine gate_callee (f := 33) rfl ?_); refine goesL_ (some 10) rfl rfl Tryz.func33 (by kernel_rfl) rfl #[.pointer (some ⟨g, 0, none⟩), .int .i64 (wrap64 ((a1.size : Int) + 1))] rfl za ?_; (with_reducible refine (spec_l1Rd_pick.calls k g s0_0 s0_1 (wrap64 ((a1.size : Int) + 1)) t500 t501 w0 _ ?side1 ?side2 A3.out).mono ?_); (case side1 => repeat (first | (with_reducible first | exact HI0.out | apply IsS74.alloc | apply IsS74.drewN | apply IsS74.drew | apply IsS74.set_1) | exact HI0.out)); (case side2 => repeat (first | (with_reducible first | exact HB.out | apply below_alloc | apply pw_below_drewN | apply below_drew1 | refine below_set ?_ (IsS74.ge HI0.out)) | exact HB.out)); rintro e w53 ⟨rfl, hi, hb, hk⟩; refine ⟨_, rfl, ?_⟩; have n0_ := Aside0.mk (KeepBut.trans (by repeat (first | (with_reducible first | exact HK.out | apply KeepBut.set_ | apply keep_drewN | apply keep_drew | apply keep_alloc) | exact HK.out)) hk (.inl rfl)); have n1_ := Aside0.mk (hb); have n2_ := Aside0.mk (hi); clear HK; clear HB; clear HI0; have HK := n0_; have HB := n1_; have HI0 := n2_; clear n0_ n1_ n2_; (try clear hb); (try clear hb2); (try clear hk); (try clear hi)) | ((with_reducible refine gate_callee (f := 33) rfl ?_); refine goesL_ (some 12) rfl rfl Tryz.func33 (by kernel_rfl) rfl #[.pointer (some ⟨g, 0, none⟩), .int .i64 6] rfl za ?_; (with_reducible refine (spec_l1Rd_pick.calls k g s0_0 t501 6 t502 t503 w0 _ ?side1 ?side2 A4.out).mono ?_); (case side1 => repeat (first | (with_reducible first | exact HI0.out | apply IsS74.alloc | apply IsS74.drewN | apply IsS74.drew | apply IsS74.set_1) | exact HI0.out)); (case side2 => repeat (first | (with_reducible first | exact HB.out | apply below_alloc | apply pw_below_drewN | apply below_drew1 | refine below_set ?_ (IsS74.ge HI0.out)) | exact HB.out)); rintro e w54 ⟨rfl, hi, hb, hk⟩; refine ⟨_, rfl, ?_⟩; have n0_ := Aside0.mk (KeepBut.trans (by repeat (first | (with_reducible first | exact HK.out | apply KeepBut.set_ | apply keep_drewN | apply keep_drew | apply keep_alloc) | exact HK.out)) hk (.inl rfl)); have n1_ := Aside0.mk (hb); have n2_ := Aside0.mk (hi); clear HK; clear HB; clear HI0; have HK := n0_; have HB := n1_; have HI0 := n2_; clear n0_ n1_ n2_; (try clear hb); (try clear hb2); (try clear hk); (try clear hi)))
          go_ret
          exact ⟨by first | rfl | (simp [errW_none, errW_some] <;> rfl) | (simp [*, errW_none, errW_some] <;> rfl), by repeat (first | (with_reducible first | exact HI0.out | apply IsS74.alloc | apply IsS74.drewN | apply IsS74.drew | apply IsS74.set_1) | exact HI0.out), by repeat (first | (with_reducible first | exact HB.out | apply below_alloc | apply pw_below_drewN | apply below_drew1 | refine below_set ?_ (IsS74.ge HI0.out)) | exact HB.out), by repeat (first | (with_reducible first | exact HK.out | apply KeepBut.set_ | apply keep_drewN | apply keep_drew | apply keep_alloc) | exact HK.out)⟩
def spec_DrawDecGet.f (k : Nat) (l0 : List Int) : Option (ByteArray) := (spec_l1Open.f l0).bind fun bt519 => ((spec_l1Rd_pick.f k bt519.1 bt519.2 12).bind fun bt522 => (if bt522.1 = 0 then ((spec_l1Many.f k (⟨#[57]⟩ : ByteArray) 31).bind fun t524 => ((spec_l1Many.f k (⟨#[48]⟩ : ByteArray) 13).bind fun t525 => (if 2 + t525.size ≤ 9223372036854775807 then ((spec_l1Rd_of.f k bt519.1 bt522.2 (([(⟨#[]⟩ : ByteArray), (⟨#[45]⟩ : ByteArray), (⟨#[46]⟩ : ByteArray), (⟨#[49, 46]⟩ : ByteArray), (⟨#[46, 53]⟩ : ByteArray), (⟨#[45, 48, 46, 48, 48]⟩ : ByteArray), (⟨#[48, 46, 48, 48]⟩ : ByteArray), (⟨#[48, 48, 46, 49]⟩ : ByteArray), t524, (⟨#[49, 46]⟩ : ByteArray) ++ t525] : List ByteArray))).bind fun bt529 => (some bt529.1)) else (none)))) else ((spec_l14Dec.f k bt519.1 bt522.2).bind fun bt531 => ((spec_l2Put.f k bt531.1 bt531.2.1 bt531.2.2.1).bind fun t537 => ((spec_l14Bent.f k bt519.1 bt531.2.2.2 t537).bind fun bt538 => (some bt538.1))))))
set_option maxHeartbeats 8000000 in
set_option maxRecDepth 100000 in
theorem spec_DrawDecGet.calls (k : Nat) (A0 : Option Addr) (c0 : Nat) (l0 : List Int) (r : ByteArray) (w : World) (hr0 : Kd.C (Kd.int .u8) w A0 l0.length l0) (hc0 : l0.length ≤ c0) (h : spec_DrawDecGet.f k l0 = some r) :
    Calls Tryz.prog 15 #[.slice A0 l0.length c0] w fun e w' => e = .returned (.string r) ∧ Below w.heap.size w w' := by
  have HR0 := Aside0.mk hr0
  have HC0 := Aside0.mk hc0
  clear hr0 hc0
  have HB := Aside0.mk (Below.refl w.heap.size w)
  have H : ((spec_l1Open.f l0).bind fun bt519 => ((spec_l1Rd_pick.f k bt519.1 bt519.2 12).bind fun bt522 => (if bt522.1 = 0 then ((spec_l1Many.f k (⟨#[57]⟩ : ByteArray) 31).bind fun t524 => ((spec_l1Many.f k (⟨#[48]⟩ : ByteArray) 13).bind fun t525 => (if 2 + t525.size ≤ 9223372036854775807 then ((spec_l1Rd_of.f k bt519.1 bt522.2 (([(⟨#[]⟩ : ByteArray), (⟨#[45]⟩ : ByteArray), (⟨#[46]⟩ : ByteArray), (⟨#[49, 46]⟩ : ByteArray), (⟨#[46, 53]⟩ : ByteArray), (⟨#[45, 48, 46, 48, 48]⟩ : ByteArray), (⟨#[48, 46, 48, 48]⟩ : ByteArray), (⟨#[48, 48, 46, 49]⟩ : ByteArray), t524, (⟨#[49, 46]⟩ : ByteArray) ++ t525] : List ByteArray))).bind fun bt529 => (some bt529.1)) else (none)))) else ((spec_l14Dec.f k bt519.1 bt522.2).bind fun bt531 => ((spec_l2Put.f k bt531.1 bt531.2.1 bt531.2.2.1).bind fun t537 => ((spec_l14Bent.f k bt519.1 bt531.2.2.2 t537).bind fun bt538 => (some bt538.1))))))) = some r := h
  clear h
  replace H := Option.bind_eq_some_iff.mp H
  obtain ⟨⟨t519, t520⟩, A20, H⟩ := H
  replace H : ((spec_l1Rd_pick.f k t519 t520 12).bind fun bt522 => (if bt522.1 = 0 then ((spec_l1Many.f k (⟨#[57]⟩ : ByteArray) 31).bind fun t524 => ((spec_l1Many.f k (⟨#[48]⟩ : ByteArray) 13).bind fun t525 => (if 2 + t525.size ≤ 9223372036854775807 then ((spec_l1Rd_of.f k t519 bt522.2 (([(⟨#[]⟩ : ByteArray), (⟨#[45]⟩ : ByteArray), (⟨#[46]⟩ : ByteArray), (⟨#[49, 46]⟩ : ByteArray), (⟨#[46, 53]⟩ : ByteArray), (⟨#[45, 48, 46, 48, 48]⟩ : ByteArray), (⟨#[48, 46, 48, 48]⟩ : ByteArray), (⟨#[48, 48, 46, 49]⟩ : ByteArray), t524, (⟨#[49, 46]⟩ : ByteArray) ++ t525] : List ByteArray))).bind fun bt529 => (some bt529.1)) else (none)))) else ((spec_l14Dec.f k t519 bt522.2).bind fun bt531 => ((spec_l2Put.f k bt531.1 bt531.2.1 bt531.2.2.1).bind fun t537 => ((spec_l14Bent.f k t519 bt531.2.2.2 t537).bind fun bt538 => (some bt538.1)))))) = some r := H
  have A2 := Aside0.mk A20
  clear A20
  replace H := Option.bind_eq_some_iff.mp H
  obtain ⟨⟨t522, t523⟩, A30, H⟩ := H
  replace H : (if t522 = 0 then ((spec_l1Many.f k (⟨#[57]⟩ : ByteArray) 31).bind fun t524 => ((spec_l1Many.f k (⟨#[48]⟩ : ByteArray) 13).bind fun t525 => (if 2 + t525.size ≤ 9223372036854775807 then ((spec_l1Rd_of.f k t519 t523 (([(⟨#[]⟩ : ByteArray), (⟨#[45]⟩ : ByteArray), (⟨#[46]⟩ : ByteArray), (⟨#[49, 46]⟩ : ByteArray), (⟨#[46, 53]⟩ : ByteArray), (⟨#[45, 48, 46, 48, 48]⟩ : ByteArray), (⟨#[48, 46, 48, 48]⟩ : ByteArray), (⟨#[48, 48, 46, 49]⟩ : ByteArray), t524, (⟨#[49, 46]⟩ : ByteArray) ++ t525] : List ByteArray))).bind fun bt529 => (some bt529.1)) else (none)))) else ((spec_l14Dec.f k t519 t523).bind fun bt531 => ((spec_l2Put.f k bt531.1 bt531.2.1 bt531.2.2.1).bind fun t537 => ((spec_l14Bent.f k t519 bt531.2.2.2 t537).bind fun bt538 => (some bt538.1))))) = some r := H
  have A3 := Aside0.mk A30
  clear A30
  by_cases c4 : t522 = 0
  · rw [if_pos c4] at H
    have c4b0 : (t522 == 0) = true := beq_iff_eq.mpr c4
    have c4b1 : (t522 != 0) = false := bne_eq_false_iff_eq.mpr c4
    clear c4
    replace H := Option.bind_eq_some_iff.mp H
    obtain ⟨t524, A50, H⟩ := H
    replace H : ((spec_l1Many.f k (⟨#[48]⟩ : ByteArray) 13).bind fun t525 => (if 2 + t525.size ≤ 9223372036854775807 then ((spec_l1Rd_of.f k t519 t523 (([(⟨#[]⟩ : ByteArray), (⟨#[45]⟩ : ByteArray), (⟨#[46]⟩ : ByteArray), (⟨#[49, 46]⟩ : ByteArray), (⟨#[46, 53]⟩ : ByteArray), (⟨#[45, 48, 46, 48, 48]⟩ : ByteArray), (⟨#[48, 46, 48, 48]⟩ : ByteArray), (⟨#[48, 48, 46, 49]⟩ : ByteArray), t524, (⟨#[49, 46]⟩ : ByteArray) ++ t525] : List ByteArray))).bind fun bt529 => (some bt529.1)) else (none))) = some r := H
    have A5 := Aside0.mk A50
    clear A50
    replace H := Option.bind_eq_some_iff.mp H
    obtain ⟨t525, A60, H⟩ := H
    replace H : (if 2 + t525.size ≤ 9223372036854775807 then ((spec_l1Rd_of.f k t519 t523 (([(⟨#[]⟩ : ByteArray), (⟨#[45]⟩ : ByteArray), (⟨#[46]⟩ : ByteArray), (⟨#[49, 46]⟩ : ByteArray), (⟨#[46, 53]⟩ : ByteArray), (⟨#[45, 48, 46, 48, 48]⟩ : ByteArray), (⟨#[48, 46, 48, 48]⟩ : ByteArray), (⟨#[48, 48, 46, 49]⟩ : ByteArray), t524, (⟨#[49, 46]⟩ : ByteArray) ++ t525] : List ByteArray))).bind fun bt529 => (some bt529.1)) else (none)) = some r := H
    have A6 := Aside0.mk A60
    clear A60
    by_cases c7 : 2 + t525.size ≤ 9223372036854775807
    · rw [if_pos c7] at H
      have c7b0 := eq_true c7
      have c7b1 : decide (2 + t525.size ≤ 9223372036854775807) = true := decide_eq_true c7
      try have c7b2 : (9223372036854775807 < 2 + t525.size) = False := eq_false (Nat.not_lt.2 c7)
      obtain ⟨y526, hy526⟩ : ∃ y_ : List ByteArray, y_ = (([(⟨#[]⟩ : ByteArray), (⟨#[45]⟩ : ByteArray), (⟨#[46]⟩ : ByteArray), (⟨#[49, 46]⟩ : ByteArray), (⟨#[46, 53]⟩ : ByteArray), (⟨#[45, 48, 46, 48, 48]⟩ : ByteArray), (⟨#[48, 46, 48, 48]⟩ : ByteArray), (⟨#[48, 48, 46, 49]⟩ : ByteArray), t524, (⟨#[49, 46]⟩ : ByteArray) ++ t525] : List ByteArray)) := ⟨_, rfl⟩
      replace H : ((spec_l1Rd_of.f k t519 t523 y526).bind fun bt529 => (some bt529.1)) = some r := by first | (rw [hy526]; with_reducible exact H) | (have H2_ := (Option.bind_some _ _).symm.trans H; rw [hy526]; with_reducible exact H2_) | (have H2_ := (Option.bind_some _ _).symm.trans H; with_reducible exact H2_) | with_reducible exact H | (rw [hy526]; exact H) | exact H
      have Ny526 := Aside0.mk hy526
      clear hy526
      replace H := Option.bind_eq_some_iff.mp H
      obtain ⟨⟨t529, t530⟩, A80, H⟩ := H
      replace H : (some t529) = some r := H
      have A8 := Aside0.mk A80
      clear A80
      obtain rfl := Option.some.inj H
      go_enter Tryz.func15, Tryz.ntmps15
      go_wp2_with (first | ((with_reducible refine gate_callee (f := 27) rfl ?_); refine goesL_ (some 5) rfl rfl Tryz.func27 (by kernel_rfl) rfl #[.slice A0 l0.length c0] rfl za ?_; (with_reducible refine (spec_l1Open.calls _ _ l0 t519 t520 w _ ?side1 ?side2 ?side3 A2.out).mono ?_); (case side1 => repeat (first | (with_reducible first | exact HB.out | apply below_alloc | apply pw_below_drewN | apply below_drew1) | exact HB.out)); (case side2 => exact HR0.out); (case side3 => exact HC0.out); rintro e w9 ⟨g521, rfl, hi, hb, hb2⟩; refine ⟨_, rfl, ?_⟩; have n0_ := Aside0.mk (hb); have n1_ := Aside0.mk (hi); clear HB; have HB := n0_; have HI521 := n1_; clear n0_ n1_; (try clear hb); (try clear hb2); (try clear hk); (try clear hi)) | ((with_reducible refine gate_callee (f := 33) rfl ?_); refine goesL_ (some 7) rfl rfl Tryz.func33 (by kernel_rfl) rfl #[.pointer (some ⟨g521, 0, none⟩), .int .i64 12] rfl za ?_; (with_reducible refine (spec_l1Rd_pick.calls k g521 t519 t520 12 t522 t523 w _ ?side1 ?side2 A3.out).mono ?_); (case side1 => repeat (first | (with_reducible first | exact HI521.out | apply IsS74.alloc | apply IsS74.drewN | apply IsS74.drew | apply IsS74.set_1) | exact HI521.out)); (case side2 => repeat (first | (with_reducible first | exact HB.out | apply below_alloc | apply pw_below_drewN | apply below_drew1 | refine below_set ?_ (IsS74.ge HI521.out)) | exact HB.out)); rintro e w10 ⟨rfl, hi, hb, hk⟩; refine ⟨_, rfl, ?_⟩; have n0_ := Aside0.mk (hb); have n1_ := Aside0.mk (hi); clear HB; clear HI521; have HB := n0_; have HI521 := n1_; clear n0_ n1_; (try clear hb); (try clear hb2); (try clear hk); (try clear hi)) | ((with_reducible refine gate_callee (f := 35) rfl ?_); refine goesL_ (some 10) rfl rfl Tryz.func35 (by kernel_rfl) rfl #[.string (⟨#[57]⟩ : ByteArray), .int .i64 31] rfl za ?_; (with_reducible refine (spec_l1Many.calls k (⟨#[57]⟩ : ByteArray) 31 t524 _ A5.out).mono ?_); rintro e w' ⟨rfl, ⟨nd, rfl⟩⟩; refine ⟨_, rfl, ?_⟩) | ((with_reducible refine gate_callee (f := 35) rfl ?_); refine goesL_ (some 11) rfl rfl Tryz.func35 (by kernel_rfl) rfl #[.string (⟨#[48]⟩ : ByteArray), .int .i64 13] rfl za ?_; (with_reducible refine (spec_l1Many.calls k (⟨#[48]⟩ : ByteArray) 13 t525 _ A6.out).mono ?_); rintro e w' ⟨rfl, ⟨nd, rfl⟩⟩; refine ⟨_, rfl, ?_⟩) | ((with_reducible refine gate_dst (N := 13) rfl ?_); refine Kd.R_lit Kd.string _ 9 ?hg (N := 13) ?hd (xs := ([(⟨#[]⟩ : ByteArray), (⟨#[45]⟩ : ByteArray), (⟨#[46]⟩ : ByteArray), (⟨#[49, 46]⟩ : ByteArray), (⟨#[46, 53]⟩ : ByteArray), (⟨#[45, 48, 46, 48, 48]⟩ : ByteArray), (⟨#[48, 46, 48, 48]⟩ : ByteArray), (⟨#[48, 48, 46, 49]⟩ : ByteArray), t524, (⟨#[49, 46]⟩ : ByteArray) ++ t525] : List ByteArray)) (inner := [.string (⟨#[]⟩ : ByteArray), .string (⟨#[45]⟩ : ByteArray), .string (⟨#[46]⟩ : ByteArray), .string (⟨#[49, 46]⟩ : ByteArray), .string (⟨#[46, 53]⟩ : ByteArray), .string (⟨#[45, 48, 46, 48, 48]⟩ : ByteArray), .string (⟨#[48, 46, 48, 48]⟩ : ByteArray), .string (⟨#[48, 48, 46, 49]⟩ : ByteArray), .string t524, .string ((⟨#[49, 46]⟩ : ByteArray) ++ t525)]) (ok := fun _ => True) (okp := fun _ => True) ?hr ?hp (fun _ hk => hk) trivial (Below.refl _ _) (Nat.le_refl _) (by simp) ?_; (case hd => rfl); (case hg => rfl); (case hr => first | (go_simp; done) | (go_simp; rfl)); (case hp => exact (Reps.one (show Kd.M Kd.string _ _ _ (⟨#[]⟩ : ByteArray) [.string (⟨#[]⟩ : ByteArray)] from rfl) (Reps.one (show Kd.M Kd.string _ _ _ (⟨#[45]⟩ : ByteArray) [.string (⟨#[45]⟩ : ByteArray)] from rfl) (Reps.one (show Kd.M Kd.string _ _ _ (⟨#[46]⟩ : ByteArray) [.string (⟨#[46]⟩ : ByteArray)] from rfl) (Reps.one (show Kd.M Kd.string _ _ _ (⟨#[49, 46]⟩ : ByteArray) [.string (⟨#[49, 46]⟩ : ByteArray)] from rfl) (Reps.one (show Kd.M Kd.string _ _ _ (⟨#[46, 53]⟩ : ByteArray) [.string (⟨#[46, 53]⟩ : ByteArray)] from rfl) (Reps.one (show Kd.M Kd.string _ _ _ (⟨#[45, 48, 46, 48, 48]⟩ : ByteArray) [.string (⟨#[45, 48, 46, 48, 48]⟩ : ByteArray)] from rfl) (Reps.one (show Kd.M Kd.string _ _ _ (⟨#[48, 46, 48, 48]⟩ : ByteArray) [.string (⟨#[48, 46, 48, 48]⟩ : ByteArray)] from rfl) (Reps.one (show Kd.M Kd.string _ _ _ (⟨#[48, 48, 46, 49]⟩ : ByteArray) [.string (⟨#[48, 48, 46, 49]⟩ : ByteArray)] from rfl) (Reps.one (show Kd.M Kd.string _ _ _ t524 [.string t524] from rfl) (Reps.one (show Kd.M Kd.string _ _ _ ((⟨#[49, 46]⟩ : ByteArray) ++ t525) [.string ((⟨#[49, 46]⟩ : ByteArray) ++ t525)] from rfl) (Reps.none _ _)))))))))))); intro v527 w11 ho12 hb hg_ hnew_; clear hg_ hnew_; (first | rw [← Ny526.out] at ho12 | (simp only [Int.reduceToNat] at ho12; rw [← Ny526.out] at ho12)); have n0_ := Aside0.mk (Kd.R_lower ho12 (below_size (by repeat (first | (with_reducible first | exact HB.out | apply below_alloc | apply pw_below_drewN | apply below_drew1 | refine below_set ?_ (IsS74.ge HI521.out)) | exact HB.out)))); have n1_ := Aside0.mk (IsS74.below (by repeat (first | (with_reducible first | exact HI521.out | apply IsS74.alloc | apply IsS74.drewN | apply IsS74.drew | apply IsS74.set_1) | exact HI521.out)) hb); have n2_ := Aside0.mk (below_step (by repeat (first | (with_reducible first | exact HB.out | apply below_alloc | apply pw_below_drewN | apply below_drew1 | refine below_set ?_ (IsS74.ge HI521.out)) | exact HB.out)) hb); clear HI521; clear HB; have HO528 := n0_; have HI521 := n1_; have HB := n2_; clear n0_ n1_ n2_; clear hb ho12; obtain ⟨Ao13, co13, eo13⟩ := Kd.R_slice HO528.out; subst eo13) | ((with_reducible refine gate_callee (f := 34) rfl ?_); refine goesL_ (some 14) rfl rfl Tryz.func34 (by kernel_rfl) rfl #[.pointer (some ⟨g521, 0, none⟩), .slice Ao13 y526.length co13] rfl za ?_; (with_reducible refine (spec_l1Rd_of.calls k g521 t519 t523 _ _ y526 t529 t530 w _ ?side1 ?side2 ?side3 ?side4 ?side5 A8.out).mono ?_); (case side1 => repeat (first | (with_reducible first | exact HI521.out | apply IsS74.alloc | apply IsS74.drewN | apply IsS74.drew | apply IsS74.set_1) | exact HI521.out)); (case side2 => repeat (first | (with_reducible first | exact HB.out | apply below_alloc | apply pw_below_drewN | apply below_drew1 | refine below_set ?_ (IsS74.ge HI521.out)) | exact HB.out)); (case side3 => repeat (first | exact (Kd.R_reads' HO528.out).2.2 | (with_reducible refine Kd.C_alloc ?_ _) | (with_reducible refine Kd.C_drewN ?_ _) | (with_reducible refine Kd.C_drew ?_))); (case side4 => exact (Kd.R_reads' HO528.out).2.1); (case side5 => exact far_slice (IsS74.own_ne HI521.out HO528.out (by decide))); rintro e w14 ⟨rfl, hi, hb, hk⟩; refine ⟨_, rfl, ?_⟩; have n0_ := Aside0.mk (Kd.R_mono (Kd.R_keep (IsS74.apart (show IsS74 w _ g521 t519 t523 from by repeat (first | (with_reducible first | exact HI521.out | apply IsS74.alloc | apply IsS74.drewN | apply IsS74.drew | apply IsS74.set_1) | exact HI521.out)) (zR HO528.out) (by decide)) hk (fun _ h => h.2)) (fun _ h => h.1)); have n1_ := Aside0.mk (hb); have n2_ := Aside0.mk (hi); clear HO528; clear HB; clear HI521; have HO528 := n0_; have HB := n1_; have HI521 := n2_; clear n0_ n1_ n2_; (try clear hb); (try clear hb2); (try clear hk); (try clear hi)))
      go_ret
      exact ⟨by first | rfl | (simp [errW_none, errW_some] <;> rfl) | (simp [*, errW_none, errW_some] <;> rfl), by repeat (first | (with_reducible first | exact HB.out | apply below_alloc | apply pw_below_drewN | apply below_drew1 | refine below_set ?_ (IsS74.ge HI521.out)) | exact HB.out)⟩
    · rw [if_neg c7] at H
      exact absurd H (by simp)
  · rw [if_neg c4] at H
    have c4b0 : (t522 == 0) = false := beq_eq_false_iff_ne.mpr c4
    have c4b1 : (t522 != 0) = true := bne_iff_ne.mpr c4
    replace H := Option.bind_eq_some_iff.mp H
    obtain ⟨⟨t531, t532, t535, t536⟩, A150, H⟩ := H
    replace H : ((spec_l2Put.f k t531 t532 t535).bind fun t537 => ((spec_l14Bent.f k t519 t536 t537).bind fun bt538 => (some bt538.1))) = some r := H
    have A15 := Aside0.mk A150
    clear A150
    replace H := Option.bind_eq_some_iff.mp H
    obtain ⟨t537, A160, H⟩ := H
    replace H : ((spec_l14Bent.f k t519 t536 t537).bind fun bt538 => (some bt538.1)) = some r := H
    have A16 := Aside0.mk A160
    clear A160
    replace H := Option.bind_eq_some_iff.mp H
    obtain ⟨⟨t538, t539⟩, A170, H⟩ := H
    replace H : (some t538) = some r := H
    have A17 := Aside0.mk A170
    clear A170
    obtain rfl := Option.some.inj H
    go_enter Tryz.func15, Tryz.ntmps15
    go_wp2_with (first | ((with_reducible refine gate_callee (f := 27) rfl ?_); refine goesL_ (some 5) rfl rfl Tryz.func27 (by kernel_rfl) rfl #[.slice A0 l0.length c0] rfl za ?_; (with_reducible refine (spec_l1Open.calls _ _ l0 t519 t520 w _ ?side1 ?side2 ?side3 A2.out).mono ?_); (case side1 => repeat (first | (with_reducible first | exact HB.out | apply below_alloc | apply pw_below_drewN | apply below_drew1) | exact HB.out)); (case side2 => exact HR0.out); (case side3 => exact HC0.out); rintro e w18 ⟨g521, rfl, hi, hb, hb2⟩; refine ⟨_, rfl, ?_⟩; have n0_ := Aside0.mk (hb); have n1_ := Aside0.mk (hi); clear HB; have HB := n0_; have HI521 := n1_; clear n0_ n1_; (try clear hb); (try clear hb2); (try clear hk); (try clear hi)) | ((with_reducible refine gate_callee (f := 33) rfl ?_); refine goesL_ (some 7) rfl rfl Tryz.func33 (by kernel_rfl) rfl #[.pointer (some ⟨g521, 0, none⟩), .int .i64 12] rfl za ?_; (with_reducible refine (spec_l1Rd_pick.calls k g521 t519 t520 12 t522 t523 w _ ?side1 ?side2 A3.out).mono ?_); (case side1 => repeat (first | (with_reducible first | exact HI521.out | apply IsS74.alloc | apply IsS74.drewN | apply IsS74.drew | apply IsS74.set_1) | exact HI521.out)); (case side2 => repeat (first | (with_reducible first | exact HB.out | apply below_alloc | apply pw_below_drewN | apply below_drew1 | refine below_set ?_ (IsS74.ge HI521.out)) | exact HB.out)); rintro e w19 ⟨rfl, hi, hb, hk⟩; refine ⟨_, rfl, ?_⟩; have n0_ := Aside0.mk (hb); have n1_ := Aside0.mk (hi); clear HB; clear HI521; have HB := n0_; have HI521 := n1_; clear n0_ n1_; (try clear hb); (try clear hb2); (try clear hk); (try clear hi)) | ((with_reducible refine gate_callee (f := 37) rfl ?_); refine goesL_ (some 17) rfl rfl Tryz.func37 (by kernel_rfl) rfl #[.pointer (some ⟨g521, 0, none⟩)] rfl za ?_; (with_reducible refine (spec_l14Dec.calls k g521 t519 t523 t531 t532 t535 t536 w _ ?side1 ?side2 A15.out).mono ?_); (case side1 => repeat (first | (with_reducible first | exact HI521.out | apply IsS74.alloc | apply IsS74.drewN | apply IsS74.drew | apply IsS74.set_1) | exact HI521.out)); (case side2 => repeat (first | (with_reducible first | exact HB.out | apply below_alloc | apply pw_below_drewN | apply below_drew1 | refine below_set ?_ (IsS74.ge HI521.out)) | exact HB.out)); rintro e w20 ⟨v533, rfl, ho0, hi, hb, hk⟩; refine ⟨_, rfl, ?_⟩; have n0_ := Aside0.mk (Kd.R_lower ho0 (below_size (by repeat (first | (with_reducible first | exact HB.out | apply below_alloc | apply pw_below_drewN | apply below_drew1 | refine below_set ?_ (IsS74.ge HI521.out)) | exact HB.out)))); have n1_ := Aside0.mk (hb); have n2_ := Aside0.mk (hi); clear HB; clear HI521; have HO534 := n0_; have HB := n1_; have HI521 := n2_; clear n0_ n1_ n2_; (try clear hb); (try clear hb2); (try clear hk); (try clear hi); (try clear ho0); obtain ⟨Ao21, co21, eo21⟩ := Kd.R_slice HO534.out; subst eo21) | ((with_reducible refine gate_callee (f := 31) rfl ?_); refine goesL_ (some 18) rfl rfl Tryz.func31 (by kernel_rfl) rfl #[.agg #[.bool t531, .slice Ao21 t532.length co21, .int .i64 t535]] rfl za ?_; (with_reducible refine (spec_l2Put.calls k t531 _ _ t532 t535 t537 _ ?side1 ?side2 A16.out).mono ?_); (case side1 => repeat (first | exact (Kd.R_reads' HO534.out).2.2 | (with_reducible refine Kd.C_alloc ?_ _) | (with_reducible refine Kd.C_drewN ?_ _) | (with_reducible refine Kd.C_drew ?_))); (case side2 => exact (Kd.R_reads' HO534.out).2.1); rintro e w22 ⟨rfl, hb⟩; refine ⟨_, rfl, ?_⟩; have n0_ := Aside0.mk (Kd.R_below (zR HO534.out) hb); have n1_ := Aside0.mk (IsS74.below (by repeat (first | (with_reducible first | exact HI521.out | apply IsS74.alloc | apply IsS74.drewN | apply IsS74.drew | apply IsS74.set_1) | exact HI521.out)) hb); have n2_ := Aside0.mk (below_step (by repeat (first | (with_reducible first | exact HB.out | apply below_alloc | apply pw_below_drewN | apply below_drew1 | refine below_set ?_ (IsS74.ge HI521.out)) | exact HB.out)) hb); clear HO534; clear HI521; clear HB; have HO534 := n0_; have HI521 := n1_; have HB := n2_; clear n0_ n1_ n2_; (try clear hb); (try clear hb2); (try clear hk); (try clear hi)) | ((with_reducible refine gate_callee (f := 36) rfl ?_); refine goesL_ (some 19) rfl rfl Tryz.func36 (by kernel_rfl) rfl #[.pointer (some ⟨g521, 0, none⟩), .string t537] rfl za ?_; (with_reducible refine (spec_l14Bent.calls k g521 t519 t536 t537 t538 t539 w _ ?side1 ?side2 A17.out).mono ?_); (case side1 => repeat (first | (with_reducible first | exact HI521.out | apply IsS74.alloc | apply IsS74.drewN | apply IsS74.drew | apply IsS74.set_1) | exact HI521.out)); (case side2 => repeat (first | (with_reducible first | exact HB.out | apply below_alloc | apply pw_below_drewN | apply below_drew1 | refine below_set ?_ (IsS74.ge HI521.out)) | exact HB.out)); rintro e w23 ⟨rfl, hi, hb, hk⟩; refine ⟨_, rfl, ?_⟩; have n0_ := Aside0.mk (Kd.R_mono (Kd.R_keep (IsS74.apart (show IsS74 w _ g521 t519 t536 from by repeat (first | (with_reducible first | exact HI521.out | apply IsS74.alloc | apply IsS74.drewN | apply IsS74.drew | apply IsS74.set_1) | exact HI521.out)) (zR HO534.out) (by decide)) hk (fun _ h => h.2)) (fun _ h => h.1)); have n1_ := Aside0.mk (hb); have n2_ := Aside0.mk (hi); clear HO534; clear HB; clear HI521; have HO534 := n0_; have HB := n1_; have HI521 := n2_; clear n0_ n1_ n2_; (try clear hb); (try clear hb2); (try clear hk); (try clear hi)))
    go_ret
    exact ⟨by first | rfl | (simp [errW_none, errW_some] <;> rfl) | (simp [*, errW_none, errW_some] <;> rfl), by repeat (first | (with_reducible first | exact HB.out | apply below_alloc | apply pw_below_drewN | apply below_drew1 | refine below_set ?_ (IsS74.ge HI521.out)) | exact HB.out)⟩
end Go.Proofs.YtdbgpoileffbeaaGreatDoor.Pr
end
section
namespace Go.Proofs.YtdbgpoileffbeaaGreatDoor.Pr
open Go.RowKit Go.Proofs.YtdbgpoileffbeaaGreatDoorW.PrintWords Go.Proofs.YtdbgpoileffbeaaGreatDoorW.PrintLast Go.Proofs.YtdbgpoileffbeaaGreatDoor.Ext Go.Proofs.YtdbgpoileffbeaaGreatDoorW.PrintMore
attribute [local go_sem] max2_int min2_int max_two min_two max_three min_three max_four min_four
set_option linter.unusedVariables false
set_option linter.unusedSimpArgs false
def laws_FnDecGet.j0 : Nat → ByteArray → Bool → Bool → Bool → Bool → List Int → Int → Bool → List Int → Int → Option (Bool)
  | 0, _, _, _, _, _, _, _, _, _, _ => none
  | k + 1, x3, x5, x7, x35, x548000, x548001, x548002, x555000, x555001, x555002 => if x35 = true then (if (x5 == x7) = true then ((laws_jtDec.f k x548000 x548001 x548002 x555000 x555001 x555002).bind fun t556 => (some t556)) else (some false)) else ((impl_DecPut.f x548000 x548001 x548002).bind fun t557 => (if t557.toList = x3.toList then ((impl_DecOk.f x548000 x548001 x548002).bind fun t558 => (some t558)) else (some false)))
def laws_FnDecGet.f (k : Nat) (l0 : List Int) : Option (Bool) := if (l0.length : Int) > 1048576 then (some true) else ((spec_DrawDecGet.f k l0).bind fun t540 => ((impl_DecGet.f k t540).bind fun bt541 => ((spec_DecGet.f k t540).bind fun bt548 => (if (bt541.2.2.2 != bt548.2.2.2) = true then (laws_FnDecGet.j0 k t540 bt541.2.2.2 bt548.2.2.2 true bt541.1 bt541.2.1 bt541.2.2.1 bt548.1 bt548.2.1 bt548.2.2.1) else ((laws_jtDec.f k bt541.1 bt541.2.1 bt541.2.2.1 bt548.1 bt548.2.1 bt548.2.2.1).bind fun t555 => (if t555 = true then (laws_FnDecGet.j0 k t540 bt541.2.2.2 bt548.2.2.2 (!bt541.2.2.2) bt541.1 bt541.2.1 bt541.2.2.1 bt548.1 bt548.2.1 bt548.2.2.1) else (laws_FnDecGet.j0 k t540 bt541.2.2.2 bt548.2.2.2 true bt541.1 bt541.2.1 bt541.2.2.1 bt548.1 bt548.2.1 bt548.2.2.1)))))))
set_option maxHeartbeats 8000000 in
set_option maxRecDepth 100000 in
theorem laws_FnDecGet.calls (k : Nat) (A0 : Option Addr) (c0 : Nat) (l0 : List Int) (r : Bool) (w : World) (hT : EnvA w) (hr0 : Kd.C (Kd.int .u8) w A0 l0.length l0) (hc0 : l0.length ≤ c0) (h : laws_FnDecGet.f k l0 = some r) :
    Calls Tryz.prog 5 #[.slice A0 l0.length c0] w fun e w' => e = .returned (.bool r) ∧ Below w.heap.size w w' := by
  have hu26 := Tryz.underlying26
  have HR0 := Aside0.mk hr0
  have HC0 := Aside0.mk hc0
  clear hr0 hc0
  have HB := Aside0.mk (Below.refl w.heap.size w)
  have HT := Aside0.mk hT
  clear hT
  have H : (if (l0.length : Int) > 1048576 then (some true) else ((spec_DrawDecGet.f k l0).bind fun t540 => ((impl_DecGet.f k t540).bind fun bt541 => ((spec_DecGet.f k t540).bind fun bt548 => (if (bt541.2.2.2 != bt548.2.2.2) = true then (laws_FnDecGet.j0 k t540 bt541.2.2.2 bt548.2.2.2 true bt541.1 bt541.2.1 bt541.2.2.1 bt548.1 bt548.2.1 bt548.2.2.1) else ((laws_jtDec.f k bt541.1 bt541.2.1 bt541.2.2.1 bt548.1 bt548.2.1 bt548.2.2.1).bind fun t555 => (if t555 = true then (laws_FnDecGet.j0 k t540 bt541.2.2.2 bt548.2.2.2 (!bt541.2.2.2) bt541.1 bt541.2.1 bt541.2.2.1 bt548.1 bt548.2.1 bt548.2.2.1) else (laws_FnDecGet.j0 k t540 bt541.2.2.2 bt548.2.2.2 true bt541.1 bt541.2.1 bt541.2.2.1 bt548.1 bt548.2.1 bt548.2.2.1)))))))) = some r := h
  clear h
  by_cases c2 : (l0.length : Int) > 1048576
  · rw [if_pos c2] at H
    have c2b0 : decide (1048576 < (l0.length : Int)) = true := decide_eq_true c2
    have c2b1 : decide (1048576 < l0.length) = true := decide_eq_true (by omega)
    clear c2
    obtain rfl := Option.some.inj H
    go_enter Tryz.func5, Tryz.ntmps5
    go_wp2
    go_ret
    exact ⟨by first | rfl | (simp [errW_none, errW_some] <;> rfl) | (simp [*, errW_none, errW_some] <;> rfl), zb⟩
  · rw [if_neg c2] at H
    have c2b0 : decide (1048576 < (l0.length : Int)) = false := decide_eq_false c2
    have c2b1 : decide (1048576 < l0.length) = false := decide_eq_false (by omega)
    clear c2
    replace H := Option.bind_eq_some_iff.mp H
    obtain ⟨t540, A30, H⟩ := H
    replace H : ((impl_DecGet.f k t540).bind fun bt541 => ((spec_DecGet.f k t540).bind fun bt548 => (if (bt541.2.2.2 != bt548.2.2.2) = true then (laws_FnDecGet.j0 k t540 bt541.2.2.2 bt548.2.2.2 true bt541.1 bt541.2.1 bt541.2.2.1 bt548.1 bt548.2.1 bt548.2.2.1) else ((laws_jtDec.f k bt541.1 bt541.2.1 bt541.2.2.1 bt548.1 bt548.2.1 bt548.2.2.1).bind fun t555 => (if t555 = true then (laws_FnDecGet.j0 k t540 bt541.2.2.2 bt548.2.2.2 (!bt541.2.2.2) bt541.1 bt541.2.1 bt541.2.2.1 bt548.1 bt548.2.1 bt548.2.2.1) else (laws_FnDecGet.j0 k t540 bt541.2.2.2 bt548.2.2.2 true bt541.1 bt541.2.1 bt541.2.2.1 bt548.1 bt548.2.1 bt548.2.2.1)))))) = some r := H
    have A3 := Aside0.mk A30
    clear A30
    replace H := Option.bind_eq_some_iff.mp H
    obtain ⟨⟨t541, t542, t545, t546⟩, A40, H⟩ := H
    replace H : ((spec_DecGet.f k t540).bind fun bt548 => (if (t546 != bt548.2.2.2) = true then (laws_FnDecGet.j0 k t540 t546 bt548.2.2.2 true t541 t542 t545 bt548.1 bt548.2.1 bt548.2.2.1) else ((laws_jtDec.f k t541 t542 t545 bt548.1 bt548.2.1 bt548.2.2.1).bind fun t555 => (if t555 = true then (laws_FnDecGet.j0 k t540 t546 bt548.2.2.2 (!t546) t541 t542 t545 bt548.1 bt548.2.1 bt548.2.2.1) else (laws_FnDecGet.j0 k t540 t546 bt548.2.2.2 true t541 t542 t545 bt548.1 bt548.2.1 bt548.2.2.1))))) = some r := H
    have A4 := Aside0.mk A40
    clear A40
    replace H := Option.bind_eq_some_iff.mp H
    obtain ⟨⟨t548, t549, t552, t553⟩, A50, H⟩ := H
    replace H : (if (t546 != t553) = true then (laws_FnDecGet.j0 k t540 t546 t553 true t541 t542 t545 t548 t549 t552) else ((laws_jtDec.f k t541 t542 t545 t548 t549 t552).bind fun t555 => (if t555 = true then (laws_FnDecGet.j0 k t540 t546 t553 (!t546) t541 t542 t545 t548 t549 t552) else (laws_FnDecGet.j0 k t540 t546 t553 true t541 t542 t545 t548 t549 t552)))) = some r := H
    have A5 := Aside0.mk A50
    clear A50
    have HC6 := Aside0.mk H
    clear H
    go_enter Tryz.func5, Tryz.ntmps5
    go_upto_region 6 with (first | ((with_reducible refine gate_callee (f := 15) rfl ?_); refine goesL_ (some 12) rfl rfl Tryz.func15 (by kernel_rfl) rfl #[.slice A0 l0.length c0] rfl za ?_; (with_reducible refine (spec_DrawDecGet.calls k _ _ l0 t540 _ ?side1 ?side2 A3.out).mono ?_); (case side1 => repeat (first | exact HR0.out | (with_reducible refine Kd.C_alloc ?_ _) | (with_reducible refine Kd.C_drewN ?_ _) | (with_reducible refine Kd.C_drew ?_))); (case side2 => exact HC0.out); rintro e w7 ⟨rfl, hb⟩; refine ⟨_, rfl, ?_⟩; have n0_ := Aside0.mk (below_step zb hb); clear HB; have HB := n0_; clear n0_; (try clear hb); (try clear hb2); (try clear hk); (try clear hi)) | ((with_reducible refine gate_callee (f := 7) rfl ?_); refine goesL_ (some 15) rfl rfl Tryz.func7 (by kernel_rfl) rfl #[.string t540] rfl za ?_; (with_reducible refine (impl_DecGet.calls k t540 t541 t542 t545 t546 _ ?side1 A4.out).mono ?_); (case side1 => exact HT.out.below zb); rintro e w8 ⟨v543, rfl, ho0, hb⟩; refine ⟨_, rfl, ?_⟩; have n0_ := Aside0.mk (Kd.V_lower (Kd.V_mono (ok' := fun k_ => True) ho0 (fun k_ hk_ => trivial)) (below_size zb)); have n1_ := Aside0.mk (below_step zb hb); clear HB; have HO544 := n0_; have HB := n1_; clear n0_ n1_; (try clear hb); (try clear hb2); (try clear hk); (try clear hi); (try clear ho0)) | ((with_reducible refine gate_dst (N := 4) rfl ?_); refine box_event ?hg (N := 4) ?hd (cs := #[.bool false, .slice none 0 0, .int .i64 0]) (t := 26) ?hr ?_; (case hd => rfl); (case hg => rfl); (case hr => first | (go_simp; done) | (go_simp; rfl)); intro gb547 hg w9 hbox hb; have n0_ := Aside0.mk (Kd.V_below (Kd.V_elderB (zV HO544.out) gb547 (Nat.le_of_eq hg.symm)) hb); have n1_ := Aside0.mk (below_step zb hb); have n2_ := Aside0.mk (hbox); have n3_ := Aside0.mk ((by rw [hg]; exact (below_size zb) : w.heap.size ≤ gb547)); have n4_ := Aside0.mk ((by rw [hg]; exact (below_size zb) : w.heap.size ≤ gb547)); clear HO544; clear HB; have HO544 := n0_; have HB := n1_; have BK547 := n2_; have GW547 := n3_; have GE547 := n4_; clear n0_ n1_ n2_ n3_ n4_; clear hb hbox hg; have hcz10_0 : w9.cell? ⟨gb547, 0, none⟩ = some (.bool false) := (blk_cell BK547.out 0).trans rfl; have hcz10_1 : w9.cell? ⟨gb547, 1, none⟩ = some (.slice none 0 0) := (blk_cell BK547.out 1).trans rfl; have hcz10_2 : w9.cell? ⟨gb547, 2, none⟩ = some (.int .i64 0) := (blk_cell BK547.out 2).trans rfl; have hfz10_0 := blk_frozen BK547.out 0; have hfz10_1 := blk_frozen BK547.out 1; have hfz10_2 := blk_frozen BK547.out 2; obtain ⟨Ao11, co11, eo11⟩ := Kd.V_slice HO544.out; subst eo11) | ((with_reducible refine gate_callee (f := 6) rfl ?_); refine goesL_ (some 20) rfl rfl Tryz.func6 (by kernel_rfl) rfl #[.string t540] rfl za ?_; (with_reducible refine (spec_DecGet.calls k t540 t548 t549 t552 t553 _ A5.out).mono ?_); rintro e w12 ⟨v550, rfl, ho0, hb⟩; refine ⟨_, rfl, ?_⟩; have n0_ := Aside0.mk (Kd.V_elder' (by (with_reducible repeat (first | apply Kd.V_alloc | apply Kd.V_drewN | apply Kd.V_drew)); exact (Kd.V_mono (Kd.V_far (p := ⟨gb547, 2, none⟩) (Kd.V_far (p := ⟨gb547, 1, none⟩) (Kd.V_far (p := ⟨gb547, 0, none⟩) (Kd.V_mono HO544.out (fun k_ hk => (⟨hk, hk.2⟩ : _ ∧ k_ ≠ gb547))) (fun _ hk => hk.2) (.bool t541)) (fun _ hk => hk.2) (.slice Ao11 t542.length co11)) (fun _ hk => hk.2) (.int .i64 t545)) (fun _ h_ => h_.1))) (Kd.R_base ho0) hb); have n1_ := Aside0.mk (Kd.R_lower ho0 (below_size zb)); have n2_ := Aside0.mk (blk_below (g := gb547) (o := .cells #[.bool t541, .slice Ao11 t542.length co11, .int .i64 t545] 26 (0, 0)) (by (with_reducible repeat (first | refine blk_drewN ?_ _ | refine blk_drew ?_ | refine blk_alloc ?_ _)); refine blk_put (cs := #[.bool t541, .slice Ao11 t542.length co11, .int .i64 0]) ?_ 2 _ rfl; (with_reducible repeat (first | refine blk_drewN ?_ _ | refine blk_drew ?_ | refine blk_alloc ?_ _)); refine blk_put (cs := #[.bool t541, .slice none 0 0, .int .i64 0]) ?_ 1 _ rfl; (with_reducible repeat (first | refine blk_drewN ?_ _ | refine blk_drew ?_ | refine blk_alloc ?_ _)); refine blk_put (cs := #[.bool false, .slice none 0 0, .int .i64 0]) ?_ 0 _ rfl; (with_reducible repeat (first | refine blk_drewN ?_ _ | refine blk_drew ?_ | refine blk_alloc ?_ _)); exact BK547.out) hb); have n3_ := Aside0.mk (below_step zb hb); clear HO544; clear BK547; clear HB; have HO544 := n0_; have HO551 := n1_; have BK547 := n2_; have HB := n3_; clear n0_ n1_ n2_ n3_; (try clear hb); (try clear hb2); (try clear hk); (try clear hi); (try clear ho0)) | ((with_reducible refine gate_dst (N := 6) rfl ?_); refine box_event ?hg (N := 6) ?hd (cs := #[.bool false, .slice none 0 0, .int .i64 0]) (t := 26) ?hr ?_; (case hd => rfl); (case hg => rfl); (case hr => first | (go_simp; done) | (go_simp; rfl)); intro gb554 hg w13 hbox hb; have n0_ := Aside0.mk (Kd.V_below (Kd.V_elderB (zV HO544.out) gb554 (Nat.le_of_eq hg.symm)) hb); have n1_ := Aside0.mk (Kd.R_below (zR HO551.out) hb); have n2_ := Aside0.mk (blk_below (g := gb547) (o := .cells #[.bool t541, .slice Ao11 t542.length co11, .int .i64 t545] 26 (0, 0)) (zk BK547.out) hb); have n3_ := Aside0.mk (below_step zb hb); have n4_ := Aside0.mk (hbox); have n5_ := Aside0.mk ((by rw [hg]; exact (below_size zb) : w.heap.size ≤ gb554)); have n6_ := Aside0.mk ((by rw [hg]; exact (below_size zb) : w.heap.size ≤ gb554)); have n7_ := Aside0.mk ((by rw [hg]; exact Nat.ne_of_lt (blk_lt (g := gb547) (o := .cells #[.bool t541, .slice Ao11 t542.length co11, .int .i64 t545] 26 (0, 0)) (zk BK547.out)) : gb547 ≠ gb554)); have n8_ := Aside0.mk ((by rw [hg]; exact Nat.ne_of_gt (blk_lt (g := gb547) (o := .cells #[.bool t541, .slice Ao11 t542.length co11, .int .i64 t545] 26 (0, 0)) (zk BK547.out)) : gb554 ≠ gb547)); clear HO544; clear HO551; clear BK547; clear HB; have HO544 := n0_; have HO551 := n1_; have BK547 := n2_; have HB := n3_; have BK554 := n4_; have GW554 := n5_; have GE554 := n6_; have NB547_554 := n7_; have NB554_547 := n8_; clear n0_ n1_ n2_ n3_ n4_ n5_ n6_ n7_ n8_; clear hb hbox hg; have hnb14 := NB554_547.out; have hnc14 := NB547_554.out; have hcz15_0 : w13.cell? ⟨gb554, 0, none⟩ = some (.bool false) := (blk_cell BK554.out 0).trans rfl; have hcz15_1 : w13.cell? ⟨gb554, 1, none⟩ = some (.slice none 0 0) := (blk_cell BK554.out 1).trans rfl; have hcz15_2 : w13.cell? ⟨gb554, 2, none⟩ = some (.int .i64 0) := (blk_cell BK554.out 2).trans rfl; have hfz15_0 := blk_frozen BK554.out 0; have hfz15_1 := blk_frozen BK554.out 1; have hfz15_2 := blk_frozen BK554.out 2; obtain ⟨Ao16, co16, eo16⟩ := Kd.R_slice HO551.out; subst eo16))
    (try simp only [Act.put, List.setIfInBounds_toArray, List.set_cons_zero, List.set_cons_succ])
    go_cut [35] (fun v35 wc => ∃ (kq : Nat) (x35_5 : Bool), v35 = .bool x35_5 ∧ Aside0 (laws_FnDecGet.j0 kq t540 t546 t553 x35_5 t541 t542 t545 t548 t549 t552 = some r) ∧ Aside0 (kq ≤ k) ∧ Aside0 (Kd.V (Kd.int .i64) 3 wc w.heap.size (fun k_ => some k_ ≠ ((.slice Ao16 t549.length co16) : Value).ownBlock ∧ k_ ≠ gb547 ∧ k_ ≠ gb554) (.slice Ao11 t542.length co11) t542) ∧ Aside0 (Kd.R (Kd.int .i64) 3 wc w.heap.size (fun _ => True) (.slice Ao16 t549.length co16) t549) ∧ Aside0 (wc.heap[gb547]? = some (.cells #[.bool t541, (.slice Ao11 t542.length co11), .int .i64 t545] 26 (0, 0))) ∧ Aside0 (wc.heap[gb554]? = some (.cells #[.bool t548, (.slice Ao16 t549.length co16), .int .i64 t552] 26 (0, 0))) ∧ Aside0 (Below w.heap.size w wc))
    case first =>
      have H := HC6.out
      clear HC6
      by_cases c17 : (t546 != t553) = true
      · rw [if_pos c17] at H
        have c17b0 : (t546 != t553) = true := c17
        (try (have c17b1 : decide (t546 = t553) = false := by simpa using c17))
        (try (have c17b2 : (t546 == t553) = false := by simpa using c17))
        (try (have c17b3 : ¬ (t546 = t553) := by simpa using c17))
        clear c17
        (first | rw [c17b0] | (simp only [i64_w, i32_w]; rw [c17b0]) | skip)
        have H' := Aside0.mk H
        clear H
        go_wp2
        go_meet
        case rel => exact ⟨_, (true), (by first | rfl | (simp; done) | (simp [*]; done)), H', ⟨by first | omega | exact Nat.le_refl _⟩, ⟨by (with_reducible repeat (first | apply Kd.V_alloc | apply Kd.V_drewN | apply Kd.V_drew)); exact Kd.V_mono (Kd.V_far (p := ⟨gb554, 2, none⟩) (Kd.V_far (p := ⟨gb554, 1, none⟩) (Kd.V_far (p := ⟨gb554, 0, none⟩) (Kd.V_mono HO544.out (fun k_ hk => (⟨hk, hk.2⟩ : _ ∧ k_ ≠ gb554))) (fun _ hk => hk.2) (.bool t548)) (fun _ hk => hk.2) (.slice Ao16 t549.length co16)) (fun _ hk => hk.2) (.int .i64 t552)) (fun _ hk => ⟨hk.1.1.2, ⟨hk.1.1.1.2, hk.1.2⟩⟩)⟩, ⟨by (with_reducible repeat (first | apply Kd.R_alloc | apply Kd.R_drewN | apply Kd.R_drew)); exact Kd.R_mono (Kd.R_far (p := ⟨gb554, 2, none⟩) (Kd.R_far (p := ⟨gb554, 1, none⟩) (Kd.R_far (p := ⟨gb554, 0, none⟩) (Kd.R_types HO551.out BK554.out (by decide)) (fun _ hk => hk.2) (.bool t548)) (fun _ hk => hk.2) (.slice Ao16 t549.length co16)) (fun _ hk => hk.2) (.int .i64 t552)) (fun _ hk => trivial)⟩, ⟨by (with_reducible repeat (first | refine blk_drewN ?_ _ | refine blk_drew ?_ | refine blk_alloc ?_ _)); refine blk_far ?_ NB547_554.out _; (with_reducible repeat (first | refine blk_drewN ?_ _ | refine blk_drew ?_ | refine blk_alloc ?_ _)); refine blk_far ?_ NB547_554.out _; (with_reducible repeat (first | refine blk_drewN ?_ _ | refine blk_drew ?_ | refine blk_alloc ?_ _)); refine blk_far ?_ NB547_554.out _; (with_reducible repeat (first | refine blk_drewN ?_ _ | refine blk_drew ?_ | refine blk_alloc ?_ _)); exact BK547.out⟩, ⟨by (with_reducible repeat (first | refine blk_drewN ?_ _ | refine blk_drew ?_ | refine blk_alloc ?_ _)); refine blk_put (cs := #[.bool t548, .slice Ao16 t549.length co16, .int .i64 0]) ?_ 2 _ rfl; (with_reducible repeat (first | refine blk_drewN ?_ _ | refine blk_drew ?_ | refine blk_alloc ?_ _)); refine blk_put (cs := #[.bool t548, .slice none 0 0, .int .i64 0]) ?_ 1 _ rfl; (with_reducible repeat (first | refine blk_drewN ?_ _ | refine blk_drew ?_ | refine blk_alloc ?_ _)); refine blk_put (cs := #[.bool false, .slice none 0 0, .int .i64 0]) ?_ 0 _ rfl; (with_reducible repeat (first | refine blk_drewN ?_ _ | refine blk_drew ?_ | refine blk_alloc ?_ _)); exact BK554.out⟩, ⟨zb⟩⟩
      · rw [if_neg c17] at H
        have c17b0 : (t546 != t553) = false := by simpa using c17
        (try (have c17b1 : decide (t546 = t553) = true := by simpa using c17))
        (try (have c17b2 : (t546 == t553) = true := by simpa using c17))
        clear c17
        (first | rw [c17b0] | (simp only [i64_w, i32_w]; rw [c17b0]) | skip)
        replace H := Option.bind_eq_some_iff.mp H
        obtain ⟨t555, A180, H⟩ := H
        replace H : (if t555 = true then (laws_FnDecGet.j0 k t540 t546 t553 (!t546) t541 t542 t545 t548 t549 t552) else (laws_FnDecGet.j0 k t540 t546 t553 true t541 t542 t545 t548 t549 t552)) = some r := H
        have A18 := Aside0.mk A180
        clear A180
        by_cases c19 : t555 = true
        · subst c19
          have H1 : (laws_FnDecGet.j0 k t540 t546 t553 (!t546) t541 t542 t545 t548 t549 t552) = some r := by rw [if_pos rfl] at H; exact H
          clear H
          have H := H1
          clear H1
          have H' := Aside0.mk H
          clear H
          have hnb20 := NB547_554.out
          have hnc20 := NB554_547.out
          have hcz21_0 : w13.cell? ⟨gb547, 0, none⟩ = some (.bool t541) := (blk_cell BK547.out 0).trans rfl
          have hcz21_1 : w13.cell? ⟨gb547, 1, none⟩ = some (.slice Ao11 t542.length co11) := (blk_cell BK547.out 1).trans rfl
          have hcz21_2 : w13.cell? ⟨gb547, 2, none⟩ = some (.int .i64 t545) := (blk_cell BK547.out 2).trans rfl
          have hfz21_0 := blk_frozen BK547.out 0
          have hfz21_1 := blk_frozen BK547.out 1
          have hfz21_2 := blk_frozen BK547.out 2
          have hcz22_0 : w13.cell? ⟨gb554, 0, none⟩ = some (.bool false) := (blk_cell BK554.out 0).trans rfl
          have hcz22_1 : w13.cell? ⟨gb554, 1, none⟩ = some (.slice none 0 0) := (blk_cell BK554.out 1).trans rfl
          have hcz22_2 : w13.cell? ⟨gb554, 2, none⟩ = some (.int .i64 0) := (blk_cell BK554.out 2).trans rfl
          have hfz22_0 := blk_frozen BK554.out 0
          have hfz22_1 := blk_frozen BK554.out 1
          have hfz22_2 := blk_frozen BK554.out 2
          go_wp2_with (first | (go_at_call 14; (with_reducible refine (laws_jtDec.calls k t541 _ _ t542 t545 t548 _ _ t549 t552 true _ ?side1 ?side2 ?side3 ?side4 A18.out).mono ?_); (case side1 => refine (Kd.V_reads' (e := 3) (base := w.heap.size) (ok := fun k_ => (((True ∧ k_ ≠ gb547) ∧ some k_ ≠ (.slice Ao16 t549.length co16 : Value).ownBlock) ∧ k_ ≠ gb554)) (n := t542.length) (c := co11) ?_).2.2; exact (by (with_reducible repeat (first | apply Kd.V_alloc | apply Kd.V_drewN | apply Kd.V_drew)); exact (Kd.V_mono (Kd.V_far (p := ⟨gb554, 2, none⟩) (Kd.V_far (p := ⟨gb554, 1, none⟩) (Kd.V_far (p := ⟨gb554, 0, none⟩) (Kd.V_mono HO544.out (fun k_ hk => (⟨hk, hk.2⟩ : _ ∧ k_ ≠ gb554))) (fun _ hk => hk.2) (.bool t548)) (fun _ hk => hk.2) (.slice Ao16 t549.length co16)) (fun _ hk => hk.2) (.int .i64 t552)) (fun _ h_ => h_.1)))); (case side2 => exact (Kd.V_reads' HO544.out).2.1); (case side3 => refine (Kd.R_reads' (e := 3) (base := w.heap.size) (ok := fun k_ => True) (n := t549.length) (c := co16) ?_).2.2; exact (by (with_reducible repeat (first | apply Kd.R_alloc | apply Kd.R_drewN | apply Kd.R_drew)); exact (Kd.R_mono (Kd.R_far (p := ⟨gb554, 2, none⟩) (Kd.R_far (p := ⟨gb554, 1, none⟩) (Kd.R_far (p := ⟨gb554, 0, none⟩) (Kd.R_types HO551.out BK554.out (by decide)) (fun _ hk => hk.2) (.bool t548)) (fun _ hk => hk.2) (.slice Ao16 t549.length co16)) (fun _ hk => hk.2) (.int .i64 t552)) (fun _ h_ => h_.1)))); (case side4 => exact (Kd.R_reads' HO551.out).2.1); rintro e w23 ⟨rfl, hb⟩; have n0_ := Aside0.mk (Kd.V_below (by (with_reducible repeat (first | apply Kd.V_alloc | apply Kd.V_drewN | apply Kd.V_drew)); exact (Kd.V_mono (Kd.V_far (p := ⟨gb554, 2, none⟩) (Kd.V_far (p := ⟨gb554, 1, none⟩) (Kd.V_far (p := ⟨gb554, 0, none⟩) (Kd.V_mono HO544.out (fun k_ hk => (⟨hk, hk.2⟩ : _ ∧ k_ ≠ gb554))) (fun _ hk => hk.2) (.bool t548)) (fun _ hk => hk.2) (.slice Ao16 t549.length co16)) (fun _ hk => hk.2) (.int .i64 t552)) (fun _ h_ => h_.1))) hb); have n1_ := Aside0.mk (Kd.R_below (by (with_reducible repeat (first | apply Kd.R_alloc | apply Kd.R_drewN | apply Kd.R_drew)); exact (Kd.R_mono (Kd.R_far (p := ⟨gb554, 2, none⟩) (Kd.R_far (p := ⟨gb554, 1, none⟩) (Kd.R_far (p := ⟨gb554, 0, none⟩) (Kd.R_types HO551.out BK554.out (by decide)) (fun _ hk => hk.2) (.bool t548)) (fun _ hk => hk.2) (.slice Ao16 t549.length co16)) (fun _ hk => hk.2) (.int .i64 t552)) (fun _ h_ => h_.1))) hb); have n2_ := Aside0.mk (blk_below (g := gb547) (o := .cells #[.bool t541, .slice Ao11 t542.length co11, .int .i64 t545] 26 (0, 0)) (zk BK547.out) hb); have n3_ := Aside0.mk (blk_below (g := gb554) (o := .cells #[.bool t548, .slice Ao16 t549.length co16, .int .i64 t552] 26 (0, 0)) (by (with_reducible repeat (first | refine blk_drewN ?_ _ | refine blk_drew ?_ | refine blk_alloc ?_ _)); refine blk_put (cs := #[.bool t548, .slice Ao16 t549.length co16, .int .i64 0]) ?_ 2 _ rfl; (with_reducible repeat (first | refine blk_drewN ?_ _ | refine blk_drew ?_ | refine blk_alloc ?_ _)); refine blk_put (cs := #[.bool t548, .slice none 0 0, .int .i64 0]) ?_ 1 _ rfl; (with_reducible repeat (first | refine blk_drewN ?_ _ | refine blk_drew ?_ | refine blk_alloc ?_ _)); refine blk_put (cs := #[.bool false, .slice none 0 0, .int .i64 0]) ?_ 0 _ rfl; (with_reducible repeat (first | refine blk_drewN ?_ _ | refine blk_drew ?_ | refine blk_alloc ?_ _)); exact BK554.out) hb); have n4_ := Aside0.mk (below_step zb hb); clear HO544; clear HO551; clear BK547; clear BK554; clear HB; have HO544 := n0_; have HO551 := n1_; have BK547 := n2_; have BK554 := n3_; have HB := n4_; clear n0_ n1_ n2_ n3_ n4_; (try clear hb); (try clear hb2); (try clear hk); (try clear hi)))
          go_meet
          case rel => exact ⟨_, (!t546), (by first | rfl | (simp; done) | (simp [*]; done)), H', ⟨by first | omega | exact Nat.le_refl _⟩, ⟨by (with_reducible repeat (first | apply Kd.V_alloc | apply Kd.V_drewN | apply Kd.V_drew)); exact Kd.V_mono HO544.out (fun _ hk => ⟨hk.1.2, ⟨hk.1.1.2, hk.2⟩⟩)⟩, ⟨by (with_reducible repeat (first | apply Kd.R_alloc | apply Kd.R_drewN | apply Kd.R_drew)); exact HO551.out⟩, ⟨by (with_reducible repeat (first | refine blk_drewN ?_ _ | refine blk_drew ?_ | refine blk_alloc ?_ _)); exact BK547.out⟩, ⟨by (with_reducible repeat (first | refine blk_drewN ?_ _ | refine blk_drew ?_ | refine blk_alloc ?_ _)); exact BK554.out⟩, ⟨zb⟩⟩
        · replace c19 := Bool.eq_false_iff.mpr c19
          subst c19
          have H1 : (laws_FnDecGet.j0 k t540 t546 t553 true t541 t542 t545 t548 t549 t552) = some r := by rw [if_neg (show ¬ (false = true) by decide)] at H; exact H
          clear H
          have H := H1
          clear H1
          have H' := Aside0.mk H
          clear H
          have hnb24 := NB547_554.out
          have hnc24 := NB554_547.out
          have hcz25_0 : w13.cell? ⟨gb547, 0, none⟩ = some (.bool t541) := (blk_cell BK547.out 0).trans rfl
          have hcz25_1 : w13.cell? ⟨gb547, 1, none⟩ = some (.slice Ao11 t542.length co11) := (blk_cell BK547.out 1).trans rfl
          have hcz25_2 : w13.cell? ⟨gb547, 2, none⟩ = some (.int .i64 t545) := (blk_cell BK547.out 2).trans rfl
          have hfz25_0 := blk_frozen BK547.out 0
          have hfz25_1 := blk_frozen BK547.out 1
          have hfz25_2 := blk_frozen BK547.out 2
          have hcz26_0 : w13.cell? ⟨gb554, 0, none⟩ = some (.bool false) := (blk_cell BK554.out 0).trans rfl
          have hcz26_1 : w13.cell? ⟨gb554, 1, none⟩ = some (.slice none 0 0) := (blk_cell BK554.out 1).trans rfl
          have hcz26_2 : w13.cell? ⟨gb554, 2, none⟩ = some (.int .i64 0) := (blk_cell BK554.out 2).trans rfl
          have hfz26_0 := blk_frozen BK554.out 0
          have hfz26_1 := blk_frozen BK554.out 1
          have hfz26_2 := blk_frozen BK554.out 2
          go_wp2_with (first | (go_at_call 14; (with_reducible refine (laws_jtDec.calls k t541 _ _ t542 t545 t548 _ _ t549 t552 false _ ?side1 ?side2 ?side3 ?side4 A18.out).mono ?_); (case side1 => refine (Kd.V_reads' (e := 3) (base := w.heap.size) (ok := fun k_ => (((True ∧ k_ ≠ gb547) ∧ some k_ ≠ (.slice Ao16 t549.length co16 : Value).ownBlock) ∧ k_ ≠ gb554)) (n := t542.length) (c := co11) ?_).2.2; exact (by (with_reducible repeat (first | apply Kd.V_alloc | apply Kd.V_drewN | apply Kd.V_drew)); exact (Kd.V_mono (Kd.V_far (p := ⟨gb554, 2, none⟩) (Kd.V_far (p := ⟨gb554, 1, none⟩) (Kd.V_far (p := ⟨gb554, 0, none⟩) (Kd.V_mono HO544.out (fun k_ hk => (⟨hk, hk.2⟩ : _ ∧ k_ ≠ gb554))) (fun _ hk => hk.2) (.bool t548)) (fun _ hk => hk.2) (.slice Ao16 t549.length co16)) (fun _ hk => hk.2) (.int .i64 t552)) (fun _ h_ => h_.1)))); (case side2 => exact (Kd.V_reads' HO544.out).2.1); (case side3 => refine (Kd.R_reads' (e := 3) (base := w.heap.size) (ok := fun k_ => True) (n := t549.length) (c := co16) ?_).2.2; exact (by (with_reducible repeat (first | apply Kd.R_alloc | apply Kd.R_drewN | apply Kd.R_drew)); exact (Kd.R_mono (Kd.R_far (p := ⟨gb554, 2, none⟩) (Kd.R_far (p := ⟨gb554, 1, none⟩) (Kd.R_far (p := ⟨gb554, 0, none⟩) (Kd.R_types HO551.out BK554.out (by decide)) (fun _ hk => hk.2) (.bool t548)) (fun _ hk => hk.2) (.slice Ao16 t549.length co16)) (fun _ hk => hk.2) (.int .i64 t552)) (fun _ h_ => h_.1)))); (case side4 => exact (Kd.R_reads' HO551.out).2.1); rintro e w27 ⟨rfl, hb⟩; have n0_ := Aside0.mk (Kd.V_below (by (with_reducible repeat (first | apply Kd.V_alloc | apply Kd.V_drewN | apply Kd.V_drew)); exact (Kd.V_mono (Kd.V_far (p := ⟨gb554, 2, none⟩) (Kd.V_far (p := ⟨gb554, 1, none⟩) (Kd.V_far (p := ⟨gb554, 0, none⟩) (Kd.V_mono HO544.out (fun k_ hk => (⟨hk, hk.2⟩ : _ ∧ k_ ≠ gb554))) (fun _ hk => hk.2) (.bool t548)) (fun _ hk => hk.2) (.slice Ao16 t549.length co16)) (fun _ hk => hk.2) (.int .i64 t552)) (fun _ h_ => h_.1))) hb); have n1_ := Aside0.mk (Kd.R_below (by (with_reducible repeat (first | apply Kd.R_alloc | apply Kd.R_drewN | apply Kd.R_drew)); exact (Kd.R_mono (Kd.R_far (p := ⟨gb554, 2, none⟩) (Kd.R_far (p := ⟨gb554, 1, none⟩) (Kd.R_far (p := ⟨gb554, 0, none⟩) (Kd.R_types HO551.out BK554.out (by decide)) (fun _ hk => hk.2) (.bool t548)) (fun _ hk => hk.2) (.slice Ao16 t549.length co16)) (fun _ hk => hk.2) (.int .i64 t552)) (fun _ h_ => h_.1))) hb); have n2_ := Aside0.mk (blk_below (g := gb547) (o := .cells #[.bool t541, .slice Ao11 t542.length co11, .int .i64 t545] 26 (0, 0)) (zk BK547.out) hb); have n3_ := Aside0.mk (blk_below (g := gb554) (o := .cells #[.bool t548, .slice Ao16 t549.length co16, .int .i64 t552] 26 (0, 0)) (by (with_reducible repeat (first | refine blk_drewN ?_ _ | refine blk_drew ?_ | refine blk_alloc ?_ _)); refine blk_put (cs := #[.bool t548, .slice Ao16 t549.length co16, .int .i64 0]) ?_ 2 _ rfl; (with_reducible repeat (first | refine blk_drewN ?_ _ | refine blk_drew ?_ | refine blk_alloc ?_ _)); refine blk_put (cs := #[.bool t548, .slice none 0 0, .int .i64 0]) ?_ 1 _ rfl; (with_reducible repeat (first | refine blk_drewN ?_ _ | refine blk_drew ?_ | refine blk_alloc ?_ _)); refine blk_put (cs := #[.bool false, .slice none 0 0, .int .i64 0]) ?_ 0 _ rfl; (with_reducible repeat (first | refine blk_drewN ?_ _ | refine blk_drew ?_ | refine blk_alloc ?_ _)); exact BK554.out) hb); have n4_ := Aside0.mk (below_step zb hb); clear HO544; clear HO551; clear BK547; clear BK554; clear HB; have HO544 := n0_; have HO551 := n1_; have BK547 := n2_; have BK554 := n3_; have HB := n4_; clear n0_ n1_ n2_ n3_ n4_; (try clear hb); (try clear hb2); (try clear hk); (try clear hi)))
          go_meet
          case rel => exact ⟨_, (true), (by first | rfl | (simp; done) | (simp [*]; done)), H', ⟨by first | omega | exact Nat.le_refl _⟩, ⟨by (with_reducible repeat (first | apply Kd.V_alloc | apply Kd.V_drewN | apply Kd.V_drew)); exact Kd.V_mono HO544.out (fun _ hk => ⟨hk.1.2, ⟨hk.1.1.2, hk.2⟩⟩)⟩, ⟨by (with_reducible repeat (first | apply Kd.R_alloc | apply Kd.R_drewN | apply Kd.R_drew)); exact HO551.out⟩, ⟨by (with_reducible repeat (first | refine blk_drewN ?_ _ | refine blk_drew ?_ | refine blk_alloc ?_ _)); exact BK547.out⟩, ⟨by (with_reducible repeat (first | refine blk_drewN ?_ _ | refine blk_drew ?_ | refine blk_alloc ?_ _)); exact BK554.out⟩, ⟨zb⟩⟩
    case rest =>
      clear HC6
      try clear c1
      try clear c2
      try clear c2b0
      try clear c2b1
      try clear p2
      try clear c5
      try clear c6
      try clear c7
      try clear c14
      try clear c15
      try clear c17
      try clear c17b0
      try clear c17b1
      try clear c17b2
      try clear c19
      try clear c20
      try clear c24
      try clear hcz10_0
      try clear hcz10_1
      try clear hcz10_2
      try clear hcz15_0
      try clear hcz15_1
      try clear hcz15_2
      try clear hcz21_0
      try clear hcz21_1
      try clear hcz21_2
      try clear hcz22_0
      try clear hcz22_1
      try clear hcz22_2
      try clear hcz25_0
      try clear hcz25_1
      try clear hcz25_2
      try clear hcz26_0
      try clear hcz26_1
      try clear hcz26_2
      try clear hfz10_0
      try clear hfz10_1
      try clear hfz10_2
      try clear hfz15_0
      try clear hfz15_1
      try clear hfz15_2
      try clear hfz21_0
      try clear hfz21_1
      try clear hfz21_2
      try clear hfz22_0
      try clear hfz22_1
      try clear hfz22_2
      try clear hfz25_0
      try clear hfz25_1
      try clear hfz25_2
      try clear hfz26_0
      try clear hfz26_1
      try clear hfz26_2
      obtain ⟨kq, x35_5, rfl, HA, HJ5, HO_548001, HO_555001, BK547, BK554, HB⟩ := hcut
      cases kq with
      | zero => exact absurd HA.out (by simp [laws_FnDecGet.j0])
      | succ kj5 =>
        have H := HA.out
        clear HA
        simp only [laws_FnDecGet.j0] at H
        by_cases c28 : x35_5 = true
        · subst c28
          have H1 : (if (t546 == t553) = true then ((laws_jtDec.f kj5 t541 t542 t545 t548 t549 t552).bind fun t556 => (some t556)) else (some false)) = some r := by rw [if_pos rfl] at H; exact H
          clear H
          have H := H1
          clear H1
          by_cases c29 : (t546 == t553) = true
          · rw [if_pos c29] at H
            have c29b0 : (t546 == t553) = true := c29
            (try (have c29b1 : decide (t546 = t553) = true := by simpa using c29))
            (try (have c29b2 : (t546 == t553) = true := by simpa using c29))
            clear c29
            replace H := Option.bind_eq_some_iff.mp H
            obtain ⟨t556, A300, H⟩ := H
            replace H : (some t556) = some r := H
            have A30 := Aside0.mk A300
            clear A300
            obtain rfl := Option.some.inj H
            have hnb31 := NB547_554.out
            have hnc31 := NB554_547.out
            have hcz32_0 : wc.cell? ⟨gb547, 0, none⟩ = some (.bool t541) := (blk_cell BK547.out 0).trans rfl
            have hcz32_1 : wc.cell? ⟨gb547, 1, none⟩ = some (.slice Ao11 t542.length co11) := (blk_cell BK547.out 1).trans rfl
            have hcz32_2 : wc.cell? ⟨gb547, 2, none⟩ = some (.int .i64 t545) := (blk_cell BK547.out 2).trans rfl
            have hfz32_0 := blk_frozen BK547.out 0
            have hfz32_1 := blk_frozen BK547.out 1
            have hfz32_2 := blk_frozen BK547.out 2
            have hcz33_0 : wc.cell? ⟨gb554, 0, none⟩ = some (.bool t548) := (blk_cell BK554.out 0).trans rfl
            have hcz33_1 : wc.cell? ⟨gb554, 1, none⟩ = some (.slice Ao16 t549.length co16) := (blk_cell BK554.out 1).trans rfl
            have hcz33_2 : wc.cell? ⟨gb554, 2, none⟩ = some (.int .i64 t552) := (blk_cell BK554.out 2).trans rfl
            have hfz33_0 := blk_frozen BK554.out 0
            have hfz33_1 := blk_frozen BK554.out 1
            have hfz33_2 := blk_frozen BK554.out 2
            go_wp2_with (first | (go_at_call 14; (with_reducible refine (laws_jtDec.calls kj5 t541 _ _ t542 t545 t548 _ _ t549 t552 t556 _ ?side1 ?side2 ?side3 ?side4 A30.out).mono ?_); (case side1 => repeat (first | exact (Kd.V_reads' HO_548001.out).2.2 | (with_reducible refine Kd.C_alloc ?_ _) | (with_reducible refine Kd.C_drewN ?_ _) | (with_reducible refine Kd.C_drew ?_))); (case side2 => exact (Kd.V_reads' HO_548001.out).2.1); (case side3 => repeat (first | exact (Kd.R_reads' HO_555001.out).2.2 | (with_reducible refine Kd.C_alloc ?_ _) | (with_reducible refine Kd.C_drewN ?_ _) | (with_reducible refine Kd.C_drew ?_))); (case side4 => exact (Kd.R_reads' HO_555001.out).2.1); rintro e w34 ⟨rfl, hb⟩; have n0_ := Aside0.mk (Kd.V_below (zV HO_548001.out) hb); have n1_ := Aside0.mk (Kd.R_below (zR HO_555001.out) hb); have n2_ := Aside0.mk (blk_below (g := gb547) (o := .cells #[.bool t541, .slice Ao11 t542.length co11, .int .i64 t545] 26 (0, 0)) (zk BK547.out) hb); have n3_ := Aside0.mk (blk_below (g := gb554) (o := .cells #[.bool t548, .slice Ao16 t549.length co16, .int .i64 t552] 26 (0, 0)) (zk BK554.out) hb); have n4_ := Aside0.mk (below_step zb hb); clear HO_548001; clear HO_555001; clear BK547; clear BK554; clear HB; have HO_548001 := n0_; have HO_555001 := n1_; have BK547 := n2_; have BK554 := n3_; have HB := n4_; clear n0_ n1_ n2_ n3_ n4_; (try clear hb); (try clear hb2); (try clear hk); (try clear hi)))
            go_ret
            exact ⟨by first | rfl | (simp [errW_none, errW_some] <;> rfl) | (simp [*, errW_none, errW_some] <;> rfl), zb⟩
          · rw [if_neg c29] at H
            have c29b0 : (t546 == t553) = false := by simpa using c29
            (try (have c29b1 : decide (t546 = t553) = false := by simpa using c29))
            (try (have c29b2 : (t546 == t553) = false := by simpa using c29))
            (try (have c29b3 : ¬ (t546 = t553) := by simpa using c29))
            clear c29
            obtain rfl := Option.some.inj H
            go_wp2
            go_ret
            exact ⟨by first | rfl | (simp [errW_none, errW_some] <;> rfl) | (simp [*, errW_none, errW_some] <;> rfl), zb⟩
        · replace c28 := Bool.eq_false_iff.mpr c28
          subst c28
          have H1 : ((impl_DecPut.f t541 t542 t545).bind fun t557 => (if t557.toList = t540.toList then ((impl_DecOk.f t541 t542 t545).bind fun t558 => (some t558)) else (some false))) = some r := by rw [if_neg (show ¬ (false = true) by decide)] at H; exact H
          clear H
          have H := H1
          clear H1
          replace H := Option.bind_eq_some_iff.mp H
          obtain ⟨t557, A350, H⟩ := H
          replace H : (if t557.toList = t540.toList then ((impl_DecOk.f t541 t542 t545).bind fun t558 => (some t558)) else (some false)) = some r := H
          have A35 := Aside0.mk A350
          clear A350
          by_cases c36 : t557.toList = t540.toList
          · rw [if_pos c36] at H
            have c36b0 : (t557.toList == t540.toList) = true := beq_iff_eq.mpr c36
            have c36b1 : (t557.toList != t540.toList) = false := bne_eq_false_iff_eq.mpr c36
            clear c36
            replace H := Option.bind_eq_some_iff.mp H
            obtain ⟨t558, A370, H⟩ := H
            replace H : (some t558) = some r := H
            have A37 := Aside0.mk A370
            clear A370
            obtain rfl := Option.some.inj H
            have hnb38 := NB547_554.out
            have hnc38 := NB554_547.out
            have hcz39_0 : wc.cell? ⟨gb547, 0, none⟩ = some (.bool t541) := (blk_cell BK547.out 0).trans rfl
            have hcz39_1 : wc.cell? ⟨gb547, 1, none⟩ = some (.slice Ao11 t542.length co11) := (blk_cell BK547.out 1).trans rfl
            have hcz39_2 : wc.cell? ⟨gb547, 2, none⟩ = some (.int .i64 t545) := (blk_cell BK547.out 2).trans rfl
            have hfz39_0 := blk_frozen BK547.out 0
            have hfz39_1 := blk_frozen BK547.out 1
            have hfz39_2 := blk_frozen BK547.out 2
            go_wp2_with (first | ((with_reducible refine gate_callee (f := 12) rfl ?_); refine goesL_ (some 45) rfl rfl Tryz.func12 (by kernel_rfl) rfl #[.agg #[.bool t541, .slice Ao11 t542.length co11, .int .i64 t545]] rfl za ?_; (with_reducible refine (impl_DecPut.calls t541 _ _ t542 t545 t557 _ ?side1 ?side2 ?side3 A35.out).mono ?_); (case side1 => exact HT.out.toI.below zb); (case side2 => repeat (first | exact (Kd.V_reads' HO_548001.out).2.2 | (with_reducible refine Kd.C_alloc ?_ _) | (with_reducible refine Kd.C_drewN ?_ _) | (with_reducible refine Kd.C_drew ?_))); (case side3 => exact (Kd.V_reads' HO_548001.out).2.1); rintro e w40 ⟨rfl, hb⟩; refine ⟨_, rfl, ?_⟩; have n0_ := Aside0.mk (Kd.V_below (zV HO_548001.out) hb); have n1_ := Aside0.mk (Kd.R_below (zR HO_555001.out) hb); have n2_ := Aside0.mk (blk_below (g := gb547) (o := .cells #[.bool t541, .slice Ao11 t542.length co11, .int .i64 t545] 26 (0, 0)) (zk BK547.out) hb); have n3_ := Aside0.mk (blk_below (g := gb554) (o := .cells #[.bool t548, .slice Ao16 t549.length co16, .int .i64 t552] 26 (0, 0)) (zk BK554.out) hb); have n4_ := Aside0.mk (below_step zb hb); clear HO_548001; clear HO_555001; clear BK547; clear BK554; clear HB; have HO_548001 := n0_; have HO_555001 := n1_; have BK547 := n2_; have BK554 := n3_; have HB := n4_; clear n0_ n1_ n2_ n3_ n4_; (try clear hb); (try clear hb2); (try clear hk); (try clear hi); have hcz41_0 : w40.cell? ⟨gb547, 0, none⟩ = some (.bool t541) := (blk_cell BK547.out 0).trans rfl; have hcz41_1 : w40.cell? ⟨gb547, 1, none⟩ = some (.slice Ao11 t542.length co11) := (blk_cell BK547.out 1).trans rfl; have hcz41_2 : w40.cell? ⟨gb547, 2, none⟩ = some (.int .i64 t545) := (blk_cell BK547.out 2).trans rfl; have hfz41_0 := blk_frozen BK547.out 0; have hfz41_1 := blk_frozen BK547.out 1; have hfz41_2 := blk_frozen BK547.out 2) | (go_at_call 16; (with_reducible refine (impl_DecOk.calls t541 _ _ t542 t545 t558 _ ?side1 ?side2 ?side3 A37.out).mono ?_); (case side1 => exact HT.out.toI.below zb); (case side2 => repeat (first | exact (Kd.V_reads' HO_548001.out).2.2 | (with_reducible refine Kd.C_alloc ?_ _) | (with_reducible refine Kd.C_drewN ?_ _) | (with_reducible refine Kd.C_drew ?_))); (case side3 => exact (Kd.V_reads' HO_548001.out).2.1); rintro e w42 ⟨rfl, hb⟩; have n0_ := Aside0.mk (Kd.V_below (zV HO_548001.out) hb); have n1_ := Aside0.mk (Kd.R_below (zR HO_555001.out) hb); have n2_ := Aside0.mk (blk_below (g := gb547) (o := .cells #[.bool t541, .slice Ao11 t542.length co11, .int .i64 t545] 26 (0, 0)) (zk BK547.out) hb); have n3_ := Aside0.mk (blk_below (g := gb554) (o := .cells #[.bool t548, .slice Ao16 t549.length co16, .int .i64 t552] 26 (0, 0)) (zk BK554.out) hb); have n4_ := Aside0.mk (below_step zb hb); clear HO_548001; clear HO_555001; clear BK547; clear BK554; clear HB; have HO_548001 := n0_; have HO_555001 := n1_; have BK547 := n2_; have BK554 := n3_; have HB := n4_; clear n0_ n1_ n2_ n3_ n4_; (try clear hb); (try clear hb2); (try clear hk); (try clear hi)))
            go_ret
            exact ⟨by first | rfl | (simp [errW_none, errW_some] <;> rfl) | (simp [*, errW_none, errW_some] <;> rfl), zb⟩
          · rw [if_neg c36] at H
            have c36b0 : (t557.toList == t540.toList) = false := beq_eq_false_iff_ne.mpr c36
            have c36b1 : (t557.toList != t540.toList) = true := bne_iff_ne.mpr c36
            obtain rfl := Option.some.inj H
            have hnb43 := NB547_554.out
            have hnc43 := NB554_547.out
            have hcz44_0 : wc.cell? ⟨gb547, 0, none⟩ = some (.bool t541) := (blk_cell BK547.out 0).trans rfl
            have hcz44_1 : wc.cell? ⟨gb547, 1, none⟩ = some (.slice Ao11 t542.length co11) := (blk_cell BK547.out 1).trans rfl
            have hcz44_2 : wc.cell? ⟨gb547, 2, none⟩ = some (.int .i64 t545) := (blk_cell BK547.out 2).trans rfl
            have hfz44_0 := blk_frozen BK547.out 0
            have hfz44_1 := blk_frozen BK547.out 1
            have hfz44_2 := blk_frozen BK547.out 2
            go_wp2_with (first | ((with_reducible refine gate_callee (f := 12) rfl ?_); refine goesL_ (some 45) rfl rfl Tryz.func12 (by kernel_rfl) rfl #[.agg #[.bool t541, .slice Ao11 t542.length co11, .int .i64 t545]] rfl za ?_; (with_reducible refine (impl_DecPut.calls t541 _ _ t542 t545 t557 _ ?side1 ?side2 ?side3 A35.out).mono ?_); (case side1 => exact HT.out.toI.below zb); (case side2 => repeat (first | exact (Kd.V_reads' HO_548001.out).2.2 | (with_reducible refine Kd.C_alloc ?_ _) | (with_reducible refine Kd.C_drewN ?_ _) | (with_reducible refine Kd.C_drew ?_))); (case side3 => exact (Kd.V_reads' HO_548001.out).2.1); rintro e w45 ⟨rfl, hb⟩; refine ⟨_, rfl, ?_⟩; have n0_ := Aside0.mk (Kd.V_below (zV HO_548001.out) hb); have n1_ := Aside0.mk (Kd.R_below (zR HO_555001.out) hb); have n2_ := Aside0.mk (blk_below (g := gb547) (o := .cells #[.bool t541, .slice Ao11 t542.length co11, .int .i64 t545] 26 (0, 0)) (zk BK547.out) hb); have n3_ := Aside0.mk (blk_below (g := gb554) (o := .cells #[.bool t548, .slice Ao16 t549.length co16, .int .i64 t552] 26 (0, 0)) (zk BK554.out) hb); have n4_ := Aside0.mk (below_step zb hb); clear HO_548001; clear HO_555001; clear BK547; clear BK554; clear HB; have HO_548001 := n0_; have HO_555001 := n1_; have BK547 := n2_; have BK554 := n3_; have HB := n4_; clear n0_ n1_ n2_ n3_ n4_; (try clear hb); (try clear hb2); (try clear hk); (try clear hi)))
            go_ret
            exact ⟨by first | rfl | (simp [errW_none, errW_some] <;> rfl) | (simp [*, errW_none, errW_some] <;> rfl), zb⟩
def laws_FnDecGet.Pure : Prop := ∀ (l0 : List Int), l0.length ≤ maxLen → l0.length * 1 ≤ 140737488351232 → (∀ x ∈ l0, (Lit.int .u8 x).wf = true) → ∃ k, laws_FnDecGet.f k l0 = some true
theorem laws_FnDecGet.walk (P : laws_FnDecGet.Pure) (a0 : Option Addr) (len0 cap0 : Nat) (z0 : List Int) (w : World) (hT : EnvA w) (w0 : (a0 = none ∧ len0 = 0 ∧ cap0 = 0 ∧ z0 = []) ∨ ∃ x, a0 = some x ∧ len0 ≤ cap0 ∧ cap0 ≤ maxLen ∧ z0.length = cap0 ∧ (∀ i, i < z0.length → w.cell? (x.add i) = some (.int .u8 (z0.getD i 0))) ∧ ∀ n ∈ z0, (Lit.int .u8 n).wf = true) (y0 : len0 * 1 ≤ 140737488351232) :
    Calls Tryz.prog 5 #[.slice a0 len0 cap0] w fun e w' => e = .returned (.bool true) ∧ Below w.heap.size w w' := by
  obtain ⟨l0, rfl, hr0, hm0, hw0, hc0⟩ := ReadsInt.ofRowC w0
  obtain ⟨k, h⟩ := P l0 hm0 y0 hw0
  refine (laws_FnDecGet.calls k _ _ l0 true w hT (Kd.C_of_reads (d := (0 : Int)) (h1 := fun _ => rfl) hr0) hc0 h).mono ?_
  rintro e w' ⟨rfl, hd⟩
  exact ⟨rfl, hd⟩
end Go.Proofs.YtdbgpoileffbeaaGreatDoor.Pr
end
section
namespace Go.Proofs.YtdbgpoileffbeaaGreatDoor.Str
open Go.Lib Go.RowKit Go.Proofs.YtdbgpoileffbeaaGreatDoor.Dec Go.Proofs.YtdbgpoileffbeaaGreatDoor.Pr Go.Proofs.YtdbgpoileffbeaaGreatDoor.Ext Go.Proofs.YtdbgpoileffbeaaGreatDoorW.PrintWords Go.Proofs.YtdbgpoileffbeaaGreatDoorW.PrintLast Go.Proofs.YtdbgpoileffbeaaGreatDoorW.PrintMore
set_option linter.unusedVariables false
set_option linter.unusedSimpArgs false
def str (l : List UInt8) : ByteArray := ⟨l.toArray⟩
theorem str_eta (s : ByteArray) : s = str s.data.toList := by unfold str; simp
theorem str_size (l : List UInt8) : (str l).size = l.length := by unfold str; simp [ByteArray.size]
theorem str_data (l : List UInt8) : (str l).data.toList = l := by unfold str; simp
theorem str_toList (l : List UInt8) : (str l).toList = l := by rw [ByteArray.toList_eq, str_data]
theorem str_append (a b : List UInt8) : str a ++ str b = str (a ++ b) := by
  apply ByteArray.ext
  simp [str]
theorem str_extract (l : List UInt8) (a b : Nat) : (str l).extract a b = str ((l.drop a).take (b - a)) := by
  rw [extract_eq, str_data]; rfl
theorem str_bt (l : List UInt8) {i : Int} (h0 : 0 ≤ i) (h1 : i < l.length) : bt (str l) i = ((l[i.toNat]'(by omega)).toNat : Int) := by
  unfold bt
  rw [dif_pos (by rw [str_size]; omega)]
  rfl
theorem str_btD (l : List UInt8) {i : Int} (h0 : 0 ≤ i) (h1 : i < l.length) : bt (str l) i = ((l.getD i.toNat 0).toNat : Int) := by
  rw [str_bt l h0 h1, List.getD_eq_getElem?_getD, List.getElem?_eq_getElem (by omega)]; rfl
theorem bS {α β : Type} (a : α) (f : α → Option β) : (some a).bind f = f a := by have h := Option.bind_some a f; rw [h]
theorem w64 {x : Int} (h : -9223372036854775808 ≤ x) (h' : x ≤ 9223372036854775807) : wrap64 x = x := by unfold wrap64; omega
theorem strOf_one {d : Int} (h0 : 0 ≤ d) (h1 : d < 10) : strOfNums [(wrap64 (48 + d)) % 256] = str [UInt8.ofNat (48 + d.toNat)] := by
  rw [w64 (by omega) (by omega), show (48 + d) % 256 = 48 + d from by omega]
  have e : (48 + d).toNat = 48 + d.toNat := by omega
  unfold strOfNums str
  simp [e]
theorem itoa_nonneg {n : Int} (h : 0 ≤ n) : itoa n = decDigits n.toNat := by unfold itoa; rw [if_neg (by omega)]
theorem itoa_neg {n : Int} (h : n < 0) : itoa n = 45 :: decDigits n.natAbs := by unfold itoa; rw [if_pos h]
theorem decDigits_le (n : Nat) : (decDigits n).length ≤ n + 1 := by
  induction n using Nat.strongRecOn with
  | ind n ih =>
    rw [decDigits]
    split
    · simp
    · have := ih (n / 10) (by omega)
      rw [List.length_append, List.length_singleton]; omega
theorem l1Dec_nonneg (m : Nat) : ∀ (k : Nat) (n : Int), 0 ≤ n → n ≤ 9223372036854775807 → n < 10 ^ m → m < k → spec_l1Dec.f k n = some (str (decDigits n.toNat)) := by
  induction m with
  | zero =>
    intro k n h0 _ hm hk
    obtain ⟨k, rfl⟩ : ∃ j, k = j + 1 := ⟨k - 1, by omega⟩
    have hn : n = 0 := by simp at hm; omega
    subst hn
    rw [spec_l1Dec.f, if_neg (by omega), if_neg (by omega), if_pos (by omega), strOf_one (by omega) (by omega), decDigits, dif_pos (by decide)]
  | succ m ih =>
    intro k n h0 h1 hm hk
    obtain ⟨k, rfl⟩ : ∃ j, k = j + 1 := ⟨k - 1, by omega⟩
    rw [spec_l1Dec.f, if_neg (by omega), if_neg (by omega)]
    by_cases h : n < 10
    · rw [if_pos h, strOf_one h0 h, decDigits, dif_pos (by omega)]
    · have hp : (10 : Int) ^ (m + 1) = 10 ^ m * 10 := Int.pow_succ ..
      rw [if_neg h, Int.tdiv_eq_ediv_of_nonneg h0, w64 (by omega) (by omega), ih k (n / 10) (by omega) (by omega) (by rw [hp] at hm; omega) (by omega), Int.tmod_eq_emod_of_nonneg h0]
      simp only [bS]
      have hd := decDigits_le (n / 10).toNat
      have hd2 : (decDigits (n / 10).toNat).length ≤ 19 := decDigits_len_le (by decide) (by omega)
      rw [strOf_one (by omega) (by omega), str_size, str_size, if_pos (by simp; omega), str_append]
      congr 2
      rw [show n.toNat = n.toNat from rfl, decDigits.eq_def n.toNat, dif_neg (by omega)]
      rw [show (n / 10).toNat = n.toNat / 10 from by omega, show (n % 10).toNat = n.toNat % 10 from by omega]
theorem p19 : (10 : Int) ^ 19 = 10000000000000000000 := by decide
theorem l1Dec_eq {n : Int} (h0 : -9223372036854775808 ≤ n) (h1 : n ≤ 9223372036854775807) (k : Nat) (hk : 25 ≤ k) : spec_l1Dec.f k n = some (str (itoa n)) := by
  by_cases h : 0 ≤ n
  · rw [l1Dec_nonneg 19 k n h h1 (by rw [p19]; omega) (by omega), itoa_nonneg h]
  · obtain ⟨k, rfl⟩ : ∃ j, k = j + 1 := ⟨k - 1, by omega⟩
    rw [spec_l1Dec.f]
    by_cases hm : n < -9223372036854775807
    · have : n = -9223372036854775808 := by omega
      subst this
      rw [if_pos hm]
      have e : itoa (-9223372036854775808) = [45, 57, 50, 50, 51, 51, 55, 50, 48, 51, 54, 56, 53, 52, 55, 55, 53, 56, 48, 56] := by decide +kernel
      rw [e]; rfl
    · have hd2 : (decDigits (-n).toNat).length ≤ 19 := decDigits_len_le (by decide) (by omega)
      rw [if_neg hm, if_pos (by omega), w64 (by omega) (by omega), l1Dec_nonneg 19 k (-n) (by omega) (by omega) (by rw [p19]; omega) (by omega)]
      simp only [bS]
      rw [str_size, if_pos (by omega), itoa_neg (by omega), show n.natAbs = (-n).toNat from by omega]
      exact congrArg some (str_append [45] _)
theorem itoa_len {n : Int} (h0 : -9223372036854775808 ≤ n) (h1 : n ≤ 9223372036854775807) : (itoa n).length ≤ 20 := by
  by_cases h : 0 ≤ n
  · rw [itoa_nonneg h]
    have : (decDigits n.toNat).length ≤ 19 := decDigits_len_le (by decide) (by omega)
    omega
  · rw [itoa_neg (by omega)]
    have : (decDigits n.natAbs).length ≤ 19 := decDigits_len_le (by decide) (by omega)
    rw [List.length_cons]; omega
end Go.Proofs.YtdbgpoileffbeaaGreatDoor.Str
end
section
namespace Go.Proofs.YtdbgpoileffbeaaGreatDoor.Val
open Go.RowKit Go.Proofs.YtdbgpoileffbeaaGreatDoor.Pr Go.Proofs.YtdbgpoileffbeaaGreatDoor.Ext Go.Proofs.YtdbgpoileffbeaaGreatDoor.Jt Go.Proofs.YtdbgpoileffbeaaGreatDoorW.PrintWords Go.Proofs.YtdbgpoileffbeaaGreatDoorW.PrintLast Go.Proofs.YtdbgpoileffbeaaGreatDoorW.PrintMore
set_option linter.unusedVariables false
set_option linter.unusedSimpArgs false
theorem w64 {x : Int} (h : -9223372036854775808 ≤ x) (h' : x ≤ 9223372036854775807) : wrap64 x = x := by unfold wrap64; omega
theorem rdn (l : List Int) (i : Int) : rd l i = l.getD i.toNat 0 := rfl
def okD (x : Int) : Bool := decide (0 ≤ x) && decide (x ≤ 9999)
def okB (neg : Bool) (l : List Int) : Bool := decide (l.length ≤ 16) && l.all okD && (decide (l.length = 0) || decide (l.getD (l.length - 1) 0 ≠ 0)) && (!neg || decide (l.length ≠ 0))
theorem okB_iff (neg : Bool) (l : List Int) : okB neg l = true ↔ BOk neg l := by
  unfold okB BOk Dig Nz
  simp only [Bool.and_eq_true, decide_eq_true_eq, List.all_eq_true, okD, Bool.or_eq_true, Bool.not_eq_true']
  constructor
  · rintro ⟨⟨⟨a, b⟩, c⟩, d⟩
    exact ⟨a, b, c, fun h => d.resolve_left (by simp [h])⟩
  · rintro ⟨a, b, c, d⟩
    refine ⟨⟨⟨a, b⟩, c⟩, ?_⟩
    cases neg
    · exact .inl rfl
    · exact .inr (d rfl)
theorem in_ge (x : Int) : spec_l1In.f x 0 9999 = some (okD x) := by
  unfold spec_l1In.f okD
  by_cases h : x ≥ 0
  · rw [if_pos h, decide_eq_true h, Bool.true_and]
  · rw [if_neg h, decide_eq_false h, Bool.false_and]
theorem bne_d (x : Int) : (x != 0) = decide (x ≠ 0) := by by_cases h : x = 0 <;> simp [h]
theorem l1Ok_l0 (neg : Bool) (l : List Int) (hl : l.length ≤ 16) : ∀ (m k i : Nat), i + m = l.length → m + 1 ≤ k →
    spec_l1Ok.l0 k (i : Int) neg l = some ((l.drop i).all okD && (decide (l.length = 0) || decide (l.getD (l.length - 1) 0 ≠ 0))) := by
  intro m
  induction m with
  | zero =>
    intro k i hi hk
    obtain ⟨k, rfl⟩ : ∃ j, k = j + 1 := ⟨k - 1, by omega⟩
    rw [spec_l1Ok.l0, if_neg (by omega), List.drop_eq_nil_of_le (by omega)]
    by_cases h0 : l.length = 0
    · rw [if_pos (by omega)]; simp [h0]
    · rw [if_neg (by omega), w64 (by omega) (by omega), if_pos (by omega), if_pos (by omega), rdn, show ((l.length : Int) - 1).toNat = l.length - 1 from by omega, bne_d, decide_eq_false h0]
      rfl
  | succ m ih =>
    intro k i hi hk
    obtain ⟨k, rfl⟩ : ∃ j, k = j + 1 := ⟨k - 1, by omega⟩
    have hlt : i < l.length := by omega
    rw [spec_l1Ok.l0, if_pos (by omega), if_pos (by omega), in_ge]
    simp only [Option.bind_some]
    rw [rdn, Int.toNat_natCast, drop_cons hlt, List.all_cons]
    by_cases hb : okD (l.getD i 0) = true
    · rw [if_pos hb, w64 (by omega) (by omega), show ((i : Int) + 1) = ((i + 1 : Nat) : Int) from by omega, ih k (i + 1) (by omega) (by omega), hb, Bool.true_and]
    · rw [if_neg hb, Bool.eq_false_iff.mpr hb]; simp
theorem l1Ok_ge (neg : Bool) (l : List Int) (k : Nat) (hk : 30 ≤ k) : spec_l1Ok.f k neg l = some (okB neg l) := by
  obtain ⟨k, rfl⟩ : ∃ j, k = j + 1 := ⟨k - 1, by omega⟩
  unfold spec_l1Ok.f okB
  by_cases h16 : (l.length : Int) > 16
  · rw [if_pos h16, spec_l1Ok.j0, if_pos rfl, decide_eq_false (show ¬ l.length ≤ 16 by omega)]; simp
  · have e := l1Ok_l0 neg l (by omega) l.length k 0 (by omega) (by omega)
    rw [List.drop_zero] at e
    rw [if_neg h16, decide_eq_true (show l.length ≤ 16 by omega), Bool.true_and]
    cases neg
    · rw [if_neg (by decide), spec_l1Ok.j0, if_neg (by decide)]
      refine e.trans ?_
      simp
    · rw [if_pos rfl, spec_l1Ok.j0]
      by_cases h0 : l.length = 0
      · rw [if_pos (by simp [h0])]; simp [h0]
      · rw [if_neg (by simp; intro hn; simp [hn] at h0)]
        refine e.trans ?_
        rw [decide_eq_true (show l.length ≠ 0 from h0)]
        simp
theorem any_bad (l : List Int) : l.any bad = !(l.all okD) := by
  induction l with
  | nil => rfl
  | cons x xs ih => rw [List.any_cons, List.all_cons, ih, Bool.not_and]; rfl
theorem bigOk_f (neg : Bool) (l : List Int) : impl_BigOk.f neg l = some (okB neg l) := by
  unfold impl_BigOk.f okB containsBad.f
  simp only [any_bad, Option.bind_some, Bool.not_not]
  by_cases h16 : (l.length : Int) ≤ 16
  · rw [if_pos h16, decide_eq_true (show l.length ≤ 16 by omega), Bool.true_and]
    by_cases h0 : (l.length : Int) = 0
    · rw [if_pos h0]
      have h0' : l.length = 0 := by omega
      cases neg
      · rw [if_neg (by decide)]; simp [h0']
      · rw [if_pos rfl, if_neg (by omega)]; simp [h0']
    · have h0' : l.length ≠ 0 := by omega
      rw [if_neg h0, if_pos (by omega), w64 (by omega) (by omega), if_pos (by omega), if_pos (by omega), rdn, show ((l.length : Int) - 1).toNat = l.length - 1 from by omega, decide_eq_false h0', decide_eq_true (show l.length ≠ 0 from h0'), Bool.false_or, Bool.or_true, Bool.and_true]
      by_cases hz : l.getD (l.length - 1) 0 = 0
      · rw [if_pos hz, decide_eq_false (by simpa using hz)]; simp
      · rw [if_neg hz, decide_eq_true hz]; simp
  · rw [if_neg h16, decide_eq_false (show ¬ l.length ≤ 16 by omega)]; simp
theorem rdN (l : List Int) (i : Nat) : rd l (i : Int) = l.getD i 0 := by unfold rd; rw [Int.toNat_natCast]
theorem getD_set_ne {l : List Int} {i j : Nat} (v : Int) (h : i < l.length) (hne : j ≠ i) : (l.set i v).getD j 0 = l.getD j 0 := by rw [getD_set l i j v h, if_neg hne]
end Go.Proofs.YtdbgpoileffbeaaGreatDoor.Val
end
section
namespace Go.Proofs.YtdbgpoileffbeaaGreatDoor.Str
open Go.Lib Go.RowKit Go.Proofs.YtdbgpoileffbeaaGreatDoor.Dec Go.Proofs.YtdbgpoileffbeaaGreatDoor.Jt Go.Proofs.YtdbgpoileffbeaaGreatDoor.Val Go.Proofs.YtdbgpoileffbeaaGreatDoor.Pr Go.Proofs.YtdbgpoileffbeaaGreatDoor.Ext Go.Proofs.YtdbgpoileffbeaaGreatDoorW.PrintWords Go.Proofs.YtdbgpoileffbeaaGreatDoorW.PrintLast Go.Proofs.YtdbgpoileffbeaaGreatDoorW.PrintMore
set_option linter.unusedVariables false
set_option linter.unusedSimpArgs false
theorem repeat_zeros (c : Nat) : repeatL [48] c = zerosL c := by
  induction c with
  | zero => rfl
  | succ c ih => unfold zerosL at *; rw [repeatL, ih, List.replicate_succ]; rfl
theorem specWide_l0 (d : Nat) : ∀ (k : Nat) (w : Int) (l : List UInt8), w ≤ 100 → l.length ≤ 100 → w - l.length ≤ d → d < k → spec_l1Wide.l0 k w (str l) = some (str (zerosL (w.toNat - l.length) ++ l)) := by
  induction d with
  | zero =>
    intro k w l hw hl hd hk
    obtain ⟨k, rfl⟩ : ∃ j, k = j + 1 := ⟨k - 1, by omega⟩
    rw [spec_l1Wide.l0, str_size, if_neg (by omega), show w.toNat - l.length = 0 by omega]
    rfl
  | succ d ih =>
    intro k w l hw hl hd hk
    obtain ⟨k, rfl⟩ : ∃ j, k = j + 1 := ⟨k - 1, by omega⟩
    rw [spec_l1Wide.l0, str_size]
    by_cases h : (l.length : Int) < w
    · rw [if_pos h, if_pos (by omega), show (⟨#[48]⟩ : ByteArray) = str [48] from rfl, str_append]
      by_cases h2 : l.length + 1 ≤ 100
      · rw [ih k w ([48] ++ l) hw (by simp; omega) (by simp; omega) (by omega)]
        congr 2
        rw [List.length_append, List.length_singleton, ← List.append_assoc]
        congr 1
        rw [show w.toNat - l.length = (w.toNat - (1 + l.length)) + 1 by omega]
        unfold zerosL
        rw [List.replicate_succ']
      · exfalso; omega
    · rw [if_neg h, show w.toNat - l.length = 0 by omega]
      rfl
theorem specWide {n w : Int} (h0 : 0 ≤ n) (h1 : n ≤ 9223372036854775807) (w0 : 0 ≤ w) (w1 : w ≤ 90) (k : Nat) (hk : 120 ≤ k) : spec_l1Wide.f k n w = some (str (padL n.toNat w.toNat)) := by
  unfold spec_l1Wide.f
  have hl := itoa_len (n := n) (by omega) h1
  rw [l1Dec_eq (by omega) h1 k (by omega)]
  simp only [bS]
  rw [itoa_nonneg h0] at hl ⊢
  rw [specWide_l0 100 k w _ (by omega) (by omega) (by omega) (by omega)]
  rfl
theorem textB_len {l : List Int} (hd : Dig l) (k : Nat) : (textB (l.drop k)).length ≤ 4 * l.length + 1 := by
  unfold textB
  split
  · simp
  · have h := textL_len (l.drop k) (fun x hx => hd x (List.mem_of_mem_drop hx))
    rw [List.length_drop] at h
    omega
theorem dig_getD {l : List Int} (hd : Dig l) (i : Nat) : 0 ≤ l.getD i 0 ∧ l.getD i 0 ≤ 9999 := by
  by_cases h : i < l.length
  · rw [getD_lt h]; exact hd _ (List.getElem_mem h)
  · rw [getD_ge (by omega)]; omega
theorem figs_l0 {l : List Int} (hd : Dig l) (hl : l.length ≤ 16) : ∀ (m k : Nat), m < l.length → m + 130 ≤ k → spec_l1Figures.l0 k l (str (textB (l.drop m))) ((m : Int) - 1) = some (str (textB l)) := by
  intro m
  induction m with
  | zero =>
    intro k hm hk
    obtain ⟨k, rfl⟩ : ∃ j, k = j + 1 := ⟨k - 1, by omega⟩
    rw [spec_l1Figures.l0, if_neg (by omega), List.drop_zero]
  | succ m ih =>
    intro k hm hk
    obtain ⟨k, rfl⟩ : ∃ j, k = j + 1 := ⟨k - 1, by omega⟩
    have e : ((m + 1 : Nat) : Int) - 1 = (m : Int) := by omega
    have hb := dig_getD hd m
    have hp := pad4_len hb.1 hb.2
    have ht := textB_len hd (m + 1)
    rw [e, spec_l1Figures.l0, if_pos (by omega), if_pos (by omega), if_pos (by omega), rdN, specWide hb.1 (by omega) (by omega) (by omega) k (by omega), show (4 : Int).toNat = 4 from rfl]
    simp only [bS]
    rw [show padL (l.getD m 0).toNat 4 = pad4 (l.getD m 0) from rfl, str_size, str_size, if_pos (by omega), str_append, Str.w64 (by omega) (by omega)]
    have hs := textB_step l (k := m) (by omega)
    rw [if_pos (by omega)] at hs
    rw [← hs]
    exact ih k (by omega) (by omega)
theorem figs {l : List Int} (hd : Dig l) (hl : l.length ≤ 16) (k : Nat) (hk : 200 ≤ k) : spec_l1Figures.f k l = some (str (textL l)) := by
  unfold spec_l1Figures.f
  by_cases h0 : l = []
  · subst h0; rfl
  · have hpos : 0 < l.length := List.length_pos_iff.2 h0
    have hb := dig_getD hd (l.length - 1)
    rw [if_neg (by omega), Str.w64 (by omega) (by omega), if_pos (by omega), if_pos (by omega), show ((l.length : Int) - 1) = ((l.length - 1 : Nat) : Int) by omega, rdN, l1Dec_eq (by omega) (by omega) k (by omega)]
    simp only [bS]
    have hs := textB_step l (k := l.length - 1) (by omega)
    rw [if_neg (by omega), show l.length - 1 + 1 = l.length by omega, List.drop_length, show textB [] = [] from rfl, List.nil_append] at hs
    rw [itoa_nonneg hb.1, ← hs, Str.w64 (by omega) (by omega), show ((l.length : Int) - 2) = ((l.length - 1 : Nat) : Int) - 1 by omega, figs_l0 hd hl (l.length - 1) k (by omega) (by omega)]
    unfold textB
    rw [if_neg h0]
theorem textS {l : List Int} (hd : Dig l) (hl : l.length ≤ 16) : impl_limbs_text.f l = some (str (textL l)) := by
  unfold impl_limbs_text.f
  rw [if_pos ⟨hd, by omega⟩]; rfl
def bigT (n : Bool) (l : List Int) : List UInt8 := if n = true then 45 :: textL l else textL l
theorem textL_16 {l : List Int} (hd : Dig l) (hl : l.length ≤ 16) : (textL l).length ≤ 65 := by have := textL_len l hd; omega
def digN (l : List Int) : Int := if (l.length : Int) = 0 then 0 else ((textL l).length : Int)
def decB (n : Bool) (l : List Int) (s : Int) : Bool := okB n l && (decide (digN l ≤ 30) && decide (0 ≤ s ∧ s ≤ 12))
theorem inB (a b c : Int) : impl_in.f a b c = some (decide (b ≤ a ∧ a ≤ c)) := by
  unfold impl_in.f
  by_cases h : a ≥ b
  · rw [if_pos h]; congr 1; exact decide_eq_decide.2 ⟨fun x => ⟨h, x⟩, fun x => x.2⟩
  · rw [if_neg h, decide_eq_false (fun x => h x.1)]
theorem l1InB (a b c : Int) : spec_l1In.f a b c = some (decide (b ≤ a ∧ a ≤ c)) := by
  unfold spec_l1In.f
  by_cases h : a ≥ b
  · rw [if_pos h]; congr 1; exact decide_eq_decide.2 ⟨fun x => ⟨h, x⟩, fun x => x.2⟩
  · rw [if_neg h, decide_eq_false (fun x => h x.1)]
theorem implDecOk (n : Bool) (l : List Int) (s : Int) : impl_DecOk.f n l s = some (decB n l s) := by
  unfold impl_DecOk.f decB
  rw [bigOk_f]; simp only [bS]
  by_cases h : okB n l = true
  · obtain ⟨hl, hd, hz, hn⟩ := (okB_iff n l).1 h
    have e : impl_limbs_digits.f l = some (digN l) := by
      unfold impl_limbs_digits.f digN
      split
      · rfl
      · rw [textS hd hl]; simp only [bS]; rw [str_size]
    rw [if_pos h, h, e, Bool.true_and]; simp only [bS]
    by_cases h2 : digN l ≤ 30
    · rw [if_pos h2, inB, decide_eq_true h2, Bool.true_and]; simp only [bS]
    · rw [if_neg h2, decide_eq_false h2, Bool.false_and]
  · rw [if_neg h, Bool.eq_false_iff.2 h, Bool.false_and]
theorem specL2Ok (n : Bool) (l : List Int) (s : Int) (k : Nat) (hk : 200 ≤ k) : spec_l2Ok.f k n l s = some (decB n l s) := by
  unfold spec_l2Ok.f decB
  rw [l1Ok_ge n l k (by omega)]; simp only [bS]
  by_cases h : okB n l = true
  · obtain ⟨hl, hd, hz, hn⟩ := (okB_iff n l).1 h
    have e : spec_l1Long.f k l = some (digN l) := by
      unfold spec_l1Long.f digN
      split
      · rfl
      · rw [figs hd hl k hk]; simp only [bS]; rw [str_size]
    rw [if_pos h, h, e, Bool.true_and]; simp only [bS]
    by_cases h2 : digN l ≤ 30
    · rw [if_pos h2, l1InB, decide_eq_true h2, Bool.true_and]; simp only [bS]
    · rw [if_neg h2, decide_eq_false h2, Bool.false_and]
  · rw [if_neg h, Bool.eq_false_iff.2 h, Bool.false_and]
def pointed (n : Bool) (s : Int) (x : ByteArray) : Option ByteArray := (if 0 ≤ (wrap64 ((x.size : Int) - s)) then (if (wrap64 ((x.size : Int) - s)) ≤ (x.size : Int) then (if (x.extract 0 ((wrap64 ((x.size : Int) - s)) : Int).toNat).size + 1 ≤ 9223372036854775807 then (if ((x.extract 0 ((wrap64 ((x.size : Int) - s)) : Int).toNat) ++ (⟨#[46]⟩ : ByteArray)).size + (x.extract ((wrap64 ((x.size : Int) - s)) : Int).toNat x.size).size ≤ 9223372036854775807 then (if n = true then (if 1 + (((x.extract 0 ((wrap64 ((x.size : Int) - s)) : Int).toNat) ++ (⟨#[46]⟩ : ByteArray)) ++ (x.extract ((wrap64 ((x.size : Int) - s)) : Int).toNat x.size)).size ≤ 9223372036854775807 then (some ((⟨#[45]⟩ : ByteArray) ++ (((x.extract 0 ((wrap64 ((x.size : Int) - s)) : Int).toNat) ++ (⟨#[46]⟩ : ByteArray)) ++ (x.extract ((wrap64 ((x.size : Int) - s)) : Int).toNat x.size)))) else (none)) else (some (((x.extract 0 ((wrap64 ((x.size : Int) - s)) : Int).toNat) ++ (⟨#[46]⟩ : ByteArray)) ++ (x.extract ((wrap64 ((x.size : Int) - s)) : Int).toNat x.size)))) else (none)) else (none)) else (none)) else (none))
def pointT (n : Bool) (s : Int) (z : List UInt8) : List UInt8 := (if n = true then [45] else []) ++ ((z.take (z.length - s.toNat) ++ [46]) ++ z.drop (z.length - s.toNat))
theorem pointed_eq (n : Bool) {s : Int} {z : List UInt8} (h0 : 0 < s) (h1 : s ≤ z.length) (hz : z.length ≤ 1000) : pointed n s (str z) = some (str (pointT n s z)) := by
  unfold pointed pointT
  have e : ((z.length : Int) - s).toNat = z.length - s.toNat := by omega
  rw [str_size, Str.w64 (by omega) (by omega), if_pos (by omega), if_pos (by omega), e, str_extract, str_extract, show (⟨#[46]⟩ : ByteArray) = str [46] from rfl, str_append, str_append, str_size, str_size, str_size, show (z.drop 0).take (z.length - s.toNat - 0) = z.take (z.length - s.toNat) by simp, show (z.drop (z.length - s.toNat)).take (z.length - (z.length - s.toNat)) = z.drop (z.length - s.toNat) by rw [List.take_of_length_le]; rw [List.length_drop]; omega]
  have la : (z.take (z.length - s.toNat)).length ≤ 1000 := by rw [List.length_take]; omega
  have lb : (z.drop (z.length - s.toNat)).length ≤ 1000 := by rw [List.length_drop]; omega
  rw [if_pos (by omega), if_pos (by rw [List.length_append, List.length_singleton]; omega)]
  cases n
  · rfl
  · rw [if_pos rfl, if_pos rfl, str_size, if_pos (by simp only [List.length_append, List.length_singleton]; omega), show (⟨#[45]⟩ : ByteArray) = str [45] from rfl, str_append]
def decT (n : Bool) (l : List Int) (s : Int) : List UInt8 := if 0 < s then pointT n s (zerosL (s.toNat + 1 - (textL l).length) ++ textL l) else bigT n l
theorem implDecPut (n : Bool) (l : List Int) (s : Int) : impl_DecPut.f n l s = some (str (if decB n l s = true then decT n l s else [])) := by
  unfold impl_DecPut.f
  rw [implDecOk]; simp only [bS]
  by_cases h : decB n l s = true
  · have h' := h
    unfold decB at h'
    simp only [Bool.and_eq_true, decide_eq_true_eq] at h'
    obtain ⟨ho, _, s0, s1⟩ := h'
    obtain ⟨hl, hd, hz, hn⟩ := (okB_iff n l).1 ho
    have h65 := textL_16 hd hl
    rw [if_pos h, if_pos h, textS hd hl]; simp only [bS]
    unfold decT
    by_cases hs : 0 < s
    · rw [if_pos hs, if_pos hs, str_size, Str.w64 (x := s + 1) (by omega) (by omega), Str.w64 (by omega) (by omega)]
      have e : mx 0 (s + 1 - ((textL l).length : Int)) = ((s.toNat + 1 - (textL l).length : Nat) : Int) := by unfold mx; split <;> omega
      rw [e]
      have er : lib_Repeat.f (⟨#[48]⟩ : ByteArray) ((s.toNat + 1 - (textL l).length : Nat) : Int) = some (str (zerosL (s.toNat + 1 - (textL l).length))) := by
        unfold lib_Repeat.f
        rw [if_pos (by rw [show (⟨#[48]⟩ : ByteArray) = str [48] from rfl, str_size, List.length_singleton]; omega), show (⟨#[48]⟩ : ByteArray) = str [48] from rfl, str_data, Int.toNat_natCast, repeat_zeros]
        rfl
      rw [er]; simp only [bS]
      rw [str_size, if_pos (by rw [zerosL_len]; omega), str_append]
      have hz' : (zerosL (s.toNat + 1 - (textL l).length) ++ textL l).length = s.toNat + 1 - (textL l).length + (textL l).length := by rw [List.length_append, zerosL_len]
      exact pointed_eq n hs (by omega) (by omega)
    · rw [if_neg hs, if_neg hs]
      unfold bigT
      cases n
      · rfl
      · rw [if_pos rfl, if_pos rfl, str_size, if_pos (by omega), show (⟨#[45]⟩ : ByteArray) = str [45] from rfl, str_append]; rfl
  · rw [if_neg h, if_neg h]; rfl
theorem l2Put_l0 (n : Bool) (l0 : List Int) {s : Int} (s0 : 0 ≤ s) (s1 : s ≤ 12) : ∀ (d k : Nat) (z : List UInt8), s.toNat + 1 - z.length ≤ d → z.length ≤ 100 → 0 < z.length → d < k →
    spec_l2Put.l0 k (str z) n l0 s = (if 0 < s then some (str (pointT n s (zerosL (s.toNat + 1 - z.length) ++ z))) else some (str (if n = true then 45 :: z else z))) := by
  intro d
  induction d with
  | zero =>
    intro k z hd hz hp hk
    obtain ⟨k, rfl⟩ : ∃ j, k = j + 1 := ⟨k - 1, by omega⟩
    rw [spec_l2Put.l0, str_size, if_neg (by omega), show s.toNat + 1 - z.length = 0 by omega]
    by_cases hs : 0 < s
    · rw [if_pos hs, if_pos hs, ← str_size]
      exact pointed_eq n hs (by omega) (by omega)
    · rw [if_neg hs, if_neg hs]
      cases n
      · rfl
      · rw [if_pos rfl, if_pos rfl, if_pos (by omega), show (⟨#[45]⟩ : ByteArray) = str [45] from rfl, str_append]; rfl
  | succ d ih =>
    intro k z hd hz hp hk
    by_cases hlt : (z.length : Int) ≤ s
    · obtain ⟨k, rfl⟩ : ∃ j, k = j + 1 := ⟨k - 1, by omega⟩
      rw [spec_l2Put.l0, str_size, if_pos hlt, if_pos (by omega), show (⟨#[48]⟩ : ByteArray) = str [48] from rfl, str_append, ih k ([48] ++ z) (by simp; omega) (by simp; omega) (by simp) (by omega), if_pos (by omega), if_pos (by omega)]
      congr 3
      rw [List.length_append, List.length_singleton, ← List.append_assoc]
      congr 1
      rw [show s.toNat + 1 - z.length = (s.toNat + 1 - (1 + z.length)) + 1 by omega]
      unfold zerosL
      rw [List.replicate_succ']
    · exact ih k z (by omega) hz hp (by omega)
end Go.Proofs.YtdbgpoileffbeaaGreatDoor.Str
end
section
namespace Go.Proofs.YtdbgpoileffbeaaGreatDoor.Val
open Go.RowKit Go.Proofs.YtdbgpoileffbeaaGreatDoor.Pr Go.Proofs.YtdbgpoileffbeaaGreatDoor.Ext Go.Proofs.YtdbgpoileffbeaaGreatDoor.Jt Go.Proofs.YtdbgpoileffbeaaGreatDoorW.PrintWords Go.Proofs.YtdbgpoileffbeaaGreatDoorW.PrintLast Go.Proofs.YtdbgpoileffbeaaGreatDoorW.PrintMore
set_option linter.unusedVariables false
set_option linter.unusedSimpArgs false
def trimN (l : List Int) : Nat → Nat
  | 0 => 0
  | n + 1 => if l.getD n 0 = 0 then trimN l n else n + 1
def trimL (l : List Int) : List Int := l.take (trimN l l.length)
theorem trimN_le (l : List Int) (n : Nat) : trimN l n ≤ n := by
  induction n with
  | zero => exact Nat.le_refl _
  | succ n ih => unfold trimN; split <;> omega
theorem trimN_hi (l : List Int) (n : Nat) : ∀ j, trimN l n ≤ j → j < n → l.getD j 0 = 0 := by
  induction n with
  | zero => intro j _ h; omega
  | succ n ih =>
    intro j h1 h2
    unfold trimN at h1
    split at h1
    · rename_i h
      by_cases hj : j = n
      · rw [hj]; exact h
      · exact ih j h1 (by omega)
    · omega
theorem trimN_nz (l : List Int) (n : Nat) : 0 < trimN l n → l.getD (trimN l n - 1) 0 ≠ 0 := by
  induction n with
  | zero => intro h; simp [trimN] at h
  | succ n ih =>
    unfold trimN
    split
    · exact ih
    · rename_i h; intro _; rw [Nat.add_sub_cancel]; exact h
theorem trimL_of (l : List Int) : TrimOf l (trimL l) := ⟨trimN l l.length, trimN_le _ _, rfl, trimN_hi _ _, trimN_nz _ _⟩
theorem trimL_len (l : List Int) : (trimL l).length ≤ l.length := (trimL_of l).len
theorem trimL_rep {l : List Int} (hd : Dig l) : trimL l = rep (val l) := (trimL_of l).rep hd rfl
theorem sTrim_l0 (l : List Int) (hl : l.length < 1000000) : ∀ (n k : Nat), n ≤ l.length → n + 1 ≤ k → spec_l1Trim.l0 k l (n : Int) = some (l.take (trimN l n)) := by
  intro n
  induction n with
  | zero =>
    intro k hn hk
    obtain ⟨k, rfl⟩ : ∃ j, k = j + 1 := ⟨k - 1, by omega⟩
    rw [spec_l1Trim.l0, if_neg (by omega)]
    simp only [Option.bind_some]
    rw [if_pos (by omega), if_pos (by omega), if_pos (by simp)]
    simp [trimN]
  | succ n ih =>
    intro k hn hk
    obtain ⟨k, rfl⟩ : ∃ j, k = j + 1 := ⟨k - 1, by omega⟩
    rw [spec_l1Trim.l0, if_pos (by omega), w64 (by omega) (by omega), show (((n + 1 : Nat) : Int) - 1) = (n : Int) from by omega, if_pos (by omega), if_pos (by omega), rdn, Int.toNat_natCast]
    unfold trimN
    by_cases h : l.getD n 0 = 0
    · rw [if_pos h, if_pos h]; exact ih k (by omega) (by omega)
    · rw [if_neg h, if_neg h]
      simp only [Option.bind_some]
      rw [if_pos (by omega), if_pos (by omega), Int.toNat_natCast, if_pos (by rw [List.length_take]; simp; omega)]
      simp
theorem sTrim_ge (l : List Int) (hl : l.length < 1000000) (k : Nat) (hk : l.length + 1 ≤ k) : spec_l1Trim.f k l = some (trimL l) := sTrim_l0 l hl l.length k (Nat.le_refl _) hk
theorem iTrim_l0 (l : List Int) (hl : l.length < 1000000) : ∀ (n k : Nat), n ≤ l.length → n + 1 ≤ k → impl_limbs_trim.l0 k (l.take n) = some (l.take (trimN l n)) := by
  intro n
  induction n with
  | zero =>
    intro k hn hk
    obtain ⟨k, rfl⟩ : ∃ j, k = j + 1 := ⟨k - 1, by omega⟩
    rw [impl_limbs_trim.l0, if_neg (by simp)]
    rfl
  | succ n ih =>
    intro k hn hk
    obtain ⟨k, rfl⟩ : ∃ j, k = j + 1 := ⟨k - 1, by omega⟩
    have hlen : (l.take (n + 1)).length = n + 1 := by rw [List.length_take]; omega
    rw [impl_limbs_trim.l0, hlen, if_pos (by omega), w64 (by omega) (by omega), show (((n + 1 : Nat) : Int) - 1) = (n : Int) from by omega, if_pos (by omega), if_pos (by omega), rdn, Int.toNat_natCast, getD_take l (by omega)]
    unfold trimN
    by_cases h : l.getD n 0 = 0
    · rw [if_pos h, if_pos h, if_pos (by omega), List.take_take, Nat.min_eq_left (by omega)]; exact ih k (by omega) (by omega)
    · rw [if_neg h, if_neg h]
theorem iTrim_ge (l : List Int) (hl : l.length < 1000000) (k : Nat) (hk : l.length + 1 ≤ k) : impl_limbs_trim.f k l = some (trimL l) := by
  have e := iTrim_l0 l hl l.length k (Nat.le_refl _) hk
  rw [List.take_length] at e
  exact e
def bigR (x : Int) : Bool × List Int × Bool := if -pw 16 < x ∧ x < pw 16 then (mkN x, mkL x, true) else (false, [], false)
theorem bigR_of {neg : Bool} {l : List Int} (hd : Dig l) :
    (if ((rep (val l)).length : Int) > 16 then (false, ([] : List Int), false) else if neg = true then (decide (0 < (rep (val l)).length), rep (val l), true) else (false, rep (val l), true)) = bigR (bigv neg l) := by
  have h0 := val_nonneg hd
  have hr := rep_len h0 16
  have hp := pw_pos 16
  unfold bigR
  by_cases h : ((rep (val l)).length : Int) > 16
  · have hv : ¬ val l < pw 16 := fun hc => by have := hr.2 hc; omega
    rw [if_pos h, if_neg]
    unfold bigv
    split <;> omega
  · have hv : val l < pw 16 := hr.1 (by omega)
    have hin : -pw 16 < bigv neg l ∧ bigv neg l < pw 16 := by unfold bigv; split <;> omega
    rw [if_neg h, if_pos hin]
    cases neg
    · rw [if_neg (by decide)]
      unfold bigv mkN mkL
      rw [if_neg (by decide), if_neg (by omega), decide_eq_false (by omega)]
    · rw [if_pos rfl]
      unfold bigv mkN mkL
      rw [if_pos rfl]
      have hz := rep_nil h0
      by_cases hv0 : val l = 0
      · rw [hv0, rep_zero]; simp [rep_zero]
      · rw [if_pos (by omega), Int.neg_neg, decide_eq_true (show -val l < 0 by omega)]
        have : 0 < (rep (val l)).length := by
          apply Nat.pos_of_ne_zero
          intro hc
          exact hv0 (hz.1 (List.length_eq_zero_iff.1 hc))
        rw [decide_eq_true this]
theorem l1Big_ge {l : List Int} (hd : Dig l) (hl : l.length ≤ 1000) (neg : Bool) (k : Nat) (hk : 1010 ≤ k) : spec_l1Big.f k neg l = some (bigR (bigv neg l)) := by
  unfold spec_l1Big.f
  rw [sTrim_ge l (by omega) k (by omega), ← bigR_of hd, trimL_rep hd]
  simp only [Option.bind_some]
  (repeat' split) <;> simp_all
theorem big_ge {l : List Int} (hd : Dig l) (hl : l.length ≤ 1000) (neg : Bool) (k : Nat) (hk : 1010 ≤ k) : impl_big.f k neg l = some (bigR (bigv neg l)) := by
  unfold impl_big.f impl_clone_int.f clone99.f
  rw [iTrim_ge l (by omega) k (by omega), ← bigR_of hd]
  have := trimL_len l
  simp only [Option.bind_some]
  rw [if_pos (show (trimL l).length < 17592186044416 by omega), trimL_rep hd]
  simp only [Option.bind_some]
  (repeat' split) <;> simp_all
theorem bigR_ok {neg : Bool} {l : List Int} (h : BOk neg l) : bigR (bigv neg l) = (neg, l, true) := by
  unfold bigR
  rw [if_pos (bigv_bd h), (mk_of h).1, (mk_of h).2]
theorem dig_push {l : List Int} (h : Dig l) {x : Int} (h0 : 0 ≤ x) (h1 : x ≤ 9999) : Dig (l ++ [x]) := h.append (Dig.cons h0 h1 Dig.nil)
theorem val_push (l : List Int) (x : Int) : val (l ++ [x]) = val l + pw l.length * x := by rw [val_append]; simp [val]
theorem rep_len_le {v : Int} (h0 : 0 ≤ v) {n : Nat} (h : v < pw n) : (rep v).length ≤ n := (rep_len h0 n).2 h
theorem jtInts_l0 {a b : List Int} (hl : a.length = b.length) (hL : a.length < 1000000) : ∀ (m k i : Nat), i + m = a.length → m + 1 ≤ k → laws_jtInts.l0 k a b (i : Int) = some (decide (a.drop i = b.drop i)) := by
  intro m
  induction m with
  | zero =>
    intro k i hi hk
    obtain ⟨k, rfl⟩ : ∃ j, k = j + 1 := ⟨k - 1, by omega⟩
    rw [laws_jtInts.l0, if_neg (by omega), List.drop_eq_nil_of_le (by omega), List.drop_eq_nil_of_le (by omega)]
    simp
  | succ m ih =>
    intro k i hi hk
    obtain ⟨k, rfl⟩ : ∃ j, k = j + 1 := ⟨k - 1, by omega⟩
    rw [laws_jtInts.l0, if_pos (by omega), if_pos (by omega), if_pos (by omega), rdN, rdN, drop_cons (l := a) (by omega), drop_cons (l := b) (by omega)]
    by_cases h : a.getD i 0 = b.getD i 0
    · rw [if_pos h, w64 (by omega) (by omega), show ((i : Int) + 1) = ((i + 1 : Nat) : Int) from by omega, ih k (i + 1) (by omega) (by omega), h]
      simp
    · rw [if_neg h]
      simp only [List.cons.injEq, h, false_and, decide_false]
theorem jtBig_ge (n : Bool) (l : List Int) (n' : Bool) (l' : List Int) (hl : l.length ≤ 1000) (k : Nat) (hk : 1010 ≤ k) : laws_jtBig.f k n l n' l' = some (decide (n = n' ∧ l = l')) := by
  unfold laws_jtBig.f laws_jtInts.f
  by_cases hn : n = n'
  · rw [if_pos (by simp [hn])]
    by_cases h : (l.length : Int) = (l'.length : Int)
    · have e := jtInts_l0 (a := l) (b := l') (by omega) (by omega) l.length k 0 (by omega) (by omega)
      rw [List.drop_zero, List.drop_zero] at e
      rw [if_pos h]
      simp only [hn, true_and]
      rw [show (0 : Int) = ((0 : Nat) : Int) from rfl, e]
      rfl
    · rw [if_neg h]
      have : l ≠ l' := fun hc => h (by rw [hc])
      simp [this]
  · rw [if_neg (by simp [hn])]
    simp [hn]
theorem bS {α β : Type} (a : α) (f : α → Option β) : (some a).bind f = f a := by have h := Option.bind_some a f; rw [h]
end Go.Proofs.YtdbgpoileffbeaaGreatDoor.Val
end
section
namespace Go.Proofs.YtdbgpoileffbeaaGreatDoor.Str
open Go.Lib Go.RowKit Go.Proofs.YtdbgpoileffbeaaGreatDoor.Dec Go.Proofs.YtdbgpoileffbeaaGreatDoor.Jt Go.Proofs.YtdbgpoileffbeaaGreatDoor.Val Go.Proofs.YtdbgpoileffbeaaGreatDoor.Pr Go.Proofs.YtdbgpoileffbeaaGreatDoor.Ext Go.Proofs.YtdbgpoileffbeaaGreatDoorW.PrintWords Go.Proofs.YtdbgpoileffbeaaGreatDoorW.PrintLast Go.Proofs.YtdbgpoileffbeaaGreatDoorW.PrintMore
set_option linter.unusedVariables false
set_option linter.unusedSimpArgs false
theorem parse_digs : ∀ (l : List UInt8) (a : Nat), Digs l → (a + 1) * 10 ^ l.length ≤ 10 ^ 18 → parseUint10 a l = .ok (dvalA a l)
  | [], a, _, _ => by rw [parseUint10, dvalA_nil]
  | b :: r, a, hd, hb => by
    have h0 := hd.head
    unfold IsD at h0
    rw [List.length_cons, Nat.pow_succ] at hb
    have hp : 1 ≤ 10 ^ r.length := Nat.one_le_pow _ _ (by decide)
    have h1 : (a + 1) * 1 ≤ (a + 1) * 10 ^ r.length := Nat.mul_le_mul_left _ hp
    have h2 : (a + 1) * (10 ^ r.length * 10) = ((a + 1) * 10 ^ r.length) * 10 := (Nat.mul_assoc ..).symm
    rw [h2] at hb
    have e18 : 10 ^ 18 = 1000000000000000000 := by decide
    rw [e18] at hb
    have ha : a + 1 ≤ 100000000000000000 := by omega
    simp only [parseUint10]
    rw [if_pos h0, if_neg (by omega), if_neg (by omega), dvalA_cons]
    refine parse_digs r _ hd.tail ?_
    rw [e18]
    have h3 : (a * 10 + (b.toNat - 48) + 1) * 10 ^ r.length ≤ ((a + 1) * 10) * 10 ^ r.length := Nat.mul_le_mul_right _ (by omega)
    have h4 : ((a + 1) * 10) * 10 ^ r.length = ((a + 1) * 10 ^ r.length) * 10 := by rw [Nat.mul_assoc, Nat.mul_comm 10, ← Nat.mul_assoc]
    omega
theorem atoiAll_digs {l : List UInt8} (hd : Digs l) (h0 : l ≠ []) (hl : l.length ≤ 18) : atoiAll l = .ok (dval l : Int) := by
  cases l with
  | nil => exact absurd rfl h0
  | cons b r =>
    have hb := hd.head
    unfold IsD at hb
    have hp := parse_digs (b :: r) 0 hd (by
      have : 10 ^ (b :: r).length ≤ 10 ^ 18 := Nat.pow_le_pow_right (by decide) hl
      omega)
    have hv : dvalA 0 (b :: r) < 9223372036854775808 := by
      have h1 := dval_lt hd
      have h2 : 10 ^ (b :: r).length ≤ 10 ^ 18 := Nat.pow_le_pow_right (by decide) hl
      have e18 : 10 ^ 18 = 1000000000000000000 := by decide
      unfold dval at h1
      omega
    unfold atoiAll
    simp only
    rw [if_neg (by omega)]
    unfold parseMag
    rw [if_neg (by simp), hp]
    simp only
    rw [if_neg (by omega), if_neg (by omega), if_neg (by omega)]
    rfl
theorem getD_get {l : List UInt8} {i : Nat} (h : i < l.length) : l[i]? = some (l.getD i 0) := by
  rw [List.getD_eq_getElem?_getD, List.getElem?_eq_getElem h]; rfl
theorem digs_take {l : List UInt8} {i : Nat} (h : i < l.length) (hd : Digs (l.take i)) (hb : IsD (l.getD i 0)) : Digs (l.take (i + 1)) := by
  rw [List.take_succ_eq_append_getElem h]
  refine hd.append (fun b hb' => ?_)
  rw [List.mem_singleton.1 hb']
  have := getD_get h
  rw [List.getElem?_eq_getElem h] at this
  rw [Option.some.inj this]; exact hb
theorem isDigits_l0 (l : List UInt8) (hl : l.length ≤ 4000000000) : ∀ (d k i : Nat), i + d = l.length → d < k → Digs (l.take i) → impl_isDigits.l0 k (str l) (l.length : Int) (i : Int) = some (decide (Digs l ∧ l ≠ [])) := by
  intro d
  induction d with
  | zero =>
    intro k i hi hk hD
    obtain ⟨k, rfl⟩ : ∃ j, k = j + 1 := ⟨k - 1, by omega⟩
    have e : i = l.length := by omega
    rw [impl_isDigits.l0, if_neg (by omega), str_toList]
    rw [e, List.take_length] at hD
    congr 1
    by_cases h : l = []
    · subst h; rfl
    · rw [decide_eq_true ⟨hD, h⟩, bne_iff_ne.2 h]
  | succ d ih =>
    intro k i hi hk hD
    obtain ⟨k, rfl⟩ : ∃ j, k = j + 1 := ⟨k - 1, by omega⟩
    have bad : ¬ IsD (l.getD i 0) → decide (Digs l ∧ l ≠ []) = false := fun h => decide_eq_false (fun hn => h (hn.1.get (getD_get (by omega))))
    rw [impl_isDigits.l0, if_pos (by omega), if_pos (by omega), str_size, if_pos (by omega), str_btD l (by omega) (by omega), Int.toNat_natCast]
    by_cases h1 : ((l.getD i 0).toNat : Int) < 48
    · rw [if_pos h1, bad (by unfold IsD; omega)]
    · rw [if_neg h1]
      by_cases h2 : ((l.getD i 0).toNat : Int) > 57
      · rw [if_pos h2, bad (by unfold IsD; omega)]
      · rw [if_neg h2, Str.w64 (by omega) (by omega), show ((i : Int) + 1) = ((i + 1 : Nat) : Int) by omega]
        exact ih k (i + 1) (by omega) (by omega) (digs_take (by omega) hD (by unfold IsD; omega))
theorem isDigits_eq (l : List UInt8) (hl : l.length ≤ 4000000000) (k : Nat) (hk : l.length + 1 ≤ k) : impl_isDigits.f k (str l) = some (decide (Digs l ∧ l ≠ [])) := by
  unfold impl_isDigits.f
  rw [str_size]
  exact isDigits_l0 l hl l.length k 0 (by omega) (by omega) (by rw [List.take_zero]; exact Digs.nil)
theorem isFigures_l0 (l : List UInt8) (hl : l.length ≤ 4000000000) : ∀ (d k i : Nat), i + d = l.length → d < k → Digs (l.take i) → spec_l1IsFigures.l0 k (str l) (i : Int) = some (decide (Digs l ∧ Canon l)) := by
  intro d
  induction d with
  | zero =>
    intro k i hi hk hD
    obtain ⟨k, rfl⟩ : ∃ j, k = j + 1 := ⟨k - 1, by omega⟩
    have e : i = l.length := by omega
    rw [spec_l1IsFigures.l0, str_size, if_neg (by omega)]
    rw [e, List.take_length] at hD
    by_cases h1 : (l.length : Int) = 1
    · rw [if_pos h1, decide_eq_true ⟨hD, .inl (by omega)⟩]
    · rw [if_neg h1]
      by_cases h2 : (l.length : Int) > 1
      · rw [if_pos h2, if_pos (by omega)]
        cases l with
        | nil => simp at h2
        | cons b r =>
          rw [str_btD _ (by omega) (by omega)]
          congr 1
          have hb := UInt8.toNat_lt b
          by_cases h3 : b = 48
          · rw [decide_eq_false (by rintro ⟨_, c | ⟨_, c⟩⟩; · omega
                                    · exact c (by rw [h3]; rfl))]
            subst h3; rfl
          · rw [decide_eq_true ⟨hD, .inr ⟨by omega, fun e => h3 (Option.some.inj e)⟩⟩, bne_iff_ne.2 (fun e => h3 (UInt8.toNat_inj.1 (show b.toNat = (48 : UInt8).toNat by have : (48 : UInt8).toNat = 48 := rfl; have e' : ((b.toNat : Nat) : Int) = 48 := e; omega)))]
      · rw [if_neg h2, decide_eq_false (by rintro ⟨_, c | ⟨c, _⟩⟩ <;> omega)]
  | succ d ih =>
    intro k i hi hk hD
    obtain ⟨k, rfl⟩ : ∃ j, k = j + 1 := ⟨k - 1, by omega⟩
    have bad : ¬ IsD (l.getD i 0) → decide (Digs l ∧ Canon l) = false := fun h => decide_eq_false (fun hn => h (hn.1.get (getD_get (by omega))))
    rw [spec_l1IsFigures.l0, str_size, if_pos (by omega), if_pos (by omega), str_btD l (by omega) (by omega), Int.toNat_natCast]
    by_cases h1 : ((l.getD i 0).toNat : Int) < 48
    · rw [if_pos h1, bad (by unfold IsD; omega)]
    · rw [if_neg h1]
      by_cases h2 : ((l.getD i 0).toNat : Int) > 57
      · rw [if_pos h2, bad (by unfold IsD; omega)]
      · rw [if_neg h2, Str.w64 (by omega) (by omega), show ((i : Int) + 1) = ((i + 1 : Nat) : Int) by omega]
        exact ih k (i + 1) (by omega) (by omega) (digs_take (by omega) hD (by unfold IsD; omega))
theorem isFigures_eq (l : List UInt8) (hl : l.length ≤ 4000000000) (k : Nat) (hk : l.length + 1 ≤ k) : spec_l1IsFigures.f k (str l) = some (decide (Digs l ∧ Canon l)) := by
  unfold spec_l1IsFigures.f
  exact isFigures_l0 l hl l.length k 0 (by omega) (by omega) (by rw [List.take_zero]; exact Digs.nil)
theorem readL_split {s : List UInt8} {m : Nat} (h0 : 0 < m) (hm : m ≤ s.length) : readL (s.take m) = (dval ((s.take m).drop (m - 4)) : Int) :: readL (s.take (m - 4)) := by
  have hne : s.take m ≠ [] := by intro e; have := congrArg List.length e; rw [List.length_take, List.length_nil] at this; omega
  rw [readL_cons hne]
  have hl : (s.take m).length = m := by rw [List.length_take]; omega
  unfold cutL restL
  rw [hl, List.take_take, Nat.min_eq_left (by omega)]
theorem readLimbs_l0 {s : List UInt8} (hs : Digs s) (hl : s.length ≤ 64) : ∀ (d k m : Nat) (acc : List Int), m ≤ s.length → m ≤ d → 2 * d + acc.length + 200 ≤ k → acc.length + d ≤ 150 → impl_readLimbs.l0 k (str s) acc (m : Int) = some (trimL (acc ++ readL (s.take m))) := by
  intro d
  induction d with
  | zero =>
    intro k m acc hm hd hk ha
    obtain rfl : m = 0 := by omega
    obtain ⟨k, rfl⟩ : ∃ j, k = j + 1 := ⟨k - 1, by omega⟩
    rw [impl_readLimbs.l0, if_neg (by omega), List.take_zero, readL_nil, List.append_nil, iTrim_ge acc (by omega) k (by omega)]
    rfl
  | succ d ih =>
    intro k m acc hm hd hk ha
    by_cases h0 : m = 0
    · subst h0
      obtain ⟨k, rfl⟩ : ∃ j, k = j + 1 := ⟨k - 1, by omega⟩
      rw [impl_readLimbs.l0, if_neg (by omega), List.take_zero, readL_nil, List.append_nil, iTrim_ge acc (by omega) k (by omega)]
      rfl
    · obtain ⟨k, rfl⟩ : ∃ j, k = j + 1 := ⟨k - 1, by omega⟩
      have e : mx 0 ((m : Int) - 4) = ((m - 4 : Nat) : Int) := by unfold mx; split <;> omega
      rw [impl_readLimbs.l0, if_pos (by omega), Str.w64 (by omega) (by omega), e, if_pos (by omega), if_pos (by omega), str_size, if_pos (by omega), str_extract, Int.toNat_natCast, Int.toNat_natCast]
      have ec : (s.drop (m - 4)).take (m - (m - 4)) = (s.take m).drop (m - 4) := by rw [List.drop_take]
      have hD : Digs ((s.take m).drop (m - 4)) := (hs.take _).drop _
      have hcl : ((s.take m).drop (m - 4)).length = m - (m - 4) := by rw [List.length_drop, List.length_take]; omega
      have ha2 : lib_Atoi.f (str ((s.take m).drop (m - 4))) = some ((dval ((s.take m).drop (m - 4)) : Int), true) := by
        unfold lib_Atoi.f atoiV
        rw [if_pos (by rw [str_size]; omega), str_data, atoiAll_digs hD (by intro e; rw [e] at hcl; simp at hcl; omega) (by omega)]
      rw [ec, ha2]; simp only [Str.bS]
      rw [if_pos (by omega)]
      by_cases h4 : 4 ≤ m
      · rw [show ((m : Int) - 4) = ((m - 4 : Nat) : Int) by omega, ih k (m - 4) _ (by omega) (by omega) (by simp; omega) (by simp; omega), readL_split (by omega) hm, List.append_assoc]
        rfl
      · obtain ⟨k, rfl⟩ : ∃ j, k = j + 1 := ⟨k - 1, by omega⟩
        rw [impl_readLimbs.l0, if_neg (by omega), iTrim_ge _ (by simp; omega) k (by simp; omega), readL_split (by omega) hm, show m - 4 = 0 by omega, List.take_zero, readL_nil]
        rfl
theorem readLimbs_eq {s : List UInt8} (hs : Digs s) (hl : s.length ≤ 64) (k : Nat) (hk : 400 ≤ k) : impl_readLimbs.f k (str s) = some (rep (dval s : Int)) := by
  unfold impl_readLimbs.f
  rw [str_size, readLimbs_l0 hs hl s.length k s.length [] (Nat.le_refl _) (Nat.le_refl _) (by simp; omega) (by simp; omega), List.nil_append, List.take_length]
  obtain ⟨d1, d2, _⟩ := readL_ok s.length s (Nat.le_refl _) hs
  rw [trimL_rep d1, d2]
theorem fromF_l1 {s : List UInt8} (hD : Digs s) (hl : s.length ≤ 64) (acc : List Int) (ha : acc.length ≤ 200) (x4 : Nat) (h4 : x4 ≤ s.length) (h5 : s.length ≤ x4 + 4) : ∀ (d k i : Nat), i + d = s.length → x4 ≤ i →
    spec_l1FromFigures.l1 (k + d + 1) (str s) acc (x4 : Int) (dval ((s.take i).drop x4) : Int) (i : Int) = spec_l1FromFigures.l0 k (str (s.take x4)) (acc ++ [(dval (s.drop x4) : Int)]) := by
  intro d
  induction d with
  | zero =>
    intro k i hi hx
    have e : i = s.length := by omega
    rw [spec_l1FromFigures.l1, str_size, if_neg (by omega), if_pos (by omega), if_pos (by omega), if_pos (by omega), str_extract, Int.toNat_natCast, List.drop_zero, Nat.sub_zero, e, List.take_length]
  | succ d ih =>
    intro k i hi hx
    have hb : IsD (s.getD i 0) := hD.get (getD_get (by omega))
    have hbb := hb
    unfold IsD at hb
    have hDi : Digs ((s.take i).drop x4) := (hD.take _).drop _
    have hv := dval_lt hDi
    have hlen : ((s.take i).drop x4).length = i - x4 := by rw [List.length_drop, List.length_take]; omega
    rw [hlen] at hv
    have h10 : 10 ^ (i - x4) ≤ 10 ^ 4 := Nat.pow_le_pow_right (by decide) (by omega)
    have e4 : 10 ^ 4 = 10000 := by decide
    rw [show k + (d + 1) + 1 = (k + d + 1) + 1 by omega, spec_l1FromFigures.l1, str_size, if_pos (by omega), if_pos (by omega), str_btD s (by omega) (by omega), Int.toNat_natCast, Str.w64 (x := (dval ((s.take i).drop x4) : Int) * 10) (by omega) (by omega), Str.w64 (x := (i : Int) + 1) (by omega) (by omega), Str.w64 (by omega) (by omega)]
    have e : ((dval ((s.take i).drop x4) : Int) * 10 + (((s.getD i 0).toNat : Int) - 48) % 256) = (dval ((s.take (i + 1)).drop x4) : Int) := by
      have et : (s.take (i + 1)).drop x4 = (s.take i).drop x4 ++ [s.getD i 0] := by
        have hi' : i < s.length := by omega
        rw [List.take_succ_eq_append_getElem hi', List.drop_append_of_le_length (by rw [List.length_take]; omega)]
        congr 2
        have := getD_get hi'
        rw [List.getElem?_eq_getElem hi'] at this
        exact Option.some.inj this
      rw [et, dval_snoc]
      omega
    rw [e, show ((i : Int) + 1) = ((i + 1 : Nat) : Int) from by omega]
    exact ih k (i + 1) (by omega) (by omega)
theorem fromF_l0 : ∀ (n : Nat) (s : List UInt8) (acc : List Int) (k : Nat), s.length ≤ n → Digs s → s.length ≤ 64 → acc.length + s.length ≤ 150 → 8 * s.length + 200 ≤ k → spec_l1FromFigures.l0 k (str s) acc = some (trimL (acc ++ readL s)) := by
  intro n
  induction n with
  | zero =>
    intro s acc k hn hD hl ha hk
    obtain rfl : s = [] := List.eq_nil_of_length_eq_zero (by omega)
    obtain ⟨k, rfl⟩ : ∃ j, k = j + 1 := ⟨k - 1, by omega⟩
    rw [spec_l1FromFigures.l0, str_size, if_neg (by simp), readL_nil, List.append_nil, sTrim_ge acc (by omega) k (by omega)]
    rfl
  | succ n ih =>
    intro s acc k hn hD hl ha hk
    by_cases h0 : s = []
    · subst h0
      obtain ⟨k, rfl⟩ : ∃ j, k = j + 1 := ⟨k - 1, by omega⟩
      rw [spec_l1FromFigures.l0, str_size, if_neg (by simp), readL_nil, List.append_nil, sTrim_ge acc (by omega) k (by omega)]
      rfl
    · have hpos : 0 < s.length := List.length_pos_iff.2 h0
      obtain ⟨k, rfl⟩ : ∃ j, k = j + 2 := ⟨k - 2, by omega⟩
      have hj : spec_l1FromFigures.l0 (k + 2) (str s) acc = spec_l1FromFigures.l1 k (str s) acc ((s.length - 4 : Nat) : Int) 0 ((s.length - 4 : Nat) : Int) := by
        rw [spec_l1FromFigures.l0, str_size, if_pos (by omega), Str.w64 (by omega) (by omega)]
        by_cases h4 : (s.length : Int) - 4 < 0
        · rw [if_pos h4, spec_l1FromFigures.j1, show ((s.length - 4 : Nat) : Int) = 0 by omega]
        · rw [if_neg h4, spec_l1FromFigures.j1, show ((s.length - 4 : Nat) : Int) = (s.length : Int) - 4 by omega]
      have h1 := fromF_l1 hD hl acc (by omega) (s.length - 4) (by omega) (by omega) (s.length - (s.length - 4)) (k - (s.length - (s.length - 4)) - 1) (s.length - 4) (by omega) (Nat.le_refl _)
      rw [List.drop_take, Nat.sub_self, List.take_zero, dval_nil, show k - (s.length - (s.length - 4)) - 1 + (s.length - (s.length - 4)) + 1 = k by omega] at h1
      rw [hj]
      refine Eq.trans h1 ?_
      have hl4 : (s.take (s.length - 4)).length = s.length - 4 := by rw [List.length_take]; omega
      rw [ih (s.take (s.length - 4)) _ _ (by omega) (hD.take _) (by omega) (by simp; omega) (by omega), readL_cons h0, List.append_assoc]
      rfl
theorem fromF_eq {s : List UInt8} (hs : Digs s) (hl : s.length ≤ 64) (k : Nat) (hk : 800 ≤ k) : spec_l1FromFigures.f k (str s) = some (rep (dval s : Int)) := by
  unfold spec_l1FromFigures.f
  rw [fromF_l0 s.length s [] k (Nat.le_refl _) hs hl (by simp; omega) (by omega), List.nil_append]
  obtain ⟨d1, d2, _⟩ := readL_ok s.length s (Nat.le_refl _) hs
  rw [trimL_rep d1, d2]
theorem ten64 : ((10 ^ 64 : Nat) : Int) = pw 16 := by decide
theorem textL_of {n : Bool} {l : List Int} (h : BOk n l) : textL l = decDigits (val l).toNat := textL_eq l h.2.1 h.2.2.1
theorem val_of_ok {n : Bool} {l : List Int} (h : BOk n l) : 0 ≤ val l ∧ val l < pw 16 := ⟨val_nonneg h.2.1, Int.lt_of_lt_of_le (val_lt h.2.1) (pw_mono h.1)⟩
theorem sign_parts (s : List UInt8) : ∃ (g : Bool) (d : List UInt8), s = (if g = true then 45 :: d else d) ∧ (g = false → d.head? ≠ some 45) ∧ trimPrefix s [45] = d ∧ hasPrefix s [45] = g := by
  cases s with
  | nil => exact ⟨false, [], rfl, fun _ => by simp, rfl, rfl⟩
  | cons b r =>
    by_cases h : b = 45
    · subst h
      exact ⟨true, r, rfl, (fun h => absurd h (by decide)), (by unfold trimPrefix hasPrefix; simp), (by unfold hasPrefix; simp)⟩
    · have hp : hasPrefix (b :: r) [45] = false := by
        unfold hasPrefix
        rw [List.isPrefixOf_cons_cons, beq_eq_false_iff_ne.2 (fun e => h e.symm), Bool.false_and]
      exact ⟨false, b :: r, rfl, fun _ e => h (Option.some.inj e), by unfold trimPrefix; rw [hp]; rfl, hp⟩
theorem dval_64 {d : List UInt8} (hd : Digs d) (hl : d.length ≤ 64) : (dval d : Int) < pw 16 := by
  have h := dval_lt hd
  have h2 : 10 ^ d.length ≤ 10 ^ 64 := Nat.pow_le_pow_right (by decide) hl
  have := ten64
  omega
theorem bigv_rep (g : Bool) {v : Int} (h : 0 ≤ v) : bigv g (rep v) = if g = true then -v else v := by unfold bigv; rw [rep_val h]
theorem bigR_yes {x : Int} (h1 : -pw 16 < x) (h2 : x < pw 16) : bigR x = (mkN x, mkL x, true) := by unfold bigR; rw [if_pos ⟨h1, h2⟩]
end Go.Proofs.YtdbgpoileffbeaaGreatDoor.Str
end
section
namespace Go.Proofs.YtdbgpoileffbeaaGreatDoor.Str
open Go.Lib Go.RowKit Go.Proofs.YtdbgpoileffbeaaGreatDoor.Dec Go.Proofs.YtdbgpoileffbeaaGreatDoor.Jt Go.Proofs.YtdbgpoileffbeaaGreatDoor.Val Go.Proofs.YtdbgpoileffbeaaGreatDoor.Pr Go.Proofs.YtdbgpoileffbeaaGreatDoor.Ext Go.Proofs.YtdbgpoileffbeaaGreatDoorW.PrintWords Go.Proofs.YtdbgpoileffbeaaGreatDoorW.PrintLast Go.Proofs.YtdbgpoileffbeaaGreatDoorW.PrintMore
set_option linter.unusedVariables false
set_option linter.unusedSimpArgs false
theorem occ_one (l : List UInt8) (c : UInt8) (i : Nat) : occAt l [c] i = true ↔ l[i]? = some c := by
  unfold occAt
  rw [List.isPrefixOf_iff_prefix]
  constructor
  · rintro ⟨t, ht⟩
    have : (l.drop i)[0]? = some c := by rw [← ht]; rfl
    rwa [List.getElem?_drop, Nat.add_zero] at this
  · intro h
    obtain ⟨hi, he⟩ := List.getElem?_eq_some_iff.1 h
    rw [List.drop_eq_getElem_cons hi, he]
    exact ⟨_, rfl⟩
theorem cut_at {a r : List UInt8} {c : UInt8} (h : c ∉ a) : Lib.cut (a ++ c :: r) [c] = (a, r, true) := by
  have hi : index (a ++ c :: r) [c] = (a.length : Nat) := by
    refine index_hit (fun j hj => ?_) (by simp) ?_
    · apply Bool.eq_false_iff.2
      intro ho
      rw [occ_one, List.getElem?_append_left hj] at ho
      exact h (List.mem_of_getElem? ho)
    · rw [occ_one, List.getElem?_append_right (Nat.le_refl _), Nat.sub_self]; rfl
  unfold Lib.cut
  rw [hi, if_pos (by omega)]
  simp
theorem cut_lens (l c : List UInt8) : (Lib.cut l c).1.length ≤ l.length ∧ (Lib.cut l c).2.1.length ≤ l.length := by
  unfold Lib.cut
  split
  · simp only [List.length_take, List.length_drop]; omega
  · simp
theorem cut_none {a : List UInt8} {c : UInt8} (h : c ∉ a) : Lib.cut a [c] = (a, [], false) := by
  have hi : index a [c] = -1 := by
    refine index_none (fun j hj => ?_)
    apply Bool.eq_false_iff.2
    intro ho
    rw [occ_one] at ho
    exact h (List.mem_of_getElem? ho)
  unfold Lib.cut
  rw [hi, if_neg (by decide)]
theorem decB_ok {n : Bool} {l : List Int} {s : Int} (h : decB n l s = true) : BOk n l ∧ 0 ≤ s ∧ s ≤ 12 ∧ (textL l).length ≤ 30 := by
  unfold decB at h
  simp only [Bool.and_eq_true, decide_eq_true_eq] at h
  obtain ⟨ho, hd, s0, s1⟩ := h
  refine ⟨(okB_iff n l).1 ho, s0, s1, ?_⟩
  unfold digN at hd
  by_cases h0 : (l.length : Int) = 0
  · obtain rfl : l = [] := List.eq_nil_of_length_eq_zero (by omega)
    decide
  · rw [if_neg h0] at hd; omega
theorem decT_parts {n : Bool} {l : List Int} {s : Int} (h : decB n l s = true) : ∃ w f : List UInt8, decT n l s = (if n = true then 45 :: (w ++ (if 0 < s then 46 :: f else [])) else (w ++ (if 0 < s then 46 :: f else []))) ∧ Digs w ∧ w ≠ [] ∧ Digs f ∧ (f.length : Int) = s ∧ w.length + f.length ≤ 40 ∧ dval (w ++ f) = (val l).toNat := by
  obtain ⟨ho, s0, s1, ht⟩ := decB_ok h
  have hv : dval (textL l) = (val l).toNat := by rw [textL_of ho, decDigits_dval]
  have hp : 0 < (textL l).length := List.length_pos_iff.2 (textL_ne l)
  unfold decT
  by_cases hs : 0 < s
  · have hzl : (zerosL (s.toNat + 1 - (textL l).length) ++ textL l).length = s.toNat + 1 - (textL l).length + (textL l).length := by rw [List.length_append, zerosL_len]
    have hzD : Digs (zerosL (s.toNat + 1 - (textL l).length) ++ textL l) := (zerosL_digs _).append (textL_digs l)
    have hzv : dval (zerosL (s.toNat + 1 - (textL l).length) ++ textL l) = (val l).toNat := by rw [dval_append, zerosL_dval, hv]; omega
    generalize zerosL (s.toNat + 1 - (textL l).length) ++ textL l = z at *
    refine ⟨z.take (z.length - s.toNat), z.drop (z.length - s.toNat), ?_, hzD.take _, ?_, hzD.drop _, ?_, ?_, ?_⟩
    · rw [if_pos hs]
      unfold pointT
      cases n <;> simp [hs]
    · intro e
      have := congrArg List.length e
      rw [List.length_take, List.length_nil] at this
      omega
    · rw [List.length_drop]; omega
    · rw [List.length_drop, List.length_take]; omega
    · rw [List.take_append_drop]; exact hzv
  · refine ⟨textL l, [], ?_, textL_digs l, textL_ne l, Digs.nil, by simp; omega, by simp; omega, by rw [List.append_nil]; exact hv⟩
    rw [if_neg hs, if_neg hs, List.append_nil]
    unfold bigT
    rfl
theorem digs_no46 {l : List UInt8} (h : Digs l) : (46 : UInt8) ∉ l := fun hm => absurd (h 46 hm) (by decide)
theorem implDecGet_put {n : Bool} {l : List Int} {s : Int} (h : decB n l s = true) (k : Nat) (hk : 2100 ≤ k) : impl_DecGet.f k (str (decT n l s)) = some (n, l, s, true) := by
  obtain ⟨ho, s0, s1, ht⟩ := decB_ok h
  obtain ⟨w, f, e, hw, hw0, hf, hfl, hlen, hv⟩ := decT_parts h
  obtain ⟨v0, v1⟩ := val_of_ok ho
  obtain ⟨k, rfl⟩ : ∃ j, k = j + 1 := ⟨k - 1, by omega⟩
  have hD : Digs (w ++ f) := hw.append hf
  have hne : w ++ f ≠ [] := fun e => hw0 (List.append_eq_nil_iff.1 e).1
  have hhead : (w ++ (if 0 < s then 46 :: f else [])).head? ≠ some 45 := by
    cases w with
    | nil => exact absurd rfl hw0
    | cons b r =>
      intro e
      have : b = 45 := Option.some.inj e
      subst this
      exact absurd hw.head (by decide)
  have hcut : lib_CutPrefix.f (str (decT n l s)) (⟨#[45]⟩ : ByteArray) = some (str (w ++ (if 0 < s then 46 :: f else [])), n) := by
    obtain ⟨g, d, es, hg, tp, hp⟩ := sign_parts (decT n l s)
    have hgd : g = n ∧ d = w ++ (if 0 < s then 46 :: f else []) := by
      rw [e] at es
      clear tp hp e
      generalize (w ++ (if 0 < s then 46 :: f else [])) = tl at es hhead ⊢
      cases g <;> cases n
      · exact ⟨rfl, by simpa using es.symm⟩
      · rw [if_pos rfl, if_neg (by decide)] at es
        exact absurd (by rw [← es]; rfl) (hg rfl)
      · rw [if_neg (by decide), if_pos rfl] at es
        exact absurd (by rw [es]; rfl) hhead
      · rw [if_pos rfl, if_pos rfl] at es
        exact ⟨rfl, (List.cons.inj es).2.symm⟩
    unfold lib_CutPrefix.f
    rw [show (⟨#[45]⟩ : ByteArray) = str [45] from rfl, str_data, str_data, tp, hp, hgd.1, hgd.2]
    rfl
  have hcut2 : ∃ b, lib_Cut.f (str (w ++ (if 0 < s then 46 :: f else []))) (⟨#[46]⟩ : ByteArray) = some (str w, str f, b) := by
    unfold lib_Cut.f
    rw [show (⟨#[46]⟩ : ByteArray) = str [46] from rfl, str_data, str_data]
    by_cases hs : 0 < s
    · rw [if_pos hs, if_pos (by rw [str_size, List.length_append, List.length_cons]; omega), cut_at (digs_no46 hw)]
      exact ⟨_, rfl⟩
    · have hf0 : f = [] := List.eq_nil_of_length_eq_zero (by omega)
      rw [if_neg hs, List.append_nil, if_pos (by rw [str_size]; omega), cut_none (digs_no46 hw), hf0]
      exact ⟨_, rfl⟩
  obtain ⟨b, hc2⟩ := hcut2
  have hx : bigv n (rep (dval (w ++ f) : Int)) = bigv n l := by
    rw [bigv_rep n (by omega), hv, Int.toNat_of_nonneg v0]; rfl
  unfold impl_DecGet.f
  rw [hcut]; simp only [Str.bS]
  rw [hc2]; simp only [Str.bS]
  rw [str_size, str_size, if_pos (by omega), str_append, isDigits_eq _ (by rw [List.length_append]; omega) _ (by rw [List.length_append]; omega), decide_eq_true ⟨hD, hne⟩]; simp only [Str.bS]
  rw [if_pos trivial, impl_DecGet.j0, str_size, if_neg (by rw [List.length_append]; simp; omega), readLimbs_eq hD (by rw [List.length_append]; omega) k (by omega)]; simp only [Str.bS]
  have hr := bigR_ok ho
  rw [big_ge (rep_dig _) (by have := rep_len_le (v := (dval (w ++ f) : Int)) (n := 16) (by omega) (by omega); omega) n k (by omega), hx, hr]; simp only [Str.bS]
  rw [if_pos trivial, str_size, hfl, implDecOk, h]; simp only [Str.bS]
  rw [if_pos trivial, implDecPut, if_pos h]; simp only [Str.bS]
  rw [if_pos trivial]
end Go.Proofs.YtdbgpoileffbeaaGreatDoor.Str
end
section
namespace Go.Proofs.YtdbgpoileffbeaaGreatDoor.Str
open Go.Lib Go.RowKit Go.Proofs.YtdbgpoileffbeaaGreatDoor.Dec Go.Proofs.YtdbgpoileffbeaaGreatDoor.Jt Go.Proofs.YtdbgpoileffbeaaGreatDoor.Val Go.Proofs.YtdbgpoileffbeaaGreatDoor.Pr Go.Proofs.YtdbgpoileffbeaaGreatDoor.Ext Go.Proofs.YtdbgpoileffbeaaGreatDoorW.PrintWords Go.Proofs.YtdbgpoileffbeaaGreatDoorW.PrintLast Go.Proofs.YtdbgpoileffbeaaGreatDoorW.PrintMore
set_option linter.unusedVariables false
set_option linter.unusedSimpArgs false
theorem readLimbs120_l0 {s : List UInt8} (hs : Digs s) (hl : s.length ≤ 120) : ∀ (d k m : Nat) (acc : List Int), m ≤ s.length → m ≤ d → 2 * d + acc.length + 200 ≤ k → acc.length + d ≤ 250 → impl_readLimbs.l0 k (str s) acc (m : Int) = some (trimL (acc ++ readL (s.take m))) := by
  intro d
  induction d with
  | zero =>
    intro k m acc hm hd hk ha
    obtain rfl : m = 0 := by omega
    obtain ⟨k, rfl⟩ : ∃ j, k = j + 1 := ⟨k - 1, by omega⟩
    rw [impl_readLimbs.l0, if_neg (by omega), List.take_zero, readL_nil, List.append_nil, iTrim_ge acc (by omega) k (by omega)]
    rfl
  | succ d ih =>
    intro k m acc hm hd hk ha
    by_cases h0 : m = 0
    · subst h0
      obtain ⟨k, rfl⟩ : ∃ j, k = j + 1 := ⟨k - 1, by omega⟩
      rw [impl_readLimbs.l0, if_neg (by omega), List.take_zero, readL_nil, List.append_nil, iTrim_ge acc (by omega) k (by omega)]
      rfl
    · obtain ⟨k, rfl⟩ : ∃ j, k = j + 1 := ⟨k - 1, by omega⟩
      have e : mx 0 ((m : Int) - 4) = ((m - 4 : Nat) : Int) := by unfold mx; split <;> omega
      rw [impl_readLimbs.l0, if_pos (by omega), Str.w64 (by omega) (by omega), e, if_pos (by omega), if_pos (by omega), str_size, if_pos (by omega), str_extract, Int.toNat_natCast, Int.toNat_natCast]
      have ec : (s.drop (m - 4)).take (m - (m - 4)) = (s.take m).drop (m - 4) := by rw [List.drop_take]
      have hD : Digs ((s.take m).drop (m - 4)) := (hs.take _).drop _
      have hcl : ((s.take m).drop (m - 4)).length = m - (m - 4) := by rw [List.length_drop, List.length_take]; omega
      have ha2 : lib_Atoi.f (str ((s.take m).drop (m - 4))) = some ((dval ((s.take m).drop (m - 4)) : Int), true) := by
        unfold lib_Atoi.f atoiV
        rw [if_pos (by rw [str_size]; omega), str_data, atoiAll_digs hD (by intro e; rw [e] at hcl; simp at hcl; omega) (by omega)]
      rw [ec, ha2]; simp only [Str.bS]
      rw [if_pos (by omega)]
      by_cases h4 : 4 ≤ m
      · rw [show ((m : Int) - 4) = ((m - 4 : Nat) : Int) by omega, ih k (m - 4) _ (by omega) (by omega) (by simp; omega) (by simp; omega), readL_split (by omega) hm, List.append_assoc]
        rfl
      · obtain ⟨k, rfl⟩ : ∃ j, k = j + 1 := ⟨k - 1, by omega⟩
        rw [impl_readLimbs.l0, if_neg (by omega), iTrim_ge _ (by simp; omega) k (by simp; omega), readL_split (by omega) hm, show m - 4 = 0 by omega, List.take_zero, readL_nil]
        rfl
theorem readLimbs120 {s : List UInt8} (hs : Digs s) (hl : s.length ≤ 120) (k : Nat) (hk : 600 ≤ k) : impl_readLimbs.f k (str s) = some (rep (dval s : Int)) := by
  unfold impl_readLimbs.f
  rw [str_size, readLimbs120_l0 hs hl s.length k s.length [] (Nat.le_refl _) (Nat.le_refl _) (by simp; omega) (by simp; omega), List.nil_append, List.take_length]
  obtain ⟨d1, d2, _⟩ := readL_ok s.length s (Nat.le_refl _) hs
  rw [trimL_rep d1, d2]
def IsDec (s : List UInt8) (n : Bool) (l : List Int) (c : Int) : Prop := decB n l c = true ∧ s = decT n l c
def ToldDec (s : List UInt8) (r : Bool × List Int × Int × Bool) : Prop := (r.2.2.2 = true ∧ IsDec s r.1 r.2.1 r.2.2.1) ∨ (r = (false, [], 0, false) ∧ ∀ n l c, ¬ IsDec s n l c)
theorem IsDec.uniq {s : List UInt8} {n n' : Bool} {l l' : List Int} {c c' : Int} (h : IsDec s n l c) (h' : IsDec s n' l' c') : n = n' ∧ l = l' ∧ c = c' := by
  have a := implDecGet_put h.1 2100 (Nat.le_refl _)
  have b := implDecGet_put h'.1 2100 (Nat.le_refl _)
  rw [← h.2] at a
  rw [← h'.2, a] at b
  have e := Option.some.inj b
  have e1 := Prod.mk.inj e
  have e2 := Prod.mk.inj e1.2
  exact ⟨e1.1, e2.1, (Prod.mk.inj e2.2).1⟩
theorem ToldDec.uniq {s : List UInt8} {r r' : Bool × List Int × Int × Bool} (h : ToldDec s r) (h' : ToldDec s r') : r = r' := by
  obtain ⟨a, b, x, c⟩ := r
  obtain ⟨a', b', x', c'⟩ := r'
  rcases h with ⟨h1, h2⟩ | ⟨h1, h2⟩ <;> rcases h' with ⟨h1', h2'⟩ | ⟨h1', h2'⟩
  · obtain ⟨e1, e2, e3⟩ := h2.uniq h2'
    simp only at *
    rw [e1, e2, e3, h1, h1']
  · exact absurd h2 (h2' _ _ _)
  · exact absurd h2' (h2 _ _ _)
  · rw [h1, h1']
theorem implDecGet (s : List UInt8) (hs : s.length ≤ 2000000000) : ∃ r, (∀ k, s.length + s.length + 4000 ≤ k → impl_DecGet.f k (str s) = some r) ∧ ToldDec s r := by
  by_cases hy : ∃ n l c, IsDec s n l c
  · obtain ⟨n, l, c, h⟩ := hy
    refine ⟨(n, l, c, true), fun k hk => ?_, .inl ⟨rfl, h⟩⟩
    rw [h.2]
    exact implDecGet_put h.1 k (by omega)
  · have no : ∀ n l c, ¬ IsDec s n l c := fun n l c h => hy ⟨n, l, c, h⟩
    refine ⟨(false, [], 0, false), fun k hk => ?_, .inr ⟨rfl, no⟩⟩
    obtain ⟨k, rfl⟩ : ∃ j, k = j + 1 := ⟨k - 1, by omega⟩
    obtain ⟨g, d, es, hg, tp, hp⟩ := sign_parts s
    have hdl : d.length ≤ s.length := by rw [es]; split <;> simp
    have hcut : lib_CutPrefix.f (str s) (⟨#[45]⟩ : ByteArray) = some (str d, g) := by
      unfold lib_CutPrefix.f
      rw [show (⟨#[45]⟩ : ByteArray) = str [45] from rfl, str_data, str_data, tp, hp]
      rfl
    have cl := cut_lens d [46]
    obtain ⟨w, f, b, hc2, hwl, hfl⟩ : ∃ w f b, lib_Cut.f (str d) (⟨#[46]⟩ : ByteArray) = some (str w, str f, b) ∧ w.length ≤ d.length ∧ f.length ≤ d.length := by
      unfold lib_Cut.f
      rw [show (⟨#[46]⟩ : ByteArray) = str [46] from rfl, str_data, str_data, if_pos (by rw [str_size]; omega)]
      exact ⟨_, _, _, rfl, cl.1, cl.2⟩
    unfold impl_DecGet.f
    rw [hcut]; simp only [Str.bS]
    rw [hc2]; simp only [Str.bS]
    rw [str_size, str_size, if_pos (by omega), str_append, isDigits_eq _ (by rw [List.length_append]; omega) _ (by rw [List.length_append]; omega)]; simp only [Str.bS]
    by_cases hD : Digs (w ++ f) ∧ w ++ f ≠ []
    · rw [decide_eq_true hD, if_pos rfl, impl_DecGet.j0, str_size]
      by_cases hl : ((w ++ f).length : Int) > 120
      · rw [if_pos (decide_eq_true hl)]
      · rw [if_neg (by simpa using hl), readLimbs120 hD.1 (by omega) k (by omega)]; simp only [Str.bS]
        have hv := dval_lt hD.1
        have h120 : 10 ^ (w ++ f).length ≤ 10 ^ 120 := Nat.pow_le_pow_right (by decide) (by omega)
        have hpw : ((10 ^ 120 : Nat) : Int) = pw 30 := by decide
        have hrl : (rep (dval (w ++ f) : Int)).length ≤ 30 := rep_len_le (by omega) (by omega)
        rw [big_ge (rep_dig _) (by omega) g k (by omega)]; simp only [Str.bS]
        by_cases hb : -pw 16 < bigv g (rep (dval (w ++ f) : Int)) ∧ bigv g (rep (dval (w ++ f) : Int)) < pw 16
        · rw [bigR_yes hb.1 hb.2]; simp only [Str.bS]
          rw [if_pos trivial, str_size, implDecOk]; simp only [Str.bS]
          by_cases hdb : decB (mkN (bigv g (rep (dval (w ++ f) : Int)))) (mkL (bigv g (rep (dval (w ++ f) : Int)))) (f.length : Int) = true
          · rw [if_pos hdb, implDecPut, if_pos hdb]; simp only [Str.bS]
            rw [str_toList, str_toList, if_neg (fun e => no _ _ _ ⟨hdb, e.symm⟩)]
          · rw [if_neg hdb]
        · have hbr : bigR (bigv g (rep (dval (w ++ f) : Int))) = (false, [], false) := by unfold bigR; rw [if_neg hb]
          rw [hbr]; simp only [Str.bS]
          rw [if_neg (by decide)]
    · rw [decide_eq_false hD, if_neg (by decide), impl_DecGet.j0, if_pos rfl]
end Go.Proofs.YtdbgpoileffbeaaGreatDoor.Str
end
section
namespace Go.Proofs.YtdbgpoileffbeaaGreatDoor.Str
open Go.Lib Go.RowKit Go.Proofs.YtdbgpoileffbeaaGreatDoor.Dec Go.Proofs.YtdbgpoileffbeaaGreatDoor.Jt Go.Proofs.YtdbgpoileffbeaaGreatDoor.Val Go.Proofs.YtdbgpoileffbeaaGreatDoor.Pr Go.Proofs.YtdbgpoileffbeaaGreatDoor.Ext Go.Proofs.YtdbgpoileffbeaaGreatDoorW.PrintWords Go.Proofs.YtdbgpoileffbeaaGreatDoorW.PrintLast Go.Proofs.YtdbgpoileffbeaaGreatDoorW.PrintMore
set_option linter.unusedVariables false
set_option linter.unusedSimpArgs false
theorem bt45 {b : UInt8} {r : List UInt8} : ((bt (str (b :: r)) 0) == 45) = decide (b = 45) := by
  rw [str_btD _ (by omega) (by simp)]
  have hb := UInt8.toNat_lt b
  by_cases h : b = 45
  · subst h; rfl
  · rw [decide_eq_false h, beq_eq_false_iff_ne]
    intro e
    have e' : ((b.toNat : Nat) : Int) = 45 := e
    exact h (UInt8.toNat_inj.1 (show b.toNat = (45 : UInt8).toNat by have : (45 : UInt8).toNat = 45 := rfl; omega))
theorem l2_to_j1 (s : List UInt8) {g : Bool} {d : List UInt8} (es : s = if g = true then 45 :: d else d) (hg : g = false → d.head? ≠ some 45) (k : Nat) : spec_l2Get.f (k + 1) (str s) = spec_l2Get.j1 k (str d) g := by
  unfold spec_l2Get.f
  rw [str_size]
  cases g
  · rw [if_neg (by decide)] at es
    subst es
    cases s with
    | nil => rw [if_neg (by simp), spec_l2Get.j0, if_neg (by decide)]
    | cons b r =>
      have hb : b ≠ 45 := fun e => hg rfl (by rw [e]; rfl)
      rw [if_pos (by simp), if_pos (by simp), bt45, decide_eq_false hb, spec_l2Get.j0, if_neg (by decide)]
  · rw [if_pos rfl] at es
    subst es
    rw [if_pos (by simp), if_pos (by simp), bt45, decide_eq_true rfl, spec_l2Get.j0, if_pos rfl, str_size, if_pos (by simp; omega), str_extract]
    simp
theorem bt46' {l : List UInt8} {i : Nat} (h : i < l.length) : (bt (str l) (i : Int) = 46) ↔ l[i]? = some 46 := by
  rw [str_btD l (by omega) (by omega), Int.toNat_natCast, getD_get h, Option.some.injEq]
  constructor
  · intro e; exact UInt8.toNat_inj.1 (show (l.getD i 0).toNat = (46 : UInt8).toNat by have : (46 : UInt8).toNat = 46 := rfl; omega)
  · intro e; rw [e]; rfl
theorem dot_skip (d : List UInt8) (hd : d.length ≤ 2000000000) : ∀ (m k i : Nat), i + m ≤ d.length → (∀ j, i ≤ j → j < i + m → d[j]? ≠ some 46) → spec_l2Dot.l0 (k + m) (str d) (i : Int) = spec_l2Dot.l0 k (str d) ((i + m : Nat) : Int) := by
  intro m
  induction m with
  | zero => intro k i hi hj; rfl
  | succ m ih =>
    intro k i hi hj
    rw [show k + (m + 1) = (k + m) + 1 by omega, spec_l2Dot.l0, str_size, if_pos (by omega), if_pos (by omega), if_neg (fun e => hj i (Nat.le_refl _) (by omega) ((bt46' (by omega)).1 e)), Str.w64 (by omega) (by omega), show ((i : Int) + 1) = ((i + 1 : Nat) : Int) by omega, ih k (i + 1) (by omega) (fun j h1 h2 => hj j (by omega) (by omega)), show i + 1 + m = i + (m + 1) by omega]
theorem dot_hit {w f : List UInt8} (hw : (46 : UInt8) ∉ w) (hd : (w ++ 46 :: f).length ≤ 2000000000) (k : Nat) (hk : w.length + 1 ≤ k) : spec_l2Dot.f k (str (w ++ 46 :: f)) = some (w.length : Int) := by
  unfold spec_l2Dot.f
  obtain ⟨k, rfl⟩ : ∃ j, k = (j + 1) + w.length := ⟨k - w.length - 1, by omega⟩
  have := dot_skip (w ++ 46 :: f) hd w.length (k + 1) 0 (by rw [List.length_append]; omega) (fun j _ hj e => by
    rw [List.getElem?_append_left (by omega)] at e
    exact hw (List.mem_of_getElem? e))
  refine Eq.trans this ?_
  rw [Nat.zero_add, spec_l2Dot.l0, str_size, if_pos (by rw [List.length_append, List.length_cons]; omega), if_pos (by omega), if_pos ((bt46' (by rw [List.length_append, List.length_cons]; omega)).2 (by rw [List.getElem?_append_right (Nat.le_refl _), Nat.sub_self]; rfl))]
theorem dot_miss {d : List UInt8} (h : (46 : UInt8) ∉ d) (hd : d.length ≤ 2000000000) (k : Nat) (hk : d.length + 1 ≤ k) : spec_l2Dot.f k (str d) = some (d.length : Int) := by
  unfold spec_l2Dot.f
  obtain ⟨k, rfl⟩ : ∃ j, k = (j + 1) + d.length := ⟨k - d.length - 1, by omega⟩
  have := dot_skip d hd d.length (k + 1) 0 (by omega) (fun j _ hj e => h (List.mem_of_getElem? e))
  refine Eq.trans this ?_
  rw [Nat.zero_add, spec_l2Dot.l0, str_size, if_neg (by omega)]
theorem canon_app {w f : List UInt8} (hw : Canon w) (hf : f ≠ [] → w ≠ [48]) (hd : Digs w) : Canon (w ++ f) := by
  by_cases h : f = []
  · subst h; rw [List.append_nil]; exact hw
  · have hfl := List.length_pos_iff.2 h
    have hw0 : 0 < w.length := by rcases hw with c | ⟨c, _⟩ <;> omega
    right
    refine ⟨by rw [List.length_append]; omega, ?_⟩
    have e : (w ++ f).head? = w.head? := by
      cases w with
      | nil => simp at hw0
      | cons b r => rfl
    rw [e]
    rcases hw with c | ⟨_, c⟩
    · intro e2
      match w, c with
      | [b], _ => exact hf h (by rw [Option.some.inj e2])
    · exact c
theorem padded_eq {w f : List UInt8} (hw : Digs w) (hc : Canon w) (hf : Digs f) : zerosL (f.length + 1 - (decDigits (dval (w ++ f))).length) ++ decDigits (dval (w ++ f)) = w ++ f := by
  have hD : Digs (w ++ f) := hw.append hf
  by_cases h : f ≠ [] ∧ w = [48]
  · have hl : (w ++ f).length = f.length + 1 := by rw [h.2, List.length_append]; simp; omega
    have := padL_of hD (by omega)
    unfold padL at this
    rw [hl] at this
    exact this
  · have hcw : Canon (w ++ f) := canon_app hc (fun hf' hw' => h ⟨hf', hw'⟩) hw
    rw [decDigits_of hD hcw]
    have hw0 : 0 < w.length := by rcases hc with c | ⟨c, _⟩ <;> omega
    rw [show f.length + 1 - (w ++ f).length = 0 by rw [List.length_append]; omega]
    rfl
theorem dec_text {w f : List UInt8} (hw : Digs w) (hc : Canon w) (hf : Digs f) (g : Bool) : decT g (rep (dval (w ++ f) : Int)) (f.length : Int) = (if g = true then 45 :: (w ++ (if f = [] then [] else 46 :: f)) else (w ++ (if f = [] then [] else 46 :: f))) := by
  have ht : textL (rep (dval (w ++ f) : Int)) = decDigits (dval (w ++ f)) := by rw [textL_eq _ (rep_dig _) (rep_nz _), rep_val (by omega), Int.toNat_natCast]
  unfold decT
  rw [ht]
  by_cases h : f = []
  · subst h
    rw [List.append_nil] at ht
    rw [if_neg (by simp), if_pos rfl, List.append_nil]
    unfold bigT
    rw [ht, decDigits_of hw hc]
  · have hfl := List.length_pos_iff.2 h
    rw [if_pos (by omega), if_neg h, Int.toNat_natCast, padded_eq hw hc hf]
    unfold pointT
    rw [Int.toNat_natCast, show (w ++ f).length - f.length = w.length by rw [List.length_append]; omega, List.take_left, List.drop_left]
    cases g <;> simp
theorem l2_l0 (g : Bool) (w : List UInt8) {f : List UInt8} (hf12 : f.length ≤ 12) (R : Option (Bool × List Int × Int × Bool)) (hR : ∀ K, 1200 ≤ K → Digs f → spec_l2Get.l0 (K + 1) g (str w) (str f) (f.length : Int) = R) : ∀ (d k i : Nat), i + d = f.length → 1300 + d ≤ k → Digs (f.take i) →
    spec_l2Get.l0 k g (str w) (str f) (i : Int) = if Digs f then R else some (false, [], 0, false) := by
  intro d
  induction d with
  | zero =>
    intro k i hi hk hD
    obtain ⟨k, rfl⟩ : ∃ j, k = j + 1 := ⟨k - 1, by omega⟩
    have e : i = f.length := by omega
    rw [e, List.take_length] at hD
    rw [if_pos hD, e]
    exact hR k (by omega) hD
  | succ d ih =>
    intro k i hi hk hD
    obtain ⟨k, rfl⟩ : ∃ j, k = j + 1 := ⟨k - 1, by omega⟩
    have bad : ¬ IsD (f.getD i 0) → ¬ Digs f := fun h hn => h (hn.get (getD_get (by omega)))
    rw [spec_l2Get.l0, str_size, if_pos (by omega), if_pos (by omega), str_btD f (by omega) (by omega), Int.toNat_natCast]
    by_cases h1 : ((f.getD i 0).toNat : Int) < 48
    · rw [if_pos h1, if_neg (bad (by unfold IsD; omega))]
    · rw [if_neg h1]
      by_cases h2 : ((f.getD i 0).toNat : Int) > 57
      · rw [if_pos h2, if_neg (bad (by unfold IsD; omega))]
      · rw [if_neg h2, Str.w64 (by omega) (by omega), show ((i : Int) + 1) = ((i + 1 : Nat) : Int) by omega]
        exact ih k (i + 1) (by omega) (by omega) (digs_take (by omega) hD (by unfold IsD; omega))
def Good (g : Bool) (w f : List UInt8) : Prop := Digs w ∧ Canon w ∧ Digs f ∧ decB g (rep (dval (w ++ f) : Int)) (f.length : Int) = true
instance (g : Bool) (w f : List UInt8) : Decidable (Good g w f) := inferInstanceAs (Decidable (_ ∧ _ ∧ _ ∧ _))
theorem good_len {g : Bool} {w f : List UInt8} (h : Good g w f) : w.length ≤ 30 ∧ f.length ≤ 12 := by
  obtain ⟨hw, hc, hf, hd⟩ := h
  obtain ⟨ho, s0, s1, ht⟩ := decB_ok hd
  refine ⟨?_, by omega⟩
  have e : textL (rep (dval (w ++ f) : Int)) = decDigits (dval (w ++ f)) := by rw [textL_eq _ (rep_dig _) (rep_nz _), rep_val (by omega), Int.toNat_natCast]
  rw [e] at ht
  have hp := congrArg List.length (padded_eq hw hc hf)
  rw [List.length_append, zerosL_len, List.length_append] at hp
  have := decDigits_len_pos (dval (w ++ f))
  omega
theorem l2_j2 (g : Bool) (w f : List UInt8) (hw : w.length ≤ 2000000000) (hf : f.length ≤ 2000000000) (k : Nat) (hk : w.length + 1400 ≤ k) :
    spec_l2Get.j2 k g (str w) (str f) = some (if Good g w f then (g, rep (dval (w ++ f) : Int), (f.length : Int), true) else (false, [], 0, false)) := by
  obtain ⟨k, rfl⟩ : ∃ j, k = j + 2 := ⟨k - 2, by omega⟩
  rw [spec_l2Get.j2, isFigures_eq w (by omega) _ (by omega)]; simp only [Str.bS]
  by_cases hD : Digs w ∧ Canon w
  · rw [decide_eq_true hD, if_pos rfl, str_size]
    by_cases h30 : (w.length : Int) > 30
    · rw [if_pos h30, spec_l2Get.j3, if_pos rfl, if_neg (fun h => by have := (good_len h).1; omega)]
    · rw [if_neg h30, str_size]
      by_cases h12 : (f.length : Int) > 12
      · rw [decide_eq_true h12, spec_l2Get.j3, if_pos rfl, if_neg (fun h => by have := (good_len h).2; omega)]
      · rw [decide_eq_false h12, spec_l2Get.j3, if_neg (by decide)]
        show spec_l2Get.l0 k g (str w) (str f) ((0 : Nat) : Int) = _
        rw [l2_l0 g w (f := f) (by omega) (some (if Good g w f then (g, rep (dval (w ++ f) : Int), (f.length : Int), true) else (false, [], 0, false))) (fun K hK hf' => by
          rw [spec_l2Get.l0, str_size, if_neg (by omega), str_size, if_pos (by omega), str_append, fromF_eq (hD.1.append hf') (by rw [List.length_append]; omega) K (by omega)]; simp only [Str.bS]
          rw [specL2Ok _ _ _ _ (by omega)]; simp only [Str.bS]
          have hG : Good g w f ↔ decB g (rep (dval (w ++ f) : Int)) (f.length : Int) = true := ⟨fun h => h.2.2.2, fun h => ⟨hD.1, hD.2, hf', h⟩⟩
          by_cases hdb : decB g (rep (dval (w ++ f) : Int)) (f.length : Int) = true
          · rw [if_pos (hG.2 hdb), hdb]
            have ho := (decB_ok hdb).1
            cases g
            · rw [if_neg (by decide), if_pos rfl]
            · rw [if_pos rfl, if_neg (by have := ho.2.2.2 rfl; omega), if_pos rfl]
          · rw [if_neg (fun h => hdb (hG.1 h)), Bool.eq_false_iff.2 hdb]
            cases g
            · rw [if_neg (by decide), if_neg (by decide)]
            · rw [if_pos rfl]
              split
              · rfl
              · rw [if_neg (by decide)]) f.length k 0 (by omega) (by omega) (by rw [List.take_zero]; exact Digs.nil)]
        by_cases hf' : Digs f
        · rw [if_pos hf']
        · rw [if_neg hf', if_neg (fun h => hf' h.2.2.1)]
  · rw [decide_eq_false hD, if_neg (by decide), spec_l2Get.j3, if_pos rfl, if_neg (fun h => hD ⟨h.1, h.2.1⟩)]
theorem decT_parts2 {n : Bool} {l : List Int} {s : Int} (h : decB n l s = true) : ∃ w f : List UInt8, decT n l s = (if n = true then 45 :: (w ++ (if 0 < s then 46 :: f else [])) else (w ++ (if 0 < s then 46 :: f else []))) ∧ Digs w ∧ w ≠ [] ∧ Digs f ∧ (f.length : Int) = s ∧ w.length + f.length ≤ 40 ∧ dval (w ++ f) = (val l).toNat ∧ Canon w := by
  obtain ⟨ho, s0, s1, ht⟩ := decB_ok h
  have hv : dval (textL l) = (val l).toNat := by rw [textL_of ho, decDigits_dval]
  have hp : 0 < (textL l).length := List.length_pos_iff.2 (textL_ne l)
  unfold decT
  by_cases hs : 0 < s
  · have hzl : (zerosL (s.toNat + 1 - (textL l).length) ++ textL l).length = s.toNat + 1 - (textL l).length + (textL l).length := by rw [List.length_append, zerosL_len]
    have hzD : Digs (zerosL (s.toNat + 1 - (textL l).length) ++ textL l) := (zerosL_digs _).append (textL_digs l)
    have hzc : (zerosL (s.toNat + 1 - (textL l).length) ++ textL l).length = s.toNat + 1 ∨ Canon (zerosL (s.toNat + 1 - (textL l).length) ++ textL l) := by
      by_cases hz0 : s.toNat + 1 - (textL l).length = 0
      · right
        rw [hz0, textL_of ho]
        exact decDigits_canon _
      · left; omega
    have hzv : dval (zerosL (s.toNat + 1 - (textL l).length) ++ textL l) = (val l).toNat := by rw [dval_append, zerosL_dval, hv]; omega
    generalize zerosL (s.toNat + 1 - (textL l).length) ++ textL l = z at *
    refine ⟨z.take (z.length - s.toNat), z.drop (z.length - s.toNat), ?_, hzD.take _, ?_, hzD.drop _, ?_, ?_, ?_, ?_⟩
    · rw [if_pos hs]
      unfold pointT
      cases n <;> simp [hs]
    · intro e
      have := congrArg List.length e
      rw [List.length_take, List.length_nil] at this
      omega
    · rw [List.length_drop]; omega
    · rw [List.length_drop, List.length_take]; omega
    · rw [List.take_append_drop]; exact hzv
    · by_cases h1 : z.length - s.toNat = 1
      · left; rw [List.length_take]; omega
      · right
        rcases hzc with hz | hz | ⟨_, hz⟩
        · omega
        · omega
        · refine ⟨by rw [List.length_take]; omega, ?_⟩
          rw [List.head?_take, if_neg (by omega)]
          exact hz
  · refine ⟨textL l, [], ?_, textL_digs l, textL_ne l, Digs.nil, by simp; omega, by simp; omega, by rw [List.append_nil]; exact hv, by rw [textL_of ho]; exact decDigits_canon _⟩
    rw [if_neg hs, if_neg hs, List.append_nil]
    unfold bigT
    rfl
theorem first_of46 : ∀ (l : List UInt8), (46 : UInt8) ∈ l → ∃ a r, l = a ++ 46 :: r ∧ (46 : UInt8) ∉ a
  | [], h => by cases h
  | b :: l, h => by
    by_cases hb : b = 46
    · exact ⟨[], l, by rw [hb]; rfl, by simp⟩
    · obtain ⟨a, r, e, hn⟩ := first_of46 l ((List.mem_cons.1 h).resolve_left (fun e => hb e.symm))
      exact ⟨b :: a, r, by rw [e]; rfl, by simp [hn, Ne.symm hb]⟩
theorem first_uniq46 {a a' r r' : List UInt8} (h : (46 : UInt8) ∉ a) (h' : (46 : UInt8) ∉ a') (e : a ++ 46 :: r = a' ++ 46 :: r') : a = a' ∧ r = r' := by
  have c := cut_at (r := r) h
  have c' := cut_at (r := r') h'
  rw [e, c'] at c
  exact ⟨(Prod.mk.inj c).1.symm, (Prod.mk.inj (Prod.mk.inj c).2).1.symm⟩
theorem dec_sign {g : Bool} {d : List UInt8} (hg : g = false → d.head? ≠ some 45) {n : Bool} {tl : List UInt8} (ht : tl.head? ≠ some 45) (e : (if g = true then 45 :: d else d) = (if n = true then 45 :: tl else tl)) : g = n ∧ d = tl := by
  cases g <;> cases n
  · exact ⟨rfl, by simpa using e⟩
  · rw [if_neg (by decide), if_pos rfl] at e
    exact absurd (by rw [e]; rfl) (hg rfl)
  · rw [if_pos rfl, if_neg (by decide)] at e
    exact absurd (by rw [← e]; rfl) ht
  · rw [if_pos rfl, if_pos rfl] at e
    exact ⟨rfl, (List.cons.inj e).2⟩
theorem good_of {s : List UInt8} {g : Bool} {d : List UInt8} (es : s = if g = true then 45 :: d else d) (hg : g = false → d.head? ≠ some 45) {n : Bool} {l : List Int} {c : Int} (h : IsDec s n l c) :
    ∃ w f, d = w ++ (if f = [] then [] else 46 :: f) ∧ (46 : UInt8) ∉ w ∧ Good g w f := by
  obtain ⟨w, f, e, hw, hw0, hf, hfl, hlen, hv, hc⟩ := decT_parts2 h.1
  have hs := h.2
  rw [e] at hs
  have hcf : (if 0 < c then 46 :: f else []) = (if f = [] then [] else 46 :: f) := by
    by_cases h0 : f = []
    · rw [if_pos h0, if_neg (by rw [h0] at hfl; simp at hfl; omega)]
    · have := List.length_pos_iff.2 h0
      rw [if_neg h0, if_pos (by omega)]
  rw [hcf] at hs
  have hhead : (w ++ (if f = [] then [] else 46 :: f)).head? ≠ some 45 := by
    cases w with
    | nil => exact absurd rfl hw0
    | cons b r =>
      intro e2
      have : b = 45 := Option.some.inj e2
      subst this
      exact absurd hw.head (by decide)
  obtain ⟨e1, e2⟩ := dec_sign hg hhead (es.symm.trans hs)
  obtain ⟨ho, _⟩ := decB_ok h.1
  obtain ⟨v0, v1⟩ := val_of_ok ho
  have hl : l = rep (dval (w ++ f) : Int) := by rw [hv, Int.toNat_of_nonneg v0]; exact is_rep ho.2.1 ho.2.2.1 rfl
  refine ⟨w, f, e2, digs_no46 hw, hw, hc, hf, ?_⟩
  rw [e1, ← hl, hfl]
  exact h.1
theorem specDecGet (s : List UInt8) (hs : s.length ≤ 2000000000) : ∃ r, (∀ k, s.length + 4000 ≤ k → spec_DecGet.f k (str s) = some r) ∧ ToldDec s r := by
  obtain ⟨g, d, es, hg, _, _⟩ := sign_parts s
  have hdl : d.length ≤ s.length := by rw [es]; split <;> simp
  have no : ∀ (w f : List UInt8), (∀ w' f', d = w' ++ (if f' = [] then [] else 46 :: f') → (46 : UInt8) ∉ w' → Good g w' f' → False) → ∀ n l c, ¬ IsDec s n l c := by
    intro _ _ hno n l c h
    obtain ⟨w', f', e1, e2, e3⟩ := good_of es hg h
    exact hno w' f' e1 e2 e3
  have yes : ∀ (w f : List UInt8), d = w ++ (if f = [] then [] else 46 :: f) → Good g w f → IsDec s g (rep (dval (w ++ f) : Int)) (f.length : Int) := by
    intro w f e h
    refine ⟨h.2.2.2, ?_⟩
    rw [dec_text h.1 h.2.1 h.2.2.1 g, es, e]
  have run : ∀ (r : Bool × List Int × Int × Bool), (∀ k, d.length + 3000 ≤ k → spec_l2Get.j1 k (str d) g = some r) → ∀ k, s.length + 4000 ≤ k → spec_DecGet.f k (str s) = some r := by
    intro r h k hk
    obtain ⟨k, rfl⟩ : ∃ j, k = j + 1 := ⟨k - 1, by omega⟩
    unfold spec_DecGet.f
    rw [l2_to_j1 s es hg, h k (by omega)]; simp only [Str.bS]
  by_cases hm : (46 : UInt8) ∈ d
  · obtain ⟨w, f, ed, hw⟩ := first_of46 d hm
    have hlen : d.length = w.length + 1 + f.length := by rw [ed, List.length_append, List.length_cons]; omega
    by_cases hf : f = []
    · refine ⟨(false, [], 0, false), run _ (fun k hk => ?_), .inr ⟨rfl, no w f (fun w' f' e1 e2 e3 => ?_)⟩⟩
      · obtain ⟨k, rfl⟩ : ∃ j, k = j + 1 := ⟨k - 1, by omega⟩
        rw [spec_l2Get.j1, ed, dot_hit hw (by rw [← ed]; omega) k (by omega)]; simp only [Str.bS]
        rw [← ed, if_pos (by omega), str_size, if_pos (by omega), if_pos (by omega), Str.w64 (by omega) (by omega), if_pos (by omega), if_pos (by omega), str_extract, str_toList, if_pos]
        rw [ed, hf, show ((w.length : Int) + 1).toNat = (w ++ [46]).length by rw [List.length_append, List.length_singleton]; omega, List.drop_length, List.take_nil]
      · by_cases hf' : f' = []
        · rw [if_pos hf', List.append_nil] at e1
          rw [← e1] at e2
          exact e2 hm
        · rw [if_neg hf', ed] at e1
          have := (first_uniq46 hw e2 e1).2
          exact hf' (by rw [← this]; exact hf)
    · have hj : ∀ k, d.length + 3000 ≤ k → spec_l2Get.j1 k (str d) g = some (if Good g w f then (g, rep (dval (w ++ f) : Int), (f.length : Int), true) else (false, [], 0, false)) := by
        intro k hk
        obtain ⟨k, rfl⟩ : ∃ j, k = j + 1 := ⟨k - 1, by omega⟩
        have hx : (d.drop ((w.length : Int) + 1).toNat).take (d.length - ((w.length : Int) + 1).toNat) = f := by
          rw [ed, show ((w.length : Int) + 1).toNat = w.length + 1 by omega, show w ++ 46 :: f = (w ++ [46]) ++ f by simp, show w.length + 1 = (w ++ [46]).length by simp, List.drop_left, List.take_of_length_le]
          simp; omega
        have hx2 : (d.drop 0).take ((w.length : Int).toNat - 0) = w := by rw [ed]; simp
        rw [spec_l2Get.j1, show spec_l2Dot.f k (str d) = some (w.length : Int) by rw [ed]; exact dot_hit hw (by rw [← ed]; omega) k (by omega)]; simp only [Str.bS]
        rw [if_pos (by omega), str_size, if_pos (by omega), if_pos (by omega), Str.w64 (by omega) (by omega), if_pos (by omega), if_pos (by omega), str_extract, hx, str_toList, if_neg hf, str_extract, hx2]
        exact l2_j2 g w f (by omega) (by omega) k (by omega)
      refine ⟨_, run _ hj, ?_⟩
      by_cases hG : Good g w f
      · rw [if_pos hG]
        exact .inl ⟨rfl, yes w f (by rw [if_neg hf]; exact ed) hG⟩
      · rw [if_neg hG]
        refine .inr ⟨rfl, no w f (fun w' f' e1 e2 e3 => ?_)⟩
        by_cases hf' : f' = []
        · rw [if_pos hf', List.append_nil] at e1
          rw [← e1] at e2
          exact e2 hm
        · rw [if_neg hf', ed] at e1
          obtain ⟨q1, q2⟩ := first_uniq46 hw e2 e1
          subst q1; subst q2
          exact hG e3
  · have hj : ∀ k, d.length + 3000 ≤ k → spec_l2Get.j1 k (str d) g = some (if Good g d [] then (g, rep (dval (d ++ []) : Int), (([] : List UInt8).length : Int), true) else (false, [], 0, false)) := by
      intro k hk
      obtain ⟨k, rfl⟩ : ∃ j, k = j + 1 := ⟨k - 1, by omega⟩
      have hx2 : (d.drop 0).take ((d.length : Int).toNat - 0) = d := by simp
      rw [spec_l2Get.j1, dot_miss hm (by omega) k (by omega)]; simp only [Str.bS]
      rw [if_pos (by omega), str_size, if_pos (by omega), if_neg (by omega), str_extract, hx2]
      exact l2_j2 g d [] (by omega) (by simp) k (by omega)
    refine ⟨_, run _ hj, ?_⟩
    by_cases hG : Good g d []
    · rw [if_pos hG]
      exact .inl ⟨rfl, yes d [] (by simp) hG⟩
    · rw [if_neg hG]
      refine .inr ⟨rfl, no d [] (fun w' f' e1 e2 e3 => ?_)⟩
      by_cases hf' : f' = []
      · rw [if_pos hf', List.append_nil] at e1
        subst e1; subst hf'
        exact hG e3
      · rw [if_neg hf'] at e1
        exact hm (by rw [e1]; simp)
end Go.Proofs.YtdbgpoileffbeaaGreatDoor.Str
end
section
namespace Go.Proofs.YtdbgpoileffbeaaGreatDoor.Val
open Go.RowKit Go.Proofs.YtdbgpoileffbeaaGreatDoor.Pr Go.Proofs.YtdbgpoileffbeaaGreatDoor.Ext Go.Proofs.YtdbgpoileffbeaaGreatDoor.Jt Go.Proofs.YtdbgpoileffbeaaGreatDoorW.PrintWords Go.Proofs.YtdbgpoileffbeaaGreatDoorW.PrintLast Go.Proofs.YtdbgpoileffbeaaGreatDoorW.PrintMore
set_option linter.unusedVariables false
set_option linter.unusedSimpArgs false
theorem pw5 : pw 5 = 100000000000000000000 := by decide
theorem getD_last (l : List Int) (x : Int) : (l ++ [x]).getD ((l ++ [x]).length - 1) 0 = x := by
  rw [List.getD_eq_getElem?_getD, List.length_append, List.length_cons, List.length_nil, Nat.zero_add, Nat.add_sub_cancel, List.getElem?_append_right (Nat.le_refl _), Nat.sub_self]
  rfl
def ab (x : Int) : Int := if x < 0 then -x else x
theorem sBigOf_l0 (n : Int) : ∀ (m k : Nat) (x : Int) (acc : List Int), -9223372036854775808 ≤ x → x ≤ 9223372036854775807 → ab x < pw m → acc.length + m ≤ 50 → m + 1 ≤ k → Dig acc → (x = 0 → Nz acc) →
    spec_BigOf.l0 k n acc x = some (decide (n < 0), rep (val acc + pw acc.length * ab x)) := by
  intro m
  induction m with
  | zero =>
    intro k x acc h0 h1 hx hl hk hd hz
    obtain ⟨k, rfl⟩ : ∃ j, k = j + 1 := ⟨k - 1, by omega⟩
    rw [pw_zero] at hx
    have hx0 : x = 0 := by unfold ab at hx; split at hx <;> omega
    subst hx0
    rw [spec_BigOf.l0, if_pos rfl, show ab 0 = 0 from rfl, Int.mul_zero, Int.add_zero, rep_of hd (hz rfl)]
  | succ m ih =>
    intro k x acc h0 h1 hx hl hk hd hz
    obtain ⟨k, rfl⟩ : ∃ j, k = j + 1 := ⟨k - 1, by omega⟩
    rw [pw_succ] at hx
    by_cases hx0 : x = 0
    · subst hx0
      rw [spec_BigOf.l0, if_pos rfl, show ab 0 = 0 from rfl, Int.mul_zero, Int.add_zero, rep_of hd (hz rfl)]
    · have go : ∀ d : Int, d = ab x % 10000 → ab (Int.tdiv x 10000) = ab x / 10000 → -9223372036854775808 ≤ Int.tdiv x 10000 → Int.tdiv x 10000 ≤ 9223372036854775807 →
          spec_BigOf.l0 k n (acc ++ [d]) (wrap64 (Int.tdiv x 10000)) = some (decide (n < 0), rep (val acc + pw acc.length * ab x)) := by
        intro d hdd hq q0 q1
        have hax : 0 ≤ ab x := by unfold ab; split <;> omega
        rw [w64 q0 q1, ih k (Int.tdiv x 10000) (acc ++ [d]) q0 q1 (by rw [hq]; omega) (by simp; omega) (by omega) (dig_push hd (by omega) (by omega)) (fun hz0 => by
          right
          rw [getD_last]
          rw [hz0] at hq
          have : ab x ≠ 0 := by unfold ab; split <;> omega
          have h00 : ab 0 = 0 := rfl
          omega)]
        rw [val_push, List.length_append, List.length_cons, List.length_nil, Nat.zero_add, pw_succ, hq]
        have e3 : ab x = 10000 * (ab x / 10000) + ab x % 10000 := by omega
        rw [← hdd] at e3
        generalize ab x / 10000 = q at e3 ⊢
        rw [e3]
        congr 3
        grind
      rw [spec_BigOf.l0, if_neg hx0]
      by_cases hneg : x < 0
      · have t1 : Int.tdiv x 10000 = -((-x) / 10000) := by
          have := Int.neg_tdiv (a := -x) (b := 10000)
          rw [Int.neg_neg] at this
          rw [this, Int.tdiv_eq_ediv_of_nonneg (by omega)]
        have t2 : Int.tmod x 10000 = -((-x) % 10000) := by
          have := Int.neg_tmod (a := -x) (b := 10000)
          rw [Int.neg_neg] at this
          rw [this, Int.tmod_eq_emod_of_nonneg (by omega)]
        have hab : ab x = -x := if_pos hneg
        have habq : ab (Int.tdiv x 10000) = ab x / 10000 := by rw [t1, hab]; unfold ab; split <;> omega
        by_cases hd0 : Int.tmod x 10000 < 0
        · rw [if_pos hd0, if_pos (by omega)]
          exact go _ (by rw [t2, Int.neg_neg, w64 (by omega) (by omega), hab]) habq (by rw [t1]; omega) (by rw [t1]; omega)
        · rw [if_neg hd0, if_pos (by omega)]
          exact go _ (by rw [hab]; rw [t2] at hd0 ⊢; omega) habq (by rw [t1]; omega) (by rw [t1]; omega)
      · have t1 : Int.tdiv x 10000 = x / 10000 := Int.tdiv_eq_ediv_of_nonneg (by omega)
        have t2 : Int.tmod x 10000 = x % 10000 := Int.tmod_eq_emod_of_nonneg (by omega)
        have hab : ab x = x := if_neg hneg
        have habq : ab (Int.tdiv x 10000) = ab x / 10000 := by rw [t1, hab]; unfold ab; split <;> omega
        rw [if_neg (by rw [t2]; omega), if_pos (by omega)]
        exact go _ (by rw [t2, hab]) habq (by rw [t1]; omega) (by rw [t1]; omega)
theorem sBigOf_ge {x : Int} (h0 : -9223372036854775808 ≤ x) (h1 : x ≤ 9223372036854775807) (k : Nat) (hk : 20 ≤ k) : spec_BigOf.f k x = some (mkN x, mkL x) := by
  unfold spec_BigOf.f
  rw [sBigOf_l0 x 5 k x [] h0 h1 (by rw [pw5]; unfold ab; split <;> omega) (by simp) (by omega) Dig.nil (fun _ => .inl rfl), List.length_nil, pw_zero, val_nil]
  unfold mkN mkL ab
  congr 3
  omega
end Go.Proofs.YtdbgpoileffbeaaGreatDoor.Val
end
section
namespace Go.Proofs.YtdbgpoileffbeaaGreatDoor.Drw
open Go.RowKit Go.Proofs.YtdbgpoileffbeaaGreatDoor.Jt Go.Proofs.YtdbgpoileffbeaaGreatDoor.Val Go.Proofs.YtdbgpoileffbeaaGreatDoor.Pr Go.Proofs.YtdbgpoileffbeaaGreatDoor.Ext Go.Proofs.YtdbgpoileffbeaaGreatDoorW.PrintWords Go.Proofs.YtdbgpoileffbeaaGreatDoorW.PrintLast Go.Proofs.YtdbgpoileffbeaaGreatDoorW.PrintMore
set_option linter.unusedVariables false
set_option linter.unusedSimpArgs false
theorem wf8 {a : Int} (h : (Lit.int .u8 a).wf = true) : 0 ≤ a ∧ a ≤ 255 := by
  simp [Lit.wf, IntKind.min, IntKind.max, IntKind.signed, IntKind.bits] at h; omega
theorem rd_mem {l : List Int} {i : Int} (h0 : 0 ≤ i) (h : i < (l.length : Int)) : rd l i ∈ l := by
  have hi : i.toNat < l.length := by omega
  unfold rd
  rw [List.getD_eq_getElem?_getD, List.getElem?_eq_getElem hi]
  exact List.getElem_mem hi
theorem xor_nonneg {x y : Int} (hx : 0 ≤ x) (hx' : x < 4611686018427387904) (hy : 0 ≤ y) (hy' : y < 4611686018427387904) : 0 ≤ Go.bits .xor .i64 x y := by
  obtain ⟨a, rfl⟩ := Int.eq_ofNat_of_zero_le hx
  obtain ⟨b, rfl⟩ := Int.eq_ofNat_of_zero_le hy
  have ha : a < 2 ^ 62 := by omega
  have hb : b < 2 ^ 62 := by omega
  have hlt := Nat.xor_lt_two_pow ha hb
  have ha' : a % 2 ^ IntKind.i64.bits = a := Nat.mod_eq_of_lt (by show a < 2 ^ 64; omega)
  have hb' : b % 2 ^ IntKind.i64.bits = b := Nat.mod_eq_of_lt (by show b < 2 ^ 64; omega)
  have e : Go.bits .xor .i64 (a : Int) (b : Int) = ((a ^^^ b : Nat) : Int) := by
    simp only [Go.bits, BitVec.ofInt_natCast, BitVec.toNat_xor, BitVec.toNat_ofNat, ha', hb']
    rw [IntKind.wrap_i64]
    omega
  rw [e]
  omega
def BytesOk (b : List Int) : Prop := b.length ≤ 2000 ∧ ∀ x ∈ b, 0 ≤ x ∧ x ≤ 255
theorem pick_any {b : List Int} (hb : BytesOk b) {p n : Int} (hp : 0 ≤ p) (hp' : p ≤ 1000000) (hn : 1 ≤ n) :
    ∃ r, (∀ k, spec_l1Rd_pick.f (k + 1) b p n = some (r, p + 1)) ∧ 0 ≤ r ∧ r < n := by
  have e1 : wrap64 (p + 1) = p + 1 := w64 (by omega) (by omega)
  have e2 : wrap64 (p + 1 - 1) = p := by rw [w64 (by omega) (by omega)]; omega
  have hl := hb.1
  by_cases h0 : b.length = 0
  · refine ⟨0, fun k => ?_, by omega, by omega⟩
    have hz : ((b.length : Int) == 0) = true := by rw [h0]; rfl
    unfold spec_l1Rd_pick.f
    rw [if_neg (by omega), e1, hz]
    simp only [spec_l1Rd_pick.j0, if_true]
  · have hz : ((b.length : Int) == 0) = false := by rw [beq_eq_false_iff_ne]; omega
    by_cases hk : p < (b.length : Int)
    · have hm := hb.2 _ (rd_mem hp hk)
      refine ⟨Int.tmod (rd b p) n, fun k => ?_, Int.tmod_nonneg _ hm.1, Int.tmod_lt_of_pos _ (by omega)⟩
      unfold spec_l1Rd_pick.f
      rw [if_neg (by omega), e1, hz]
      simp only [spec_l1Rd_pick.j0]
      rw [if_neg (by decide), e2, if_pos hk, if_pos hp, if_neg (by omega), w64 (by omega) (by omega)]
    · have hL : (0 : Int) < (b.length : Int) := by omega
      have e7 : wrap64 (wrap64 (p * 7) + 3) = p * 7 + 3 := by
        rw [w64 (x := p * 7) (by omega) (by omega), w64 (by omega) (by omega)]
      have i1 := Int.tmod_nonneg (b.length : Int) hp
      have j1 := Int.tmod_lt_of_pos p hL
      have i2 := Int.tmod_nonneg (b.length : Int) (show 0 ≤ p * 7 + 3 by omega)
      have j2 := Int.tmod_lt_of_pos (p * 7 + 3) hL
      have hA := hb.2 _ (rd_mem i1 j1)
      have hB := hb.2 _ (rd_mem i2 j2)
      have hq0 : 0 ≤ Int.tdiv p (b.length : Int) := Int.tdiv_nonneg hp (by omega)
      have hq1 : Int.tdiv p (b.length : Int) ≤ p := by
        rw [Int.tdiv_eq_ediv_of_nonneg hp]; exact Int.ediv_le_self _ hp
      generalize hAe : rd b (Int.tmod p (b.length : Int)) = A at hA
      generalize hBe : rd b (Int.tmod (p * 7 + 3) (b.length : Int)) = B at hB
      generalize hQe : Int.tdiv p (b.length : Int) = Q at hq0 hq1
      have hX : 0 ≤ wrap64 (wrap64 (wrap64 (wrap64 (wrap64 A * 131) + wrap64 (wrap64 B * 1117)) + wrap64 (p * 29)) + wrap64 (wrap64 Q * 53)) ∧
          wrap64 (wrap64 (wrap64 (wrap64 (wrap64 A * 131) + wrap64 (wrap64 B * 1117)) + wrap64 (p * 29)) + wrap64 (wrap64 Q * 53)) < 1000000000 := by
        rw [w64 (x := A) (by omega) (by omega), w64 (x := B) (by omega) (by omega), w64 (x := Q) (by omega) (by omega), w64 (x := A * 131) (by omega) (by omega), w64 (x := B * 1117) (by omega) (by omega),
          w64 (x := p * 29) (by omega) (by omega), w64 (x := Q * 53) (by omega) (by omega), w64 (x := A * 131 + B * 1117) (by omega) (by omega), w64 (x := A * 131 + B * 1117 + p * 29) (by omega) (by omega),
          w64 (by omega) (by omega)]
        omega
      generalize hXe : wrap64 (wrap64 (wrap64 (wrap64 (wrap64 A * 131) + wrap64 (wrap64 B * 1117)) + wrap64 (p * 29)) + wrap64 (wrap64 Q * 53)) = X at hX
      have hY : 0 ≤ wrap64 (Int.tdiv X 64) ∧ wrap64 (Int.tdiv X 64) < 1000000000 := by
        rw [Int.tdiv_eq_ediv_of_nonneg hX.1, w64 (by omega) (by omega)]; omega
      refine ⟨Int.tmod (Go.bits .xor .i64 X (wrap64 (Int.tdiv X 64))) n, fun k => ?_, Int.tmod_nonneg _ (xor_nonneg hX.1 (by omega) hY.1 (by omega)), Int.tmod_lt_of_pos _ (by omega)⟩
      unfold spec_l1Rd_pick.f
      rw [if_neg (by omega), e1, hz]
      simp only [spec_l1Rd_pick.j0]
      rw [if_neg (by decide), e2, if_neg hk, if_neg (by omega), if_pos i1, if_pos j1, e7, if_pos i2, if_pos j2, if_neg (by omega), hAe, hBe, hQe, hXe]
theorem open_any {l : List Int} (hl : ∀ x ∈ l, (Lit.int .u8 x).wf = true) : ∃ b, spec_l1Open.f l = some (b, 0) ∧ BytesOk b := by
  unfold spec_l1Open.f
  by_cases h : (l.length : Int) > 2000
  · rw [if_pos h, if_pos (by omega)]
    exact ⟨_, rfl, by rw [List.length_take]; omega, fun x hx => wf8 (hl x (List.mem_of_mem_take hx))⟩
  · rw [if_neg h]
    exact ⟨_, rfl, by omega, fun x hx => wf8 (hl x hx)⟩
theorem one_any {b : List Int} (hb : BytesOk b) {p : Int} (hp : 0 ≤ p) (hp' : p ≤ 1000000) {l : List Int} (hl : 1 ≤ l.length) :
    ∃ r, (∀ k, spec_l1Rd_one.f (k + 1) b p l = some (r, p + 1)) ∧ r ∈ l := by
  obtain ⟨i, hi, h0, h1⟩ := pick_any hb hp hp' (n := (l.length : Int)) (by omega)
  refine ⟨rd l i, fun k => ?_, rd_mem h0 h1⟩
  unfold spec_l1Rd_one.f
  rw [hi k]
  simp only [Option.bind_some]
  rw [if_pos h0, if_pos h1]
theorem pick_ge {b : List Int} (hb : BytesOk b) {p n : Int} (hp : 0 ≤ p) (hp' : p ≤ 1000000) (hn : 1 ≤ n) :
    ∃ r, (∀ k, 1 ≤ k → spec_l1Rd_pick.f k b p n = some (r, p + 1)) ∧ 0 ≤ r ∧ r < n := by
  obtain ⟨r, h, h0, h1⟩ := pick_any hb hp hp' hn
  exact ⟨r, fun k hk => by obtain ⟨m, rfl⟩ : ∃ m, k = m + 1 := ⟨k - 1, by omega⟩; exact h m, h0, h1⟩
theorem one_ge {b : List Int} (hb : BytesOk b) {p : Int} (hp : 0 ≤ p) (hp' : p ≤ 1000000) {l : List Int} (hl : 1 ≤ l.length) :
    ∃ r, (∀ k, 1 ≤ k → spec_l1Rd_one.f k b p l = some (r, p + 1)) ∧ r ∈ l := by
  obtain ⟨r, h, h0⟩ := one_any hb hp hp' hl
  exact ⟨r, fun k hk => by obtain ⟨m, rfl⟩ : ∃ m, k = m + 1 := ⟨k - 1, by omega⟩; exact h m, h0⟩
theorem size_of (xs : List Int) : (strOfNums xs).size = xs.length := by unfold strOfNums; simp [ByteArray.size]
theorem size_app (a b : ByteArray) : (a ++ b).size = a.size + b.size := ByteArray.size_append
theorem figs_l0 {b : List Int} (hb : BytesOk b) (n : Int) (hn : n ≤ 100) : ∀ (m : Nat) (s : ByteArray) (p : Int), 0 ≤ p → p + 2 * m ≤ 900000 → (s.size : Int) + m = n →
    ∃ r p', (∀ k, m + 2 ≤ k → spec_l14Figs.l0 k n s b p = some (r, p')) ∧ (r.size : Int) = n ∧ p ≤ p' ∧ p' ≤ p + 2 * m := by
  intro m
  induction m with
  | zero =>
    intro s p hp hp' hs
    refine ⟨s, p, fun k hk => ?_, by omega, by omega, by omega⟩
    obtain ⟨k, rfl⟩ : ∃ j, k = j + 1 := ⟨k - 1, by omega⟩
    rw [spec_l14Figs.l0, if_neg (by omega)]
  | succ m ih =>
    intro s p hp hp' hs
    obtain ⟨x, hx, _, _⟩ := pick_ge hb hp (by omega) (n := 10) (by omega)
    obtain ⟨y, hy, _⟩ := one_ge hb (p := p + 1) (by omega) (by omega) (l := [0, 0, 9, 9, 5, 1, x]) (by simp)
    obtain ⟨r, p', hr, h1, h2, h3⟩ := ih (s ++ strOfNums [(wrap64 (48 + y)) % 256]) (p + 1 + 1) (by omega) (by omega) (by rw [size_app, size_of]; simp; omega)
    refine ⟨r, p', fun k hk => ?_, h1, by omega, by omega⟩
    obtain ⟨k, rfl⟩ : ∃ j, k = j + 1 := ⟨k - 1, by omega⟩
    rw [spec_l14Figs.l0, if_pos (by omega), hx k (by omega)]
    simp only [Option.bind_some]
    rw [hy k (by omega)]
    simp only [Option.bind_some]
    rw [if_pos (by rw [size_of]; simp; omega)]
    exact hr k (by omega)
end Go.Proofs.YtdbgpoileffbeaaGreatDoor.Drw
end
section
namespace Go.Proofs.YtdbgpoileffbeaaGreatDoor.Drw
open Go.Lib Go.RowKit Go.Proofs.YtdbgpoileffbeaaGreatDoor.Jt Go.Proofs.YtdbgpoileffbeaaGreatDoor.Dec Go.Proofs.YtdbgpoileffbeaaGreatDoor.Val Go.Proofs.YtdbgpoileffbeaaGreatDoor.Str Go.Proofs.YtdbgpoileffbeaaGreatDoor.Pr Go.Proofs.YtdbgpoileffbeaaGreatDoor.Ext Go.Proofs.YtdbgpoileffbeaaGreatDoorW.PrintWords Go.Proofs.YtdbgpoileffbeaaGreatDoorW.PrintLast Go.Proofs.YtdbgpoileffbeaaGreatDoorW.PrintMore
set_option linter.unusedVariables false
set_option linter.unusedSimpArgs false
theorem rdOf_mem {l : List ByteArray} {i : Int} (h0 : 0 ≤ i) (h : i < (l.length : Int)) : rdOf ByteArray.empty l i ∈ l := by
  have hi : i.toNat < l.length := by omega
  unfold rdOf
  rw [List.getD_eq_getElem?_getD, List.getElem?_eq_getElem hi]
  exact List.getElem_mem hi
theorem of_any {b : List Int} (hb : BytesOk b) {p : Int} (hp : 0 ≤ p) (hp' : p ≤ 1000000) {l : List ByteArray} (hl : 1 ≤ l.length) (M : Nat) (hM : ∀ x ∈ l, x.size ≤ M) :
    ∃ s, (∀ k, 1 ≤ k → spec_l1Rd_of.f k b p l = some (str s, p + 1)) ∧ s.length ≤ M := by
  obtain ⟨i, hi, h0, h1⟩ := pick_ge hb hp hp' (n := (l.length : Int)) (by omega)
  have hm := hM _ (rdOf_mem h0 h1)
  refine ⟨(rdOf ByteArray.empty l i).data.toList, fun k hk => ?_, ?_⟩
  · unfold spec_l1Rd_of.f
    rw [hi k hk, ← str_eta]
    simp only [Str.bS]
    rw [if_pos h0, if_pos h1]
  · rw [Array.length_toList]; exact hm
theorem bent_any {b : List Int} (hb : BytesOk b) {p : Int} (hp : 0 ≤ p) (hp' : p ≤ 900000) (l : List UInt8) (hl : l.length ≤ 1000000) :
    ∃ s p', (∀ k, 1 ≤ k → spec_l14Bent.f k b p (str l) = some (str s, p')) ∧ s.length ≤ l.length + 10 := by
  obtain ⟨i, hi, i0, i1⟩ := pick_ge hb hp (by omega) (n := (l.length : Int) + 1) (by omega)
  obtain ⟨r, hr, _, _⟩ := pick_ge hb (p := p + 1) (by omega) (by omega) (n := 6) (by omega)
  have start : ∀ k, 1 ≤ k → spec_l1Rd_pick.f k b p (wrap64 (((str l).size : Int) + 1)) = some (i, p + 1) := fun k hk => by
    rw [str_size, Str.w64 (by omega) (by omega)]; exact hi k hk
  obtain ⟨u, hu, u1⟩ := of_any hb (p := p + 1 + 1) (by omega) (by omega) (l := [(⟨#[48]⟩ : ByteArray), (⟨#[57]⟩ : ByteArray), (⟨#[45]⟩ : ByteArray), (⟨#[46]⟩ : ByteArray), (⟨#[32]⟩ : ByteArray), (⟨#[120]⟩ : ByteArray), (⟨#[44]⟩ : ByteArray), (⟨#[58]⟩ : ByteArray), (⟨#[39]⟩ : ByteArray), (⟨#[33]⟩ : ByteArray), (⟨#[59]⟩ : ByteArray)]) (by simp) 1 (by decide)
  obtain ⟨v, hv, v1⟩ := of_any hb (p := p + 1 + 1) (by omega) (by omega) (l := [(⟨#[120]⟩ : ByteArray), (⟨#[48]⟩ : ByteArray), (⟨#[32]⟩ : ByteArray), (⟨#[39]⟩ : ByteArray), (⟨#[59]⟩ : ByteArray), (⟨#[10]⟩ : ByteArray)]) (by simp) 1 (by decide)
  obtain ⟨z, hz, z1⟩ := of_any hb (p := p + 1 + 1) (by omega) (by omega) (l := [(⟨#[48]⟩ : ByteArray), (⟨#[45]⟩ : ByteArray), (⟨#[46]⟩ : ByteArray), (⟨#[32]⟩ : ByteArray), (⟨#[40]⟩ : ByteArray), (⟨#[49]⟩ : ByteArray)]) (by simp) 1 (by decide)
  by_cases h0 : r = 0
  · by_cases hlt : i < (l.length : Int)
    · refine ⟨(((l.drop 0).take (i.toNat - 0)) ++ u) ++ (l.drop (i + 1).toNat).take (l.length - (i + 1).toNat), p + 1 + 1 + 1, fun k hk => ?_, by simp; omega⟩
      unfold spec_l14Bent.f
      rw [start k hk]; simp only [Str.bS]
      rw [hr k hk]; simp only [Str.bS]
      rw [if_pos h0, str_size, if_pos hlt, if_pos i0, if_pos (by omega), hu k hk]; simp only [Str.bS]
      simp only [str_extract, str_append, str_size]
      rw [Str.w64 (by omega) (by omega), if_pos (by simp; omega), if_pos (by omega), if_pos (by omega), if_pos (by simp; omega)]
    · refine ⟨l, p + 1 + 1, fun k hk => ?_, by omega⟩
      unfold spec_l14Bent.f
      rw [start k hk]; simp only [Str.bS]
      rw [hr k hk]; simp only [Str.bS]
      rw [if_pos h0, str_size, if_neg hlt]
  · by_cases h1 : r = 1
    · refine ⟨(l.drop 0).take (i.toNat - 0), p + 1 + 1, fun k hk => ?_, by simp; omega⟩
      unfold spec_l14Bent.f
      rw [start k hk]; simp only [Str.bS]
      rw [hr k hk]; simp only [Str.bS]
      rw [if_neg h0, if_pos h1, str_size, if_pos i0, if_pos (by omega), str_extract]
    · by_cases h2 : r = 2
      · refine ⟨l ++ v, p + 1 + 1 + 1, fun k hk => ?_, by simp; omega⟩
        unfold spec_l14Bent.f
        rw [start k hk]; simp only [Str.bS]
        rw [hr k hk]; simp only [Str.bS]
        rw [if_neg h0, if_neg h1, if_pos h2, hv k hk]; simp only [Str.bS]
        rw [str_size, str_size, if_pos (by omega), str_append]
      · by_cases h3 : r = 3
        · refine ⟨(((l.drop 0).take (i.toNat - 0)) ++ z) ++ (l.drop i.toNat).take (l.length - i.toNat), p + 1 + 1 + 1, fun k hk => ?_, by simp; omega⟩
          unfold spec_l14Bent.f
          rw [start k hk]; simp only [Str.bS]
          rw [hr k hk]; simp only [Str.bS]
          rw [if_neg h0, if_neg h1, if_neg h2, if_pos h3, str_size, if_pos i0, if_pos (by omega), hz k hk]; simp only [Str.bS]
          simp only [str_extract, str_append, str_size]
          rw [if_pos (by simp; omega), if_pos (by simp; omega)]
        · refine ⟨l, p + 1 + 1, fun k hk => ?_, by omega⟩
          unfold spec_l14Bent.f
          rw [start k hk]; simp only [Str.bS]
          rw [hr k hk]; simp only [Str.bS]
          rw [if_neg h0, if_neg h1, if_neg h2, if_neg h3]
theorem isD_of {d : Nat} (h : d < 10) : IsD (UInt8.ofNat (48 + d)) := by unfold IsD; rw [ofNat_toNat h]; omega
theorem figB_l0 {b : List Int} (hb : BytesOk b) (n : Int) (hn : n ≤ 100) : ∀ (m : Nat) (s : List UInt8) (p : Int), Digs s → 0 ≤ p → p + 2 * m ≤ 900000 → (s.length : Int) + m = n →
    ∃ r p', (∀ k, m + 2 ≤ k → spec_l14Figs.l0 k n (str s) b p = some (str r, p')) ∧ Digs r ∧ (r.length : Int) = n ∧ p ≤ p' ∧ p' ≤ p + 2 * m := by
  intro m
  induction m with
  | zero =>
    intro s p hd hp hp' hs
    refine ⟨s, p, fun k hk => ?_, hd, by omega, by omega, by omega⟩
    obtain ⟨k, rfl⟩ : ∃ j, k = j + 1 := ⟨k - 1, by omega⟩
    rw [spec_l14Figs.l0, str_size, if_neg (by omega)]
  | succ m ih =>
    intro s p hd hp hp' hs
    obtain ⟨x, hx, x0, x1⟩ := pick_ge hb hp (by omega) (n := 10) (by omega)
    obtain ⟨y, hy, my⟩ := one_ge hb (p := p + 1) (by omega) (by omega) (l := [0, 0, 9, 9, 5, 1, x]) (by simp)
    simp only [List.mem_cons, List.not_mem_nil, or_false] at my
    have hy0 : 0 ≤ y ∧ y < 10 := by omega
    obtain ⟨r, p', hr, h0, h1, h2, h3⟩ := ih (s ++ [UInt8.ofNat (48 + y.toNat)]) (p + 1 + 1) (hd.append (fun c hc => by rw [List.mem_singleton.1 hc]; exact isD_of (by omega))) (by omega) (by omega) (by rw [List.length_append, List.length_singleton]; omega)
    refine ⟨r, p', fun k hk => ?_, h0, h1, by omega, by omega⟩
    obtain ⟨k, rfl⟩ : ∃ j, k = j + 1 := ⟨k - 1, by omega⟩
    rw [spec_l14Figs.l0, str_size, if_pos (by omega), hx k (by omega)]
    simp only [Str.bS]
    rw [hy k (by omega)]
    simp only [Str.bS]
    rw [strOf_one hy0.1 hy0.2, str_size, if_pos (by rw [List.length_singleton]; omega), str_append]
    exact hr k (by omega)
theorem figB_any {b : List Int} (hb : BytesOk b) {p : Int} (hp : 0 ≤ p) (hp' : p ≤ 500000) {n : Int} (hn : n ≤ 64) :
    ∃ r p', (∀ k, 200 ≤ k → spec_l14Figs.f k b p n = some (str r, p')) ∧ Digs r ∧ r.length ≤ 64 ∧ p ≤ p' ∧ p' ≤ p + 300 := by
  by_cases h1 : n < 1
  · refine ⟨[48], p, fun k hk => ?_, by decide, by decide, by omega, by omega⟩
    unfold spec_l14Figs.f
    rw [if_pos h1]; rfl
  · obtain ⟨x, hx, x0, x1⟩ := pick_ge hb hp (by omega) (n := 9) (by omega)
    obtain ⟨r, p', hr, q0, q1, q2, q3⟩ := figB_l0 hb n (by omega) (n.toNat - 1) [UInt8.ofNat (48 + (x + 1).toNat)] (p + 1) (fun c hc => by rw [List.mem_singleton.1 hc]; exact isD_of (by omega)) (by omega) (by omega) (by rw [List.length_singleton]; omega)
    refine ⟨r, p', fun k hk => ?_, q0, by omega, by omega, by omega⟩
    unfold spec_l14Figs.f
    rw [if_neg h1, hx k (by omega)]
    simp only [Str.bS]
    rw [show (49 : Int) + x = 48 + (x + 1) by omega, strOf_one (by omega) (by omega)]
    exact hr k (by omega)
theorem manyB_l0 (c : UInt8) : ∀ (m : Nat) (a : List UInt8), a.length + m ≤ 1000 → ∀ k, m + 1 ≤ k → spec_l1Many.l0 k (str [c]) (m : Int) (str a) = some (str (a ++ List.replicate m c)) := by
  intro m
  induction m with
  | zero =>
    intro a ha k hk
    obtain ⟨k, rfl⟩ : ∃ j, k = j + 1 := ⟨k - 1, by omega⟩
    rw [spec_l1Many.l0, if_neg (by omega), List.replicate_zero, List.append_nil]
  | succ m ih =>
    intro a ha k hk
    obtain ⟨k, rfl⟩ : ∃ j, k = j + 1 := ⟨k - 1, by omega⟩
    rw [spec_l1Many.l0, if_pos (by omega), str_size, str_size, if_pos (by rw [List.length_singleton]; omega), str_append, Str.w64 (by omega) (by omega), show ((m + 1 : Nat) : Int) - 1 = (m : Int) by omega, ih (a ++ [c]) (by simp; omega) k (by omega), List.append_assoc, List.replicate_succ]
    rfl
theorem manyB (c : UInt8) (n : Int) (hn : n ≤ 100) (k : Nat) (hk : 200 ≤ k) : spec_l1Many.f k (str [c]) n = some (str (List.replicate n.toNat c)) := by
  unfold spec_l1Many.f
  by_cases h : 0 ≤ n
  · have := manyB_l0 c n.toNat [] (by simp; omega) k (by omega)
    rw [show ((n.toNat : Nat) : Int) = n by omega, List.nil_append] at this
    exact this
  · obtain ⟨k, rfl⟩ : ∃ j, k = j + 1 := ⟨k - 1, by omega⟩
    rw [spec_l1Many.l0, if_neg (by omega), show n.toNat = 0 by omega]
    rfl
theorem digs_rep (c : UInt8) (h : IsD c) (n : Nat) : Digs (List.replicate n c) := fun x hx => by rw [(List.mem_replicate.1 hx).2]; exact h
theorem from_big {d : List UInt8} (hD : Digs d) (hl : d.length ≤ 64) (g : Bool) : ∃ n l, (∀ k, 2000 ≤ k → (spec_l1FromFigures.f k (str d)).bind (fun t => (spec_l1Big.f k g t).bind fun bt => some (bt.1, bt.2.1)) = some (n, l)) ∧ BOk n l := by
  have hv := dval_64 hD hl
  have hx : -pw 16 < bigv g (rep (dval d : Int)) ∧ bigv g (rep (dval d : Int)) < pw 16 := by
    rw [bigv_rep g (by omega)]
    split <;> omega
  refine ⟨_, _, fun k hk => ?_, mk_ok hx.1 hx.2⟩
  rw [fromF_eq hD hl k (by omega)]; simp only [Str.bS]
  rw [l1Big_ge (rep_dig _) (by have := rep_len_le (v := (dval d : Int)) (by omega) hv; omega) g k (by omega), bigR_yes hx.1 hx.2]; simp only [Str.bS]
theorem bigB_j1 {b : List Int} (hb : BytesOk b) {p : Int} (hp : 0 ≤ p) (hp' : p ≤ 500000) {n : Int} (hn : n ≤ 64) {s : List UInt8} (hD : Digs s) (hl : s.length ≤ 64) :
    ∃ g l p', (∀ k, 3000 ≤ k → spec_l14Big.j1 k n (str s) b p = some (g, l, p')) ∧ BOk g l ∧ p ≤ p' ∧ p' ≤ p + 10 := by
  obtain ⟨x, hx, x0, x1⟩ := pick_ge hb hp (by omega) (n := 6) (by omega)
  obtain ⟨y, hy, y0, y1⟩ := pick_ge hb (p := p + 1) (by omega) (by omega) (n := 3) (by omega)
  by_cases h0 : x = 0
  · obtain ⟨g, l, hr, ho⟩ := from_big (d := List.replicate n.toNat 57) (digs_rep 57 (by decide) _) (by rw [List.length_replicate]; omega) (y == 0)
    refine ⟨g, l, p + 1 + 1, fun k hk => ?_, ho, by omega, by omega⟩
    obtain ⟨k, rfl⟩ : ∃ j, k = j + 1 := ⟨k - 1, by omega⟩
    have hr' := hr k (by omega)
    rw [spec_l14Big.j1, hx k (by omega)]; simp only [Str.bS]
    rw [if_pos h0, show (⟨#[57]⟩ : ByteArray) = str [57] from rfl, manyB 57 n (by omega) k (by omega)]; simp only [Str.bS]
    rw [hy k (by omega)]; simp only [Str.bS]
    obtain ⟨t, ht, hr2⟩ := Option.bind_eq_some_iff.1 hr'
    obtain ⟨u, hu, hr3⟩ := Option.bind_eq_some_iff.1 hr2
    rw [ht]; simp only [Str.bS]
    rw [hu]; simp only [Str.bS]
    have e := Prod.mk.inj (Option.some.inj hr3)
    rw [e.1, e.2]
  · obtain ⟨g, l, hr, ho⟩ := from_big hD hl (y == 0)
    refine ⟨g, l, p + 1 + 1, fun k hk => ?_, ho, by omega, by omega⟩
    obtain ⟨k, rfl⟩ : ∃ j, k = j + 1 := ⟨k - 1, by omega⟩
    have hr' := hr k (by omega)
    rw [spec_l14Big.j1, hx k (by omega)]; simp only [Str.bS]
    rw [if_neg h0, hy k (by omega)]; simp only [Str.bS]
    obtain ⟨t, ht, hr2⟩ := Option.bind_eq_some_iff.1 hr'
    obtain ⟨u, hu, hr3⟩ := Option.bind_eq_some_iff.1 hr2
    rw [ht]; simp only [Str.bS]
    rw [hu]; simp only [Str.bS]
    have e := Prod.mk.inj (Option.some.inj hr3)
    rw [e.1, e.2]
theorem bigB_j0 {b : List Int} (hb : BytesOk b) {p : Int} (hp : 0 ≤ p) (hp' : p ≤ 400000) {n : Int} (hn0 : 0 ≤ n) (hn : n ≤ 64) :
    ∃ g l p', (∀ k, 3001 ≤ k → spec_l14Big.j0 k n b p = some (g, l, p')) ∧ BOk g l ∧ p ≤ p' ∧ p' ≤ p + 320 := by
  obtain ⟨s, p1, hs, hD, hl, q1, q2⟩ := figB_any hb hp (by omega) hn
  obtain ⟨x, hx, x0, x1⟩ := pick_ge hb (p := p1) (by omega) (by omega) (n := 6) (by omega)
  have hn1 : n - 1 ≤ 63 := by omega
  by_cases h0 : x = 0
  · have hD1 : Digs (49 :: List.replicate (n - 1).toNat 48) := by
      intro c hc
      rcases List.mem_cons.1 hc with e | e
      · rw [e]; decide
      · exact digs_rep 48 (by decide) _ c e
    obtain ⟨g, l, p2, hr, ho, r1, r2⟩ := bigB_j1 hb (p := p1 + 1) (by omega) (by omega) hn hD1 (by rw [List.length_cons, List.length_replicate]; omega)
    refine ⟨g, l, p2, fun k hk => ?_, ho, by omega, by omega⟩
    obtain ⟨k, rfl⟩ : ∃ j, k = j + 1 := ⟨k - 1, by omega⟩
    rw [spec_l14Big.j0, hs k (by omega)]; simp only [Str.bS]
    rw [hx k (by omega)]; simp only [Str.bS]
    rw [if_pos h0, Str.w64 (by omega) (by omega), show (⟨#[48]⟩ : ByteArray) = str [48] from rfl, manyB 48 (n - 1) (by omega) k (by omega)]; simp only [Str.bS]
    rw [str_size, if_pos (by rw [List.length_replicate]; omega), show (⟨#[49]⟩ : ByteArray) = str [49] from rfl, str_append]
    exact hr k (by omega)
  · obtain ⟨g, l, p2, hr, ho, r1, r2⟩ := bigB_j1 hb (p := p1 + 1) (by omega) (by omega) hn hD hl
    refine ⟨g, l, p2, fun k hk => ?_, ho, by omega, by omega⟩
    obtain ⟨k, rfl⟩ : ∃ j, k = j + 1 := ⟨k - 1, by omega⟩
    rw [spec_l14Big.j0, hs k (by omega)]; simp only [Str.bS]
    rw [hx k (by omega)]; simp only [Str.bS]
    rw [if_neg h0]
    exact hr k (by omega)
theorem bigY_any {b : List Int} (hb : BytesOk b) {p : Int} (hp : 0 ≤ p) (hp' : p ≤ 300000) {a : Int} (ha : 1 ≤ a) (ha' : a ≤ 64) :
    ∃ g l p', (∀ k, 3002 ≤ k → spec_l14Big.f k b p a = some (g, l, p')) ∧ BOk g l ∧ p ≤ p' ∧ p' ≤ p + 400 := by
  obtain ⟨x, hx, x0, x1⟩ := pick_ge hb hp (by omega) (n := 64) (by omega)
  obtain ⟨y, hy, my⟩ := one_ge hb (p := p + 1) (by omega) (by omega) (l := [0, 1, 1, 2, 3, 4, 5, 8, 9, 12, 17, 29, 30, 31, 33, 63, 64, wrap64 (1 + x)]) (by simp)
  have hw : wrap64 (1 + x) = 1 + x := Str.w64 (by omega) (by omega)
  have hy0 : 0 ≤ y ∧ y ≤ 64 := by
    rw [hw] at my
    simp only [List.mem_cons, List.not_mem_nil, or_false] at my
    omega
  by_cases hya : y > a
  · obtain ⟨z, hz, z0, z1⟩ := pick_ge hb (p := p + 1 + 1) (by omega) (by omega) (n := a) ha
    obtain ⟨g, l, p2, hr, ho, r1, r2⟩ := bigB_j0 hb (p := p + 1 + 1 + 1) (by omega) (by omega) (n := 1 + z) (by omega) (by omega)
    refine ⟨g, l, p2, fun k hk => ?_, ho, by omega, by omega⟩
    unfold spec_l14Big.f
    rw [hx k (by omega)]; simp only [Str.bS]
    rw [hy k (by omega)]; simp only [Str.bS]
    rw [if_pos hya, hz k (by omega)]; simp only [Str.bS]
    rw [Str.w64 (x := 1 + z) (by omega) (by omega)]
    exact hr k (by omega)
  · obtain ⟨g, l, p2, hr, ho, r1, r2⟩ := bigB_j0 hb (p := p + 1 + 1) (by omega) (by omega) hy0.1 hy0.2
    refine ⟨g, l, p2, fun k hk => ?_, ho, by omega, by omega⟩
    unfold spec_l14Big.f
    rw [hx k (by omega)]; simp only [Str.bS]
    rw [hy k (by omega)]; simp only [Str.bS]
    rw [if_neg hya]
    exact hr k (by omega)
theorem decY_any {b : List Int} (hb : BytesOk b) {p : Int} (hp : 0 ≤ p) (hp' : p ≤ 100000) : ∃ g r s p', (∀ k, 3200 ≤ k → spec_l14Dec.f k b p = some (g, r, s, p')) ∧ BOk g r ∧ 0 ≤ s ∧ s ≤ 12 ∧ p ≤ p' ∧ p' ≤ p + 600 := by
  obtain ⟨x, hx, x0, x1⟩ := pick_ge hb hp (by omega) (n := 13) (by omega)
  obtain ⟨s, hs, ms⟩ := one_ge hb (p := p + 1) (by omega) (by omega) (l := [0, 0, 1, 2, 2, 3, 6, 12, x]) (by simp)
  simp only [List.mem_cons, List.not_mem_nil, or_false] at ms
  have hs0 : 0 ≤ s ∧ s ≤ 12 := by omega
  obtain ⟨y, hy, _, _⟩ := pick_ge hb (p := p + 1 + 1) (by omega) (by omega) (n := 5) (by omega)
  have p16 := pw16
  by_cases h0 : y = 0
  · obtain ⟨z, hz, z0, z1⟩ := pick_ge hb (p := p + 1 + 1 + 1) (by omega) (by omega) (n := 200) (by omega)
    refine ⟨mkN (z - 100), mkL (z - 100), s, p + 1 + 1 + 1 + 1, fun k hk => ?_, mk_ok (by omega) (by omega), hs0.1, hs0.2, by omega, by omega⟩
    unfold spec_l14Dec.f
    rw [hx k (by omega), Str.bS, hs k (by omega), Str.bS, hy k (by omega), Str.bS, if_pos h0, hz k (by omega), Str.bS, Str.w64 (by omega) (by omega), sBigOf_ge (by omega) (by omega) k (by omega), Str.bS]
  · by_cases h1 : y = 1
    · obtain ⟨z, hz, mz⟩ := one_ge hb (p := p + 1 + 1 + 1) (by omega) (by omega) (l := [5, 15, 25, 35, 45, (-5), (-15), (-25), 50, 150, 250, 499, 500, 501, (-500), 1500, 2500, (-2500), 1000, 20]) (by simp)
      simp only [List.mem_cons, List.not_mem_nil, or_false] at mz
      refine ⟨mkN z, mkL z, s, p + 1 + 1 + 1 + 1, fun k hk => ?_, mk_ok (by omega) (by omega), hs0.1, hs0.2, by omega, by omega⟩
      unfold spec_l14Dec.f
      rw [hx k (by omega), Str.bS, hs k (by omega), Str.bS, hy k (by omega), Str.bS, if_neg h0, if_pos h1, hz k (by omega), Str.bS, sBigOf_ge (by omega) (by omega) k (by omega), Str.bS]
    · by_cases h2 : y = 2
      · obtain ⟨g, r, p', hr, ho, q1, q2⟩ := bigY_any hb (p := p + 1 + 1 + 1) (by omega) (by omega) (a := 8) (by omega) (by omega)
        refine ⟨g, r, s, p', fun k hk => ?_, ho, hs0.1, hs0.2, by omega, by omega⟩
        unfold spec_l14Dec.f
        rw [hx k (by omega), Str.bS, hs k (by omega), Str.bS, hy k (by omega), Str.bS, if_neg h0, if_neg h1, if_pos h2, hr k (by omega), Str.bS]
      · obtain ⟨g, r, p', hr, ho, q1, q2⟩ := bigY_any hb (p := p + 1 + 1 + 1) (by omega) (by omega) (a := 30) (by omega) (by omega)
        refine ⟨g, r, s, p', fun k hk => ?_, ho, hs0.1, hs0.2, by omega, by omega⟩
        unfold spec_l14Dec.f
        rw [hx k (by omega), Str.bS, hs k (by omega), Str.bS, hy k (by omega), Str.bS, if_neg h0, if_neg h1, if_neg h2, hr k (by omega), Str.bS]
theorem l2Put_any {n : Bool} {l : List Int} {s : Int} (ho : BOk n l) (s0 : 0 ≤ s) (s1 : s ≤ 12) : ∃ t, (∀ k, 200 ≤ k → spec_l2Put.f k n l s = some (str t)) ∧ t.length ≤ 200 := by
  have h65 := textL_16 ho.2.1 ho.1
  have hne : 0 < (textL l).length := List.length_pos_iff.2 (textL_ne l)
  have run : ∀ k, 200 ≤ k → spec_l2Put.f k n l s = (if 0 < s then some (str (pointT n s (zerosL (s.toNat + 1 - (textL l).length) ++ textL l))) else some (str (if n = true then 45 :: textL l else textL l))) := by
    intro k hk
    unfold spec_l2Put.f
    rw [figs ho.2.1 ho.1 k hk]; simp only [Str.bS]
    exact l2Put_l0 n l s0 s1 20 k _ (by omega) (by omega) hne (by omega)
  by_cases hs : 0 < s
  · refine ⟨_, fun k hk => by rw [run k hk, if_pos hs], ?_⟩
    unfold pointT
    have hz : (zerosL (s.toNat + 1 - (textL l).length) ++ textL l).length ≤ 100 := by rw [List.length_append, zerosL_len]; omega
    have hi : (if n = true then [45] else ([] : List UInt8)).length ≤ 1 := by split <;> simp
    simp only [List.length_append, List.length_take, List.length_drop, List.length_singleton] at hz ⊢
    omega
  · refine ⟨_, fun k hk => by rw [run k hk, if_neg hs], ?_⟩
    split
    · rw [List.length_cons]; omega
    · omega
theorem drawDecGet_any {l : List Int} (hl : ∀ x ∈ l, (Lit.int .u8 x).wf = true) : ∃ s, (∀ k, 4000 ≤ k → spec_DrawDecGet.f k l = some (str s)) ∧ s.length ≤ 1000 := by
  obtain ⟨b, hb, hB⟩ := open_any hl
  obtain ⟨r, hr, _, _⟩ := pick_ge hB (p := 0) (by omega) (by omega) (n := 12) (by omega)
  by_cases h0 : r = 0
  · obtain ⟨v, hv, v1⟩ := of_any hB (p := 0 + 1) (by omega) (by omega) (l := [(⟨#[]⟩ : ByteArray), (⟨#[45]⟩ : ByteArray), (⟨#[46]⟩ : ByteArray), (⟨#[49, 46]⟩ : ByteArray), (⟨#[46, 53]⟩ : ByteArray), (⟨#[45, 48, 46, 48, 48]⟩ : ByteArray), (⟨#[48, 46, 48, 48]⟩ : ByteArray), (⟨#[48, 48, 46, 49]⟩ : ByteArray), str (List.replicate 31 57), (⟨#[49, 46]⟩ : ByteArray) ++ str (List.replicate 13 48)]) (by simp) 100 (by decide)
    refine ⟨v, fun k hk => ?_, by omega⟩
    unfold spec_DrawDecGet.f
    rw [hb]; simp only [Str.bS]
    rw [hr k (by omega)]; simp only [Str.bS]
    rw [if_pos h0, show (⟨#[57]⟩ : ByteArray) = str [57] from rfl, manyB 57 31 (by omega) k (by omega)]; simp only [Str.bS]
    rw [show (⟨#[48]⟩ : ByteArray) = str [48] from rfl, manyB 48 13 (by omega) k (by omega)]; simp only [Str.bS]
    rw [str_size, List.length_replicate, show (31 : Int).toNat = 31 from rfl, show (13 : Int).toNat = 13 from rfl, if_pos (by omega), hv k (by omega)]; simp only [Str.bS]
  · obtain ⟨g, r2, s2, q, hs, ho, q0, q3, q1, q2⟩ := decY_any hB (p := 0 + 1) (by omega) (by omega)
    obtain ⟨t, ht, hlen⟩ := l2Put_any ho q0 q3
    obtain ⟨v, p', hv, v1⟩ := bent_any hB (p := q) (by omega) (by omega) t (by omega)
    refine ⟨v, fun k hk => ?_, by omega⟩
    unfold spec_DrawDecGet.f
    rw [hb]; simp only [Str.bS]
    rw [hr k (by omega)]; simp only [Str.bS]
    rw [if_neg h0, hs k (by omega)]; simp only [Str.bS]
    rw [ht k (by omega)]; simp only [Str.bS]
    rw [hv k (by omega)]; simp only [Str.bS]
end Go.Proofs.YtdbgpoileffbeaaGreatDoor.Drw
end
section
namespace Go.Proofs.YtdbgpoileffbeaaGreatDoor.Pure
open Go.RowKit Go.Proofs.YtdbgpoileffbeaaGreatDoor.Pr Go.Proofs.YtdbgpoileffbeaaGreatDoor.Ext Go.Proofs.YtdbgpoileffbeaaGreatDoor.Dec Go.Proofs.YtdbgpoileffbeaaGreatDoor.Jt Go.Proofs.YtdbgpoileffbeaaGreatDoor.Val Go.Proofs.YtdbgpoileffbeaaGreatDoor.Str Go.Proofs.YtdbgpoileffbeaaGreatDoorW.PrintWords Go.Proofs.YtdbgpoileffbeaaGreatDoorW.PrintLast Go.Proofs.YtdbgpoileffbeaaGreatDoorW.PrintMore
set_option linter.unusedVariables false
set_option linter.unusedSimpArgs false
theorem told_len {s : List UInt8} {r : Bool × List Int × Int × Bool} (h : ToldDec s r) : r.2.1.length ≤ 1000 := by
  rcases h with ⟨_, h⟩ | ⟨rfl, _⟩
  · have := (decB_ok h.1).1.1; omega
  · simp
theorem FnDecGet {l : List Int} (hl : ∀ x ∈ l, (Lit.int .u8 x).wf = true) : laws_FnDecGet.f 9000 l = some true := by
  unfold laws_FnDecGet.f
  split
  · rfl
  · obtain ⟨s, hs, ls⟩ := Drw.drawDecGet_any hl
    obtain ⟨r, h1, t1⟩ := implDecGet s (by omega)
    obtain ⟨r', h2, t2⟩ := specDecGet s (by omega)
    obtain rfl := t1.uniq t2
    have hlen := told_len t1
    have jt : ∀ k, 1010 ≤ k → laws_jtDec.f k r.1 r.2.1 r.2.2.1 r.1 r.2.1 r.2.2.1 = some true := fun k hk => by
      unfold laws_jtDec.f
      rw [if_pos rfl, jtBig_ge _ _ _ _ hlen k hk]; simp
    rw [hs _ (by decide)]; simp only [Str.bS]
    rw [h1 _ (by omega)]; simp only [Str.bS]
    rw [h2 _ (by omega)]; simp only [Str.bS]
    rw [if_neg (by simp), jt _ (by decide)]; simp only [Str.bS]
    rw [if_pos trivial, laws_FnDecGet.j0]
    rcases t1 with ⟨e, hd, es⟩ | ⟨e, _⟩
    · rw [e, if_neg (by decide), implDecPut, if_pos hd]; simp only [Str.bS]
      rw [str_toList, str_toList, if_pos es.symm, implDecOk, hd]; simp only [Str.bS]
    · have j := jt 8999 (by decide)
      rw [e] at j ⊢
      rw [if_pos (by decide), if_pos (by decide), j]
      rfl
end Go.Proofs.YtdbgpoileffbeaaGreatDoor.Pure
end
section
namespace Go.Proofs.YtdbgpoileffbeaaGreatDoor.LaidE
open Go Go.RowKit Go.Proofs.YtdbgpoileffbeaaGreatDoor.Ext
set_option linter.unusedVariables false
theorem powType : (Tryz.prog.globals[3]?).map (·.type) = some 133 := by kernel_rfl
theorem powData : (Rows.laid_internal_strconv_uint64pow10 : DataW Unit) = Lib.tabData .u64 Lib.pow10Tab := rfl
theorem envI_of {r : List (String × DataW Unit)} {W : World} (h : laidMet Tryz.prog (("internal/strconv.uint64pow10", Rows.laid_internal_strconv_uint64pow10) :: r) W) : EnvI W :=
  Lib.tabIs_of_head gPow powType Tryz.underlying133 Tryz.underlying100 (by kernel_rfl) (by kernel_rfl) (powData ▸ h)
theorem star : "*" ++ "errors.errorString" = "*errors.errorString" := by decide
theorem rowErr (u : TypeId) (h : Tryz.prog.typeName? 3 u = some "*errors.errorString") : u = 129 :=
  typeName_ptr_named (nm := "errors.errorString") (by rw [star]; kernel_rfl) (by kernel_rfl) (by decide) u (by rw [star]; exact h)
theorem gSyn : Tryz.prog.globalNamed "strconv.ErrSyntax" = some 1 := by kernel_rfl
theorem gRan : Tryz.prog.globalNamed "strconv.ErrRange" = some 2 := by kernel_rfl
theorem gSynType : (Tryz.prog.globals[1]?).map (·.type) = some 65 := by kernel_rfl
theorem gRanType : (Tryz.prog.globals[2]?).map (·.type) = some 65 := by kernel_rfl
theorem cellsE : Tryz.prog.cellsOf 131 = 1 := by kernel_rfl
theorem cellsS : Tryz.prog.cellsOf 9 = 1 := by kernel_rfl
theorem syn_of {r : List (String × DataW Unit)} {W : World} (h : laidMet Tryz.prog (("strconv.ErrSyntax", Rows.laid_strconv_ErrSyntax) :: r) W) : HoldsErr 1 W := by
  obtain ⟨a0, s0, hv0, -, -, -⟩ := laid_sentinel h gSyn gSynType Tryz.underlying65 rowErr Tryz.underlying129 Tryz.underlying131 rfl rfl Tryz.underlying9 cellsE cellsS
  exact ⟨_, by simpa using World.var?_cell gSyn hv0 0, .inr ⟨_, _, rfl⟩⟩
theorem ran_of {r : List (String × DataW Unit)} {W : World} (h : laidMet Tryz.prog (("strconv.ErrRange", Rows.laid_strconv_ErrRange) :: r) W) : HoldsErr 2 W := by
  obtain ⟨a0, s0, hv0, -, -, -⟩ := laid_sentinel h gRan gRanType Tryz.underlying65 rowErr Tryz.underlying129 Tryz.underlying131 rfl rfl Tryz.underlying9 cellsE cellsS
  exact ⟨_, by simpa using World.var?_cell gRan hv0 0, .inr ⟨_, _, rfl⟩⟩
theorem len_of {W : World} (h : W.ShapedOpen Tryz.prog) : ∃ m, W.cell? ⟨0, 0, none⟩ = some (.int .i64 m) :=
  cell_of_shapedOpen_int h (of_decide_eq_true (by kernel_rfl)) (t := 3) (zero := #[.int .i64 0]) (by kernel_rfl) rfl (by kernel_rfl) (by kernel_rfl) Tryz.underlying3
end Go.Proofs.YtdbgpoileffbeaaGreatDoor.LaidE
end
