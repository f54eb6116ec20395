/- For all ints y, m, d: the program's DayOf returns what the reference's returns. No condition. -/
import Derived.Test.YtaifkjenoebgiaaPFnExactDayOfx1
namespace Go.Proofs.Ytaifkjenoebgiaa.Pure
open Go.RowKit Go.Proofs.Ytaifkjenoebgiaa.PFnExactDayOf Go.Proofs.YtaifkjenoebgiaaW.PrintWords Go.Proofs.YtaifkjenoebgiaaW.PrintLast
set_option linter.unusedVariables false
set_option linter.unusedSimpArgs false
namespace BFnExactDayOf
theorem wf64 {a : Int} (h : (Lit.int .i64 a).wf = true) : -9223372036854775808 ≤ a ∧ a ≤ 9223372036854775807 := by
  simp [Lit.wf, IntKind.min, IntKind.max, IntKind.signed, IntKind.bits] at h; omega
theorem wf8 {a : Int} (h : (Lit.int .u8 a).wf = true) : 0 ≤ a ∧ a ≤ 255 := by
  simp [Lit.wf, IntKind.min, IntKind.max, IntKind.signed, IntKind.bits] at h; omega
theorem w64 {x : Int} (h : -9223372036854775808 ≤ x) (h' : x ≤ 9223372036854775807) : wrap64 x = x := by unfold wrap64; omega

/-! plain: the calendar -/
def lpI (y : Int) : Int := if y % 4 = 0 ∧ (y % 100 ≠ 0 ∨ y % 400 = 0) then 1 else 0
theorem lpI_01 (y : Int) : lpI y = 0 ∨ lpI y = 1 := by unfold lpI; split <;> omega
def ld (y m : Int) : Int := if m = 2 then 28 + lpI y else if m = 4 then 30 else if m = 6 then 30 else if m = 9 then 30 else if m = 11 then 30 else 31
theorem ld_bd (y m : Int) : 28 ≤ ld y m ∧ ld y m ≤ 31 := by
  have := lpI_01 y
  unfold ld
  repeat' split
  all_goals omega
def cum (l m : Int) : Int :=
  if m ≤ 1 then 0 else if m = 2 then 31 else if m = 3 then 59 + l else if m = 4 then 90 + l else if m = 5 then 120 + l else if m = 6 then 151 + l else if m = 7 then 181 + l
  else if m = 8 then 212 + l else if m = 9 then 243 + l else if m = 10 then 273 + l else if m = 11 then 304 + l else if m = 12 then 334 + l else 365 + l
theorem mcases {m : Int} (h1 : 1 ≤ m) (h2 : m ≤ 12) : m = 1 ∨ m = 2 ∨ m = 3 ∨ m = 4 ∨ m = 5 ∨ m = 6 ∨ m = 7 ∨ m = 8 ∨ m = 9 ∨ m = 10 ∨ m = 11 ∨ m = 12 := by omega
theorem cum_succ (y m : Int) (h1 : 1 ≤ m) (h2 : m ≤ 12) : cum (lpI y) (m + 1) = cum (lpI y) m + ld y m := by
  rcases mcases h1 h2 with rfl | rfl | rfl | rfl | rfl | rfl | rfl | rfl | rfl | rfl | rfl | rfl <;> simp [cum, ld] <;> omega
theorem cum_one (l : Int) : cum l 1 = 0 := rfl
theorem cum_13 (l : Int) : cum l 13 = 365 + l := rfl
theorem ite_bd {P : Prop} [Decidable P] {a b lo hi : Int} (ha : lo ≤ a ∧ a ≤ hi) (hb : lo ≤ b ∧ b ≤ hi) : lo ≤ (if P then a else b) ∧ (if P then a else b) ≤ hi := by split <;> assumption
theorem cum_bd (y m : Int) : 0 ≤ cum (lpI y) m ∧ cum (lpI y) m ≤ 366 := by
  have := lpI_01 y
  unfold cum
  repeat' refine ite_bd ?_ ?_
  all_goals omega
def dby (y : Int) : Int := 365 * (y - 1) + (y - 1) / 4 - (y - 1) / 100 + (y - 1) / 400
theorem dby_succ (y : Int) : dby (y + 1) = dby y + 365 + lpI y := by
  unfold dby lpI
  split <;> omega
theorem dby_bd {y : Int} (h1 : 1 ≤ y) (h2 : y ≤ 10000) : 0 ≤ dby y ∧ dby y ≤ 3652059 := by unfold dby; omega
theorem dby_mono {a b : Int} (h : a ≤ b) : dby a ≤ dby b := by unfold dby; omega
theorem dby_gap {a b : Int} (h : a < b) : dby a + 365 ≤ dby b := by unfold dby; omega

theorem specLeap_eq {y : Int} (h : 0 ≤ y) : spec_l3Leap.f y = some (decide (lpI y = 1)) := by
  unfold spec_l3Leap.f lpI
  rw [Int.tmod_eq_emod_of_nonneg h, Int.tmod_eq_emod_of_nonneg h, Int.tmod_eq_emod_of_nonneg h]
  by_cases h4 : y % 4 = 0 <;> by_cases h100 : y % 100 = 0 <;> by_cases h400 : y % 400 = 0 <;> simp [h4, h100, h400] <;> omega
theorem implLeap_eq {y : Int} (h : 0 ≤ y) : impl_leap.f y = some (decide (lpI y = 1)) := by
  unfold impl_leap.f lpI
  rw [Int.tmod_eq_emod_of_nonneg h, Int.tmod_eq_emod_of_nonneg h, Int.tmod_eq_emod_of_nonneg h]
  by_cases h4 : y % 4 = 0 <;> by_cases h100 : y % 100 = 0 <;> by_cases h400 : y % 400 = 0 <;> simp [h4, h100, h400]
theorem specLast_eq {y : Int} (h : 0 ≤ y) (m : Int) : spec_l3Last.f y m = some (ld y m) := by
  unfold spec_l3Last.f ld
  rw [specLeap_eq h]
  have := lpI_01 y
  by_cases h2 : m = 2
  · rw [if_pos h2, if_pos h2]
    rcases this with e | e <;> simp [e]
  · rw [if_neg h2, if_neg h2]
    repeat' split
    all_goals rfl
def okYM (y m : Int) : Prop := 1 ≤ y ∧ y ≤ 9999 ∧ 1 ≤ m ∧ m ≤ 12
instance (y m : Int) : Decidable (okYM y m) := by unfold okYM; infer_instance
def dl (y m : Int) : Int := if okYM y m then ld y m else 0
theorem dl_ok {y m : Int} (h1 : 1 ≤ y) (h2 : y ≤ 9999) (h3 : 1 ≤ m) (h4 : m ≤ 12) : dl y m = ld y m := by unfold dl; rw [if_pos (show okYM y m from ⟨h1, h2, h3, h4⟩)]
theorem dl_bd (y m : Int) : 0 ≤ dl y m ∧ dl y m ≤ 31 := by
  have := ld_bd y m
  unfold dl; split <;> omega
theorem implLast_eq (k : Nat) (y m : Int) : impl_DayLast.f (k + 2) y m = some (dl y m) := by
  unfold impl_DayLast.f impl_in.f
  by_cases hy1 : y ≥ 1
  · by_cases hy2 : y ≤ 9999
    · by_cases hm1 : m ≥ 1
      · by_cases hm2 : m ≤ 12
        · rw [dl_ok hy1 hy2 hm1 hm2]
          have := lpI_01 y
          simp only [hy1, hy2, hm1, hm2, if_true, decide_true, Option.bind_some, Bool.not_true, impl_DayLast.j0, implLeap_eq (show 0 ≤ y by omega)]
          unfold ld
          by_cases h2 : m = 2
          · rcases this with e | e <;> simp [impl_DayLast.j1, h2, e]
          · simp only [impl_DayLast.j1, h2, if_false]
            simp only [Bool.false_eq_true, if_false]
            repeat' split
            all_goals rfl
        · have : dl y m = 0 := by unfold dl; rw [if_neg (by unfold okYM; omega)]
          simp [hy1, hy2, hm1, hm2, impl_DayLast.j0, this]
      · have : dl y m = 0 := by unfold dl; rw [if_neg (by unfold okYM; omega)]
        simp [hy1, hy2, hm1, impl_DayLast.j0, this]
    · have : dl y m = 0 := by unfold dl; rw [if_neg (by unfold okYM; omega)]
      simp [hy1, hy2, impl_DayLast.j0, this]
  · have : dl y m = 0 := by unfold dl; rw [if_neg (by unfold okYM; omega)]
    simp [hy1, impl_DayLast.j0, this]

theorem ahead_eq {y : Int} (h1 : 1 ≤ y) (h2 : y ≤ 10000) : impl_ahead.f y = some (dby y) := by
  unfold impl_ahead.f dby
  rw [w64 (x := y - 1) (by omega) (by omega), Int.tdiv_eq_ediv_of_nonneg (show 0 ≤ y - 1 by omega), Int.tdiv_eq_ediv_of_nonneg (show 0 ≤ y - 1 by omega), Int.tdiv_eq_ediv_of_nonneg (show 0 ≤ y - 1 by omega)]
  rw [w64 (x := 365 * (y - 1)) (by omega) (by omega), w64 (x := (y - 1) / 4) (by omega) (by omega), w64 (x := (y - 1) / 100) (by omega) (by omega), w64 (x := (y - 1) / 400) (by omega) (by omega)]
  rw [w64 (x := 365 * (y - 1) + (y - 1) / 4) (by omega) (by omega), w64 (x := 365 * (y - 1) + (y - 1) / 4 - (y - 1) / 100) (by omega) (by omega), w64 (by omega) (by omega)]
theorem implOf_l0 {y m : Int} (hy1 : 1 ≤ y) (hy2 : y ≤ 9999) (hm2 : m ≤ 12) (d : Nat) : ∀ (k : Nat) (n j : Int), 0 ≤ n → n ≤ 10000000 + 31 * j → 1 ≤ j → j ≤ m → m - j = d → d < k →
    impl_DayOf.l0 (k + 2) y m n j = some (n + cum (lpI y) m - cum (lpI y) j) := by
  induction d with
  | zero =>
    intro k n j h0 h1 hj1 hj2 hd hk
    obtain rfl : j = m := by omega
    obtain ⟨k, rfl⟩ : ∃ i, k = i + 1 := ⟨k - 1, by omega⟩
    rw [impl_DayOf.l0]
    rw [if_neg (by omega)]
    congr 1; omega
  | succ d ih =>
    intro k n j h0 h1 hj1 hj2 hd hk
    obtain ⟨k, rfl⟩ : ∃ i, k = i + 1 := ⟨k - 1, by omega⟩
    have hb := ld_bd y j
    have hs := cum_succ y j hj1 (by omega)
    show impl_DayOf.l0 (k + 2 + 1) y m n j = _
    rw [impl_DayOf.l0]
    rw [if_pos (by omega), implLast_eq, dl_ok hy1 hy2 hj1 (by omega)]
    simp only [Option.bind_some]
    rw [w64 (by omega) (by omega), w64 (by omega) (by omega), ih k _ _ (by omega) (by omega) (by omega) (by omega) (by omega) (by omega), hs]
    congr 1; omega
def okD (y m d : Int) : Prop := okYM y m ∧ 1 ≤ d ∧ d ≤ ld y m
instance (y m d : Int) : Decidable (okD y m d) := by unfold okD; infer_instance
def num (y m d : Int) : Int := dby y + cum (lpI y) m + d
def dof (y m d : Int) : Int := if okD y m d then num y m d else 0
theorem implOf_eq (k : Nat) (y m d : Int) : impl_DayOf.f (k + 16) y m d = some (dof y m d) := by
  unfold impl_DayOf.f
  rw [show k + 16 = (k + 14) + 2 from rfl, implLast_eq]
  simp only [Option.bind_some]
  unfold impl_in.f dof
  by_cases h : okD y m d
  · have h' := h
    obtain ⟨⟨h1, h2, h3, h4⟩, h5, h6⟩ := h'
    have hb := dby_bd h1 (show y ≤ 10000 by omega)
    have hl := ld_bd y m
    rw [if_pos h, dl_ok h1 h2 h3 h4, if_pos h5]
    simp only [Option.bind_some]
    rw [if_pos (decide_eq_true h6), ahead_eq h1 (by omega)]
    simp only [Option.bind_some]
    rw [w64 (by omega) (by omega), implOf_l0 h1 h2 h4 (m - 1).toNat (k + 14) _ 1 (by omega) (by omega) (by omega) h3 (by omega) (by omega), cum_one]
    unfold num
    congr 1; omega
  · rw [if_neg h]
    by_cases h5 : d ≥ 1
    · have h6 : ¬ d ≤ dl y m := by
        intro h6
        apply h
        unfold dl at h6
        by_cases hq : okYM y m
        · rw [if_pos hq] at h6; exact ⟨hq, h5, h6⟩
        · rw [if_neg hq] at h6; omega
      simp [h5, h6]
    · simp [h5]

theorem before_eq {y : Int} (h1 : 1 ≤ y) (h2 : y ≤ 10000) : spec_l3Before.f y = some (dby y) := by
  unfold spec_l3Before.f dby
  rw [w64 (x := y - 1) (by omega) (by omega), Int.tdiv_eq_ediv_of_nonneg (show 0 ≤ y - 1 by omega), Int.tdiv_eq_ediv_of_nonneg (show 0 ≤ y - 1 by omega), Int.tdiv_eq_ediv_of_nonneg (show 0 ≤ y - 1 by omega)]
  rw [w64 (x := 365 * (y - 1)) (by omega) (by omega), w64 (x := (y - 1) / 4) (by omega) (by omega), w64 (x := (y - 1) / 100) (by omega) (by omega), w64 (x := (y - 1) / 400) (by omega) (by omega)]
  rw [w64 (x := 365 * (y - 1) + (y - 1) / 4) (by omega) (by omega), w64 (x := 365 * (y - 1) + (y - 1) / 4 - (y - 1) / 100) (by omega) (by omega), w64 (by omega) (by omega)]
theorem specOf_l0 {y m : Int} (hy1 : 1 ≤ y) (hm2 : m ≤ 12) (d : Nat) : ∀ (k : Nat) (n j : Int), 0 ≤ n → n ≤ 10000000 + 31 * j → 1 ≤ j → j ≤ m → m - j = d → d < k →
    spec_l3Of.l0 k y m n j = some (n + cum (lpI y) m - cum (lpI y) j) := by
  induction d with
  | zero =>
    intro k n j h0 h1 hj1 hj2 hd hk
    obtain rfl : j = m := by omega
    obtain ⟨k, rfl⟩ : ∃ i, k = i + 1 := ⟨k - 1, by omega⟩
    rw [spec_l3Of.l0]
    rw [if_neg (by omega)]
    congr 1; omega
  | succ d ih =>
    intro k n j h0 h1 hj1 hj2 hd hk
    obtain ⟨k, rfl⟩ : ∃ i, k = i + 1 := ⟨k - 1, by omega⟩
    have hb := ld_bd y j
    have hs := cum_succ y j hj1 (by omega)
    rw [spec_l3Of.l0]
    rw [if_pos (by omega), specLast_eq (by omega)]
    simp only [Option.bind_some]
    rw [w64 (by omega) (by omega), w64 (by omega) (by omega), ih k _ _ (by omega) (by omega) (by omega) (by omega) (by omega) (by omega), hs]
    congr 1; omega
/-- the day's number, of a year and month that are there -/
theorem specL3Of_eq (k : Nat) {y m d : Int} (h1 : 1 ≤ y) (h2 : y ≤ 9999) (h3 : 1 ≤ m) (h4 : m ≤ 12) (h5 : 0 ≤ d) (h6 : d ≤ 31) : spec_l3Of.f (k + 12) y m d = some (num y m d) := by
  unfold spec_l3Of.f
  have hb := dby_bd h1 (show y ≤ 10000 by omega)
  rw [before_eq h1 (by omega)]
  simp only [Option.bind_some]
  rw [w64 (by omega) (by omega), specOf_l0 h1 h4 (m - 1).toNat (k + 12) _ 1 (by omega) (by omega) (by omega) h3 (by omega) (by omega), cum_one]
  unfold num
  congr 1; omega

theorem specOf_eq (k : Nat) (y m d : Int) : spec_DayOf.f (k + 12) y m d = some (dof y m d) := by
  unfold spec_DayOf.f spec_l1In.f dof
  by_cases hq : okYM y m
  · obtain ⟨h1, h2, h3, h4⟩ := hq
    have hl := ld_bd y m
    rw [if_pos (show y ≥ 1 from h1)]
    simp only [Option.bind_some]
    rw [if_pos (decide_eq_true h2), if_pos (show m ≥ 1 from h3)]
    simp only [Option.bind_some]
    rw [if_pos (decide_eq_true h4), specLast_eq (by omega)]
    simp only [Option.bind_some]
    by_cases h5 : d < 1
    · rw [if_pos h5, if_neg (by unfold okD; omega)]
    · rw [if_neg h5]
      by_cases h6 : d > ld y m
      · rw [if_pos h6, if_neg (by unfold okD; omega)]
      · rw [if_neg h6, if_pos (show okD y m d from ⟨⟨h1, h2, h3, h4⟩, by omega, by omega⟩), specL3Of_eq k h1 h2 h3 h4 (by omega) (by omega)]
        simp only [Option.bind_some]
  · rw [if_neg (show ¬ okD y m d from fun h => hq h.1)]
    unfold okYM at hq
    by_cases hy1 : y ≥ 1 <;> by_cases hy2 : y ≤ 9999 <;> by_cases hm1 : m ≥ 1 <;> by_cases hm2 : m ≤ 12 <;> simp [hy1, hy2, hm1, hm2] <;> omega
end BFnExactDayOf
open BFnExactDayOf
theorem FnExactDayOf : laws_FnExactDayOf.Pure := by
  intro y m d _ _ _
  refine ⟨16, ?_⟩
  unfold laws_FnExactDayOf.f
  rw [specOf_eq 4, implOf_eq 0]
  simp
end Go.Proofs.Ytaifkjenoebgiaa.Pure
