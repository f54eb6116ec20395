/- For every code: months lead to the same day of another month, or its last; of the day and span drawn of it. No condition. -/
import Derived.Test.YtabjadjcecnicaaOwnFnDayAdd
namespace Go.Proofs.Ytabjadjcecnicaa.Pure
open Go.RowKit Go.Proofs.Ytabjadjcecnicaa.PFnDayAdd Go.Proofs.YtabjadjcecnicaaW.PrintWords Go.Proofs.YtabjadjcecnicaaW.PrintLast
set_option linter.unusedVariables false
set_option linter.unusedSimpArgs false
namespace BFnDayAdd
theorem wf64 {a : Int} (h : (Lit.int .i64 a).wf = true) : -9223372036854775808 ≤ a ∧ a ≤ 9223372036854775807 := by
  simp [Lit.wf, IntKind.min, IntKind.max, IntKind.signed, IntKind.bits] at h; omega
theorem wf8 {a : Int} (h : (Lit.int .u8 a).wf = true) : 0 ≤ a ∧ a ≤ 255 := by
  simp [Lit.wf, IntKind.min, IntKind.max, IntKind.signed, IntKind.bits] at h; omega
theorem w64 {x : Int} (h : -9223372036854775808 ≤ x) (h' : x ≤ 9223372036854775807) : wrap64 x = x := by unfold wrap64; omega

/-! plain: the calendar -/
def lpI (y : Int) : Int := if y % 4 = 0 ∧ (y % 100 ≠ 0 ∨ y % 400 = 0) then 1 else 0
theorem lpI_01 (y : Int) : lpI y = 0 ∨ lpI y = 1 := by unfold lpI; split <;> omega
def ld (y m : Int) : Int := if m = 2 then 28 + lpI y else if m = 4 then 30 else if m = 6 then 30 else if m = 9 then 30 else if m = 11 then 30 else 31
theorem ld_bd (y m : Int) : 28 ≤ ld y m ∧ ld y m ≤ 31 := by
  have := lpI_01 y
  unfold ld
  repeat' split
  all_goals omega
def cum (l m : Int) : Int :=
  if m ≤ 1 then 0 else if m = 2 then 31 else if m = 3 then 59 + l else if m = 4 then 90 + l else if m = 5 then 120 + l else if m = 6 then 151 + l else if m = 7 then 181 + l
  else if m = 8 then 212 + l else if m = 9 then 243 + l else if m = 10 then 273 + l else if m = 11 then 304 + l else if m = 12 then 334 + l else 365 + l
theorem mcases {m : Int} (h1 : 1 ≤ m) (h2 : m ≤ 12) : m = 1 ∨ m = 2 ∨ m = 3 ∨ m = 4 ∨ m = 5 ∨ m = 6 ∨ m = 7 ∨ m = 8 ∨ m = 9 ∨ m = 10 ∨ m = 11 ∨ m = 12 := by omega
theorem cum_succ (y m : Int) (h1 : 1 ≤ m) (h2 : m ≤ 12) : cum (lpI y) (m + 1) = cum (lpI y) m + ld y m := by
  rcases mcases h1 h2 with rfl | rfl | rfl | rfl | rfl | rfl | rfl | rfl | rfl | rfl | rfl | rfl <;> simp [cum, ld] <;> omega
theorem cum_one (l : Int) : cum l 1 = 0 := rfl
theorem cum_13 (l : Int) : cum l 13 = 365 + l := rfl
theorem ite_bd {P : Prop} [Decidable P] {a b lo hi : Int} (ha : lo ≤ a ∧ a ≤ hi) (hb : lo ≤ b ∧ b ≤ hi) : lo ≤ (if P then a else b) ∧ (if P then a else b) ≤ hi := by split <;> assumption
theorem cum_bd (y m : Int) : 0 ≤ cum (lpI y) m ∧ cum (lpI y) m ≤ 366 := by
  have := lpI_01 y
  unfold cum
  repeat' refine ite_bd ?_ ?_
  all_goals omega
def dby (y : Int) : Int := 365 * (y - 1) + (y - 1) / 4 - (y - 1) / 100 + (y - 1) / 400
theorem dby_succ (y : Int) : dby (y + 1) = dby y + 365 + lpI y := by
  unfold dby lpI
  split <;> omega
theorem dby_bd {y : Int} (h1 : 1 ≤ y) (h2 : y ≤ 10000) : 0 ≤ dby y ∧ dby y ≤ 3652059 := by unfold dby; omega
theorem dby_mono {a b : Int} (h : a ≤ b) : dby a ≤ dby b := by unfold dby; omega
theorem dby_gap {a b : Int} (h : a < b) : dby a + 365 ≤ dby b := by unfold dby; omega

def num (y m d : Int) : Int := dby y + cum (lpI y) m + d

/-! plain: months counted on, the day of a month -/
def ms (K : Int) : Int := dby (K / 12) + cum (lpI (K / 12)) (K % 12 + 1)
def ml (K : Int) : Int := ld (K / 12) (K % 12 + 1)
theorem ml_bd (K : Int) : 28 ≤ ml K ∧ ml K ≤ 31 := ld_bd _ _
theorem ms_succ (K : Int) : ms (K + 1) = ms K + ml K := by
  unfold ms ml
  by_cases h : K % 12 = 11
  · have e1 : (K + 1) / 12 = K / 12 + 1 := by omega
    have e2 : (K + 1) % 12 = 0 := by omega
    have hs := cum_succ (K / 12) 12 (by omega) (by omega)
    rw [show (12 : Int) + 1 = 13 from rfl, cum_13] at hs
    have hd := dby_succ (K / 12)
    rw [e1, e2, h, show (0 : Int) + 1 = 1 from rfl, cum_one, show (11 : Int) + 1 = 12 from rfl]
    omega
  · have e1 : (K + 1) / 12 = K / 12 := by omega
    have e2 : (K + 1) % 12 = K % 12 + 1 := by omega
    have hs := cum_succ (K / 12) (K % 12 + 1) (by omega) (by omega)
    rw [e1, e2]
    omega
theorem ms_add (K : Int) (n : Nat) : ms K + 28 * n ≤ ms (K + n) ∧ ms (K + n) ≤ ms K + 31 * n := by
  induction n with
  | zero => simp
  | succ n ih =>
    have h := ms_succ (K + n)
    have hb := ml_bd (K + n)
    have e : K + ((n + 1 : Nat) : Int) = K + n + 1 := by omega
    rw [e]
    omega
theorem ms_le {a b : Int} (h : a ≤ b) : ms a + 28 * (b - a) ≤ ms b ∧ ms b ≤ ms a + 31 * (b - a) := by
  have := ms_add a (b - a).toNat
  rw [show a + ((b - a).toNat : Int) = b from by omega, show (((b - a).toNat : Nat) : Int) = b - a from by omega] at this
  exact this
theorem ms_lt {a b : Int} (h : a < b) : ms a + ml a ≤ ms b := by
  have h1 := ms_succ a
  have h2 := ms_le (show a + 1 ≤ b by omega)
  omega
theorem ms_12 : ms 12 = 0 := by decide
theorem ms_120000 : ms 120000 = 3652059 := by decide
/-- n is the day d of month K -/
def At (n K d : Int) : Prop := 12 ≤ K ∧ K ≤ 119999 ∧ 1 ≤ d ∧ d ≤ ml K ∧ n = ms K + d
theorem At.bd {n K d : Int} (h : At n K d) : 1 ≤ n ∧ n ≤ 3652059 := by
  obtain ⟨h1, h2, h3, h4, rfl⟩ := h
  have a := ms_le h1
  have b := ms_lt (show K < 120000 by omega)
  rw [ms_12] at a
  rw [ms_120000] at b
  omega
theorem At.uniq {n K d K' d' : Int} (h : At n K d) (h' : At n K' d') : K = K' ∧ d = d' := by
  obtain ⟨h1, h2, h3, h4, e⟩ := h
  obtain ⟨h1', h2', h3', h4', e'⟩ := h'
  rcases Int.lt_trichotomy K K' with hlt | rfl | hlt
  · have := ms_lt hlt; omega
  · omega
  · have := ms_lt hlt; omega
theorem At.lt {n K d n' K' d' : Int} (h : At n K d) (h' : At n' K' d') : n < n' ↔ K < K' ∨ K = K' ∧ d < d' := by
  obtain ⟨h1, h2, h3, h4, e⟩ := h
  obtain ⟨h1', h2', h3', h4', e'⟩ := h'
  rcases Int.lt_trichotomy K K' with hlt | rfl | hlt
  · have := ms_lt hlt; omega
  · omega
  · have := ms_lt hlt; omega
theorem month_of {K : Int} (h1 : 12 ≤ K) (h2 : K ≤ 119999) : 1 ≤ K / 12 ∧ K / 12 ≤ 9999 ∧ 1 ≤ K % 12 + 1 ∧ K % 12 + 1 ≤ 12 := by omega
theorem at_ym {y m d : Int} (h1 : 1 ≤ y) (h2 : y ≤ 9999) (h3 : 1 ≤ m) (h4 : m ≤ 12) (h5 : 1 ≤ d) (h6 : d ≤ ld y m) : At (dby y + cum (lpI y) m + d) (12 * y + m - 1) d := by
  have e1 : (12 * y + m - 1) / 12 = y := by omega
  have e2 : (12 * y + m - 1) % 12 + 1 = m := by omega
  exact ⟨by omega, by omega, h5, by unfold ml; rw [e1, e2]; exact h6, by unfold ms; rw [e1, e2]⟩

theorem specLeap_eq {y : Int} (h : 0 ≤ y) : spec_l3Leap.f y = some (decide (lpI y = 1)) := by
  unfold spec_l3Leap.f lpI
  rw [Int.tmod_eq_emod_of_nonneg h, Int.tmod_eq_emod_of_nonneg h, Int.tmod_eq_emod_of_nonneg h]
  by_cases h4 : y % 4 = 0 <;> by_cases h100 : y % 100 = 0 <;> by_cases h400 : y % 400 = 0 <;> simp [h4, h100, h400] <;> omega
theorem implLeap_eq {y : Int} (h : 0 ≤ y) : impl_leap.f y = some (decide (lpI y = 1)) := by
  unfold impl_leap.f lpI
  rw [Int.tmod_eq_emod_of_nonneg h, Int.tmod_eq_emod_of_nonneg h, Int.tmod_eq_emod_of_nonneg h]
  by_cases h4 : y % 4 = 0 <;> by_cases h100 : y % 100 = 0 <;> by_cases h400 : y % 400 = 0 <;> simp [h4, h100, h400]
theorem specLast_eq {y : Int} (h : 0 ≤ y) (m : Int) : spec_l3Last.f y m = some (ld y m) := by
  unfold spec_l3Last.f ld
  rw [specLeap_eq h]
  have := lpI_01 y
  by_cases h2 : m = 2
  · rw [if_pos h2, if_pos h2]
    rcases this with e | e <;> simp [e]
  · rw [if_neg h2, if_neg h2]
    repeat' split
    all_goals rfl
def okYM (y m : Int) : Prop := 1 ≤ y ∧ y ≤ 9999 ∧ 1 ≤ m ∧ m ≤ 12
instance (y m : Int) : Decidable (okYM y m) := by unfold okYM; infer_instance
def dl (y m : Int) : Int := if okYM y m then ld y m else 0
theorem dl_ok {y m : Int} (h1 : 1 ≤ y) (h2 : y ≤ 9999) (h3 : 1 ≤ m) (h4 : m ≤ 12) : dl y m = ld y m := by unfold dl; rw [if_pos (show okYM y m from ⟨h1, h2, h3, h4⟩)]
theorem dl_bd (y m : Int) : 0 ≤ dl y m ∧ dl y m ≤ 31 := by
  have := ld_bd y m
  unfold dl; split <;> omega
theorem implLast_eq (k : Nat) (y m : Int) : impl_DayLast.f (k + 2) y m = some (dl y m) := by
  unfold impl_DayLast.f impl_in.f
  by_cases hy1 : y ≥ 1
  · by_cases hy2 : y ≤ 9999
    · by_cases hm1 : m ≥ 1
      · by_cases hm2 : m ≤ 12
        · rw [dl_ok hy1 hy2 hm1 hm2]
          have := lpI_01 y
          simp only [hy1, hy2, hm1, hm2, if_true, decide_true, Option.bind_some, Bool.not_true, impl_DayLast.j0, implLeap_eq (show 0 ≤ y by omega)]
          unfold ld
          by_cases h2 : m = 2
          · rcases this with e | e <;> simp [impl_DayLast.j1, h2, e]
          · simp only [impl_DayLast.j1, h2, if_false]
            simp only [Bool.false_eq_true, if_false]
            repeat' split
            all_goals rfl
        · have : dl y m = 0 := by unfold dl; rw [if_neg (by unfold okYM; omega)]
          simp [hy1, hy2, hm1, hm2, impl_DayLast.j0, this]
      · have : dl y m = 0 := by unfold dl; rw [if_neg (by unfold okYM; omega)]
        simp [hy1, hy2, hm1, impl_DayLast.j0, this]
    · have : dl y m = 0 := by unfold dl; rw [if_neg (by unfold okYM; omega)]
      simp [hy1, hy2, impl_DayLast.j0, this]
  · have : dl y m = 0 := by unfold dl; rw [if_neg (by unfold okYM; omega)]
    simp [hy1, impl_DayLast.j0, this]

theorem implLast_ge {k : Nat} (h : 2 ≤ k) (y m : Int) : impl_DayLast.f k y m = some (dl y m) := by
  obtain ⟨j, rfl⟩ : ∃ j, k = j + 2 := ⟨k - 2, by omega⟩
  exact implLast_eq j y m

theorem ahead_eq {y : Int} (h1 : 1 ≤ y) (h2 : y ≤ 10000) : impl_ahead.f y = some (dby y) := by
  unfold impl_ahead.f dby
  rw [w64 (x := y - 1) (by omega) (by omega), Int.tdiv_eq_ediv_of_nonneg (show 0 ≤ y - 1 by omega), Int.tdiv_eq_ediv_of_nonneg (show 0 ≤ y - 1 by omega), Int.tdiv_eq_ediv_of_nonneg (show 0 ≤ y - 1 by omega)]
  rw [w64 (x := 365 * (y - 1)) (by omega) (by omega), w64 (x := (y - 1) / 4) (by omega) (by omega), w64 (x := (y - 1) / 100) (by omega) (by omega), w64 (x := (y - 1) / 400) (by omega) (by omega)]
  rw [w64 (x := 365 * (y - 1) + (y - 1) / 4) (by omega) (by omega), w64 (x := 365 * (y - 1) + (y - 1) / 4 - (y - 1) / 100) (by omega) (by omega), w64 (by omega) (by omega)]

theorem implOf_l0 {y m : Int} (hy1 : 1 ≤ y) (hy2 : y ≤ 9999) (hm2 : m ≤ 12) (d : Nat) : ∀ (k : Nat) (n j : Int), 0 ≤ n → n ≤ 10000000 + 31 * j → 1 ≤ j → j ≤ m → m - j = d → d < k →
    impl_DayOf.l0 (k + 2) y m n j = some (n + cum (lpI y) m - cum (lpI y) j) := by
  induction d with
  | zero =>
    intro k n j h0 h1 hj1 hj2 hd hk
    obtain rfl : j = m := by omega
    obtain ⟨k, rfl⟩ : ∃ i, k = i + 1 := ⟨k - 1, by omega⟩
    rw [impl_DayOf.l0]
    rw [if_neg (by omega)]
    congr 1; omega
  | succ d ih =>
    intro k n j h0 h1 hj1 hj2 hd hk
    obtain ⟨k, rfl⟩ : ∃ i, k = i + 1 := ⟨k - 1, by omega⟩
    have hb := ld_bd y j
    have hs := cum_succ y j hj1 (by omega)
    show impl_DayOf.l0 (k + 2 + 1) y m n j = _
    rw [impl_DayOf.l0]
    rw [if_pos (by omega), implLast_eq, dl_ok hy1 hy2 hj1 (by omega)]
    simp only [Option.bind_some]
    rw [w64 (by omega) (by omega), w64 (by omega) (by omega), ih k _ _ (by omega) (by omega) (by omega) (by omega) (by omega) (by omega), hs]
    congr 1; omega
def okD (y m d : Int) : Prop := okYM y m ∧ 1 ≤ d ∧ d ≤ ld y m
instance (y m d : Int) : Decidable (okD y m d) := by unfold okD; infer_instance
def dof (y m d : Int) : Int := if okD y m d then num y m d else 0
theorem implOf_eq (k : Nat) (y m d : Int) : impl_DayOf.f (k + 16) y m d = some (dof y m d) := by
  unfold impl_DayOf.f
  rw [show k + 16 = (k + 14) + 2 from rfl, implLast_eq]
  simp only [Option.bind_some]
  unfold impl_in.f dof
  by_cases h : okD y m d
  · have h' := h
    obtain ⟨⟨h1, h2, h3, h4⟩, h5, h6⟩ := h'
    have hb := dby_bd h1 (show y ≤ 10000 by omega)
    have hl := ld_bd y m
    rw [if_pos h, dl_ok h1 h2 h3 h4, if_pos h5]
    simp only [Option.bind_some]
    rw [if_pos (decide_eq_true h6), ahead_eq h1 (by omega)]
    simp only [Option.bind_some]
    rw [w64 (by omega) (by omega), implOf_l0 h1 h2 h4 (m - 1).toNat (k + 14) _ 1 (by omega) (by omega) (by omega) h3 (by omega) (by omega), cum_one]
    unfold num
    congr 1; omega
  · rw [if_neg h]
    by_cases h5 : d ≥ 1
    · have h6 : ¬ d ≤ dl y m := by
        intro h6
        apply h
        unfold dl at h6
        by_cases hq : okYM y m
        · rw [if_pos hq] at h6; exact ⟨hq, h5, h6⟩
        · rw [if_neg hq] at h6; omega
      simp [h5, h6]
    · simp [h5]

theorem implOf_ge {k : Nat} (h : 16 ≤ k) (y m d : Int) : impl_DayOf.f k y m d = some (dof y m d) := by
  obtain ⟨j, rfl⟩ : ∃ j, k = j + 16 := ⟨k - 16, by omega⟩
  exact implOf_eq j y m d

theorem dof_at {K x : Int} (h1 : 12 ≤ K) (h2 : K ≤ 119999) (h3 : 1 ≤ x) (h4 : x ≤ ml K) : dof (K / 12) (K % 12 + 1) x = ms K + x := by
  unfold dof
  rw [if_pos ⟨⟨by omega, by omega, by omega, by omega⟩, h3, h4⟩]
  rfl

theorem isDay_eq (n : Int) : impl_isDay.f n = some (decide (1 ≤ n ∧ n ≤ 3652059)) := by
  unfold impl_isDay.f impl_in.f
  by_cases h1 : n ≥ 1 <;> by_cases h2 : n ≤ 3652059 <;> simp [h1, h2]
theorem cum_le (y m : Int) : cum (lpI y) m ≤ 365 + lpI y := by
  have h01 := lpI_01 y
  have : 0 ≤ cum (lpI y) m ∧ cum (lpI y) m ≤ 365 + lpI y := by
    unfold cum
    repeat' refine ite_bd ?_ ?_
    all_goals omega
  exact this.2
theorem exists_at {n : Int} (h1 : 1 ≤ n) (h2 : n ≤ 3652059) : ∃ K d, At n K d := by
  have key : ∀ (j : Nat), (12 : Int) + j ≤ 120000 → n ≤ ms (12 + j) → ∃ K d, At n K d := by
    intro j
    induction j with
    | zero =>
      intro _ hn
      have := ms_12
      simp at hn
      omega
    | succ j ih =>
      intro hj hn
      by_cases hlt : n ≤ ms (12 + j)
      · exact ih (by omega) hlt
      · have hs := ms_succ (12 + j)
        have e : (12 : Int) + ((j + 1 : Nat) : Int) = 12 + j + 1 := by omega
        rw [e] at hn
        exact ⟨12 + j, n - ms (12 + j), by omega, by omega, by omega, by omega, by omega⟩
  have h := ms_120000
  refine key 119988 (by decide) ?_
  rw [show (12 : Int) + ((119988 : Nat) : Int) = 120000 from by decide, h]
  exact h2
theorem ms_ym {y m : Int} (h3 : 1 ≤ m) (h4 : m ≤ 12) : ms (12 * y + m - 1) = dby y + cum (lpI y) m ∧ ml (12 * y + m - 1) = ld y m := by
  have e1 : (12 * y + m - 1) / 12 = y := by omega
  have e2 : (12 * y + m - 1) % 12 + 1 = m := by omega
  unfold ms ml
  rw [e1, e2]
  exact ⟨rfl, rfl⟩
theorem year_in {n K d : Int} (h : At n K d) : dby (K / 12) < n ∧ n ≤ dby (K / 12 + 1) := by
  obtain ⟨h1, h2, h3, h4, e⟩ := h
  have a := cum_bd (K / 12) (K % 12 + 1)
  have b := cum_succ (K / 12) (K % 12 + 1) (by omega) (by omega)
  have c := cum_le (K / 12) (K % 12 + 1 + 1)
  have s := dby_succ (K / 12)
  unfold ml at h4
  unfold ms at e
  omega
theorem year_lt {a b n : Int} (ha : dby a < n) (hb : n ≤ dby (b + 1)) : a ≤ b := by
  apply Int.le_of_not_gt
  intro h
  have := dby_mono (show b + 1 ≤ a by omega)
  omega
theorem ms_bd {K : Int} (h1 : 12 ≤ K) (h2 : K ≤ 120000) : 0 ≤ ms K ∧ ms K ≤ 3652059 := by
  have a := (ms_le h1).1
  have b := (ms_le h2).1
  rw [ms_12] at a
  rw [ms_120000] at b
  omega
theorem implParts_l1 {n K d : Int} (h : At n K d) (e : Nat) : ∀ (k : Nat) (J : Int), 12 * (K / 12) ≤ J → J ≤ K → K - J = e → e + 3 < k →
    impl_DayParts.l1 k (K / 12) (n - ms J) (J - 12 * (K / 12) + 1) = some (K / 12, K % 12 + 1, d, true) := by
  obtain ⟨h1, h2, h3, h4, hn⟩ := h
  induction e with
  | zero =>
    intro k J j1 j2 hd hk
    obtain rfl : J = K := by omega
    obtain ⟨k, rfl⟩ : ∃ i, k = i + 1 := ⟨k - 1, by omega⟩
    rw [show J - 12 * (J / 12) + 1 = J % 12 + 1 from by omega, impl_DayParts.l1, implLast_ge (by omega), dl_ok (by omega) (by omega) (by omega) (by omega)]
    simp only [Option.bind_some]
    unfold ml at h4
    rw [if_neg (by omega), show n - ms J = d from by omega]
  | succ e ih =>
    intro k J j1 j2 hd hk
    obtain ⟨k, rfl⟩ : ∃ i, k = i + 1 := ⟨k - 1, by omega⟩
    have y1 : J / 12 = K / 12 := by omega
    have y2 : J % 12 + 1 = J - 12 * (K / 12) + 1 := by omega
    have hl : ml J = ld (K / 12) (J - 12 * (K / 12) + 1) := by unfold ml; rw [y1, y2]
    have hs := ms_succ J
    have hle := (ms_le (show J + 1 ≤ K by omega)).1
    have hb := ms_bd (show 12 ≤ J by omega) (by omega)
    have hb2 := ms_bd (show 12 ≤ J + 1 by omega) (by omega)
    have hk1 := ms_bd h1 (show K ≤ 120000 by omega)
    have hml := ml_bd K
    rw [impl_DayParts.l1, implLast_ge (by omega), dl_ok (by omega) (by omega) (by omega) (by omega), ← hl]
    simp only [Option.bind_some]
    rw [if_pos (by omega), w64 (by omega) (by omega), w64 (by omega) (by omega), show n - ms J - ml J = n - ms (J + 1) from by omega, show J - 12 * (K / 12) + 1 + 1 = (J + 1) - 12 * (K / 12) + 1 from by omega]
    exact ih k (J + 1) (by omega) (by omega) (by omega) (by omega)
theorem implParts_l0 {n K d : Int} (h : At n K d) (g : Nat) : ∀ (k : Nat) (lo hi : Int), 1 ≤ lo → lo ≤ K / 12 → K / 12 ≤ hi → hi ≤ 9999 → hi - lo ≤ g → g + 20 < k →
    impl_DayParts.l0 k n lo hi = some (K / 12, K % 12 + 1, d, true) := by
  have hy := year_in h
  have hbd := h.bd
  obtain ⟨h1, h2, h3, h4, hn⟩ := id h
  induction g with
  | zero =>
    intro k lo hi l1 l2 l3 l4 hg hk
    obtain rfl : lo = K / 12 := by omega
    obtain ⟨k, rfl⟩ : ∃ i, k = i + 1 := ⟨k - 1, by omega⟩
    rw [impl_DayParts.l0, if_neg (by omega), ahead_eq (by omega) (by omega)]
    simp only [Option.bind_some]
    have hb := dby_bd (show 1 ≤ K / 12 by omega) (show K / 12 ≤ 10000 by omega)
    have e0 : ms (12 * (K / 12)) = dby (K / 12) := by
      have := (ms_ym (y := K / 12) (m := 1) (by omega) (by omega)).1
      rw [show 12 * (K / 12) + 1 - 1 = 12 * (K / 12) from by omega, cum_one] at this
      omega
    rw [w64 (by omega) (by omega), ← e0]
    have := implParts_l1 h (K - 12 * (K / 12)).toNat k (12 * (K / 12)) (by omega) (by omega) (by omega) (by omega)
    rw [show 12 * (K / 12) - 12 * (K / 12) + 1 = 1 from by omega] at this
    exact this
  | succ g ih =>
    intro k lo hi l1 l2 l3 l4 hg hk
    by_cases hlt : lo < hi
    · obtain ⟨k, rfl⟩ : ∃ i, k = i + 1 := ⟨k - 1, by omega⟩
      have e1 : wrap64 (Int.tdiv (wrap64 (wrap64 (lo + hi) + 1)) 2) = (lo + hi + 1) / 2 := by
        rw [w64 (x := lo + hi) (by omega) (by omega), w64 (x := lo + hi + 1) (by omega) (by omega), Int.tdiv_eq_ediv_of_nonneg (by omega), w64 (by omega) (by omega)]
      rw [impl_DayParts.l0, if_pos hlt, e1, ahead_eq (by omega) (by omega)]
      simp only [Option.bind_some]
      by_cases hc : dby ((lo + hi + 1) / 2) < n
      · rw [if_pos hc]
        have := year_lt hc hy.2
        exact ih k _ _ (by omega) (by omega) (by omega) (by omega) (by omega) (by omega)
      · rw [if_neg hc, w64 (by omega) (by omega)]
        have : ¬ (lo + hi + 1) / 2 ≤ K / 12 := fun hle => by have := dby_mono hle; omega
        exact ih k _ _ (by omega) (by omega) (by omega) (by omega) (by omega) (by omega)
    · exact ih k lo hi l1 l2 l3 l4 (by omega) (by omega)
theorem implParts_yes {n K d : Int} (h : At n K d) {k : Nat} (hk : 11000 ≤ k) : impl_DayParts.f k n = some (K / 12, K % 12 + 1, d, true) := by
  have hbd := h.bd
  obtain ⟨h1, h2, h3, h4, hn⟩ := id h
  unfold impl_DayParts.f
  rw [isDay_eq, decide_eq_true hbd]
  simp only [Option.bind_some, if_true]
  exact implParts_l0 h 9998 k 1 9999 (by omega) (by omega) (by omega) (by omega) (by omega) (by omega)
theorem implParts_no {n : Int} (h : ¬ (1 ≤ n ∧ n ≤ 3652059)) (k : Nat) : impl_DayParts.f k n = some (0, 0, 0, false) := by
  unfold impl_DayParts.f
  rw [isDay_eq, decide_eq_false h]
  simp

/-! plain: months and days added -/
def lo2 (a b : Int) : Int := if b < a then b else a
theorem lo2_bd (a b : Int) : lo2 a b ≤ a ∧ lo2 a b ≤ b ∧ (lo2 a b = a ∨ lo2 a b = b) := by unfold lo2; split <;> omega
def addv (K d t s : Int) : Int :=
  if 12 ≤ K + t ∧ K + t ≤ 119999 then (if 1 ≤ ms (K + t) + lo2 d (ml (K + t)) + s ∧ ms (K + t) + lo2 d (ml (K + t)) + s ≤ 3652059 then ms (K + t) + lo2 d (ml (K + t)) + s else 0) else 0
def spanOk (t s : Int) : Prop := -120000 ≤ t ∧ t ≤ 120000 ∧ -4000000 ≤ s ∧ s ≤ 4000000
instance (t s : Int) : Decidable (spanOk t s) := by unfold spanOk; infer_instance
theorem at_lo {K d : Int} (h1 : 12 ≤ K) (h2 : K ≤ 119999) (hd : 1 ≤ d) : At (ms K + lo2 d (ml K)) K (lo2 d (ml K)) := by
  have hm := ml_bd K
  have hl := lo2_bd d (ml K)
  exact ⟨h1, h2, by omega, by omega, rfl⟩
theorem addv_in {K d t s : Int} (h1 : 12 ≤ K + t) (h2 : K + t ≤ 119999) : addv K d t s = if 1 ≤ ms (K + t) + lo2 d (ml (K + t)) + s ∧ ms (K + t) + lo2 d (ml (K + t)) + s ≤ 3652059 then ms (K + t) + lo2 d (ml (K + t)) + s else 0 := by
  unfold addv; rw [if_pos ⟨h1, h2⟩]
theorem addv_out {K d t s : Int} (h : ¬ (12 ≤ K + t ∧ K + t ≤ 119999)) : addv K d t s = 0 := by unfold addv; rw [if_neg h]
theorem addv_0 {K d t : Int} (h1 : 12 ≤ K + t) (h2 : K + t ≤ 119999) (hd : 1 ≤ d) : addv K d t 0 = ms (K + t) + lo2 d (ml (K + t)) := by
  have hb := (at_lo h1 h2 hd).bd
  rw [addv_in h1 h2, if_pos (by omega)]
  omega

open Go.Proofs.YtabjadjcecnicaaW.PrintMore
theorem implSpan_eq (t s : Int) : impl_SpanOk.f t s = some (decide (spanOk t s)) := by
  unfold impl_SpanOk.f impl_in.f spanOk
  by_cases h1 : t ≥ -120000 <;> by_cases h2 : t ≤ 120000 <;> by_cases h3 : s ≥ -4000000 <;> by_cases h4 : s ≤ 4000000 <;> simp [h1, h2, h3, h4] <;> omega
theorem dl_at {K : Int} (h1 : 12 ≤ K) (h2 : K ≤ 119999) : dl (K / 12) (K % 12 + 1) = ml K := dl_ok (by omega) (by omega) (by omega) (by omega)
theorem implAdd_yes {n K d t s : Int} (h : At n K d) (hs : spanOk t s) {k : Nat} (hk : 11000 ≤ k) : impl_DayAdd.f k n t s = some (addv K d t s, decide (addv K d t s > 0)) := by
  have hbd := h.bd
  obtain ⟨h1, h2, h3, h4, hn⟩ := id h
  unfold impl_DayAdd.f
  rw [implParts_yes h hk]
  simp only [Option.bind_some, if_true]
  rw [implSpan_eq, decide_eq_true hs]
  obtain ⟨s1, s2, s3, s4⟩ := hs
  simp only [Option.bind_some, Bool.not_true]
  obtain ⟨k, rfl⟩ : ∃ i, k = i + 1 := ⟨k - 1, by omega⟩
  have e : wrap64 (wrap64 (wrap64 (wrap64 (12 * (K / 12)) + (K % 12 + 1)) - 1) + t) = K + t := by
    rw [w64 (x := 12 * (K / 12)) (by omega) (by omega), w64 (x := 12 * (K / 12) + (K % 12 + 1)) (by omega) (by omega), w64 (x := 12 * (K / 12) + (K % 12 + 1) - 1) (by omega) (by omega), w64 (by omega) (by omega)]
    omega
  rw [impl_DayAdd.j0, if_neg (by decide), e]
  have hin : impl_in.f (K + t) 12 119999 = some (decide (12 ≤ K + t ∧ K + t ≤ 119999)) := by
    unfold impl_in.f
    by_cases a : K + t ≥ 12 <;> by_cases b : K + t ≤ 119999 <;> simp [a, b] <;> omega
  rw [hin]
  simp only [Option.bind_some]
  by_cases hr : 12 ≤ K + t ∧ K + t ≤ 119999
  · have hA := at_lo hr.1 hr.2 h3
    have hb := hA.bd
    obtain ⟨_, _, x1, x2, _⟩ := hA
    rw [if_pos (decide_eq_true hr), Int.tdiv_eq_ediv_of_nonneg (by omega), Int.tmod_eq_emod_of_nonneg (by omega), w64 (x := (K + t) / 12) (by omega) (by omega), w64 (x := (K + t) % 12 + 1) (by omega) (by omega),
      implLast_ge (by omega), dl_at hr.1 hr.2]
    simp only [Option.bind_some]
    rw [show mn d (ml (K + t)) = lo2 d (ml (K + t)) from rfl, implOf_ge (by omega), dof_at hr.1 hr.2 x1 x2]
    simp only [Option.bind_some]
    rw [w64 (by omega) (by omega), isDay_eq, addv_in hr.1 hr.2]
    simp only [Option.bind_some]
    by_cases hd : 1 ≤ ms (K + t) + lo2 d (ml (K + t)) + s ∧ ms (K + t) + lo2 d (ml (K + t)) + s ≤ 3652059
    · rw [if_pos (decide_eq_true hd), if_pos hd, decide_eq_true (show ms (K + t) + lo2 d (ml (K + t)) + s > 0 by omega)]
    · rw [if_neg (by rw [decide_eq_false hd]; decide), if_neg hd]; rfl
  · rw [if_neg (by rw [decide_eq_false hr]; decide), addv_out hr]; rfl
theorem implAdd_no {n t s : Int} (h : ¬ (1 ≤ n ∧ n ≤ 3652059) ∨ ¬ spanOk t s) {k : Nat} (hk : 11000 ≤ k) : impl_DayAdd.f k n t s = some (0, false) := by
  unfold impl_DayAdd.f
  obtain ⟨j, rfl⟩ : ∃ i, k = i + 1 := ⟨k - 1, by omega⟩
  by_cases hd : 1 ≤ n ∧ n ≤ 3652059
  · obtain ⟨K, d, hA⟩ := exists_at hd.1 hd.2
    have hs : ¬ spanOk t s := h.resolve_left (fun q => q hd)
    rw [implParts_yes hA hk]
    simp only [Option.bind_some, if_true]
    rw [implSpan_eq, decide_eq_false hs]
    simp only [Option.bind_some, Bool.not_false]
    rw [impl_DayAdd.j0, if_pos rfl]
  · rw [implParts_no hd]
    simp only [Option.bind_some, Bool.false_eq_true, if_false]
    rw [impl_DayAdd.j0, if_pos rfl]

theorem rd_mem {l : List Int} {i : Int} (h0 : 0 ≤ i) (h : i < (l.length : Int)) : rd l i ∈ l := by
  have hi : i.toNat < l.length := by omega
  unfold rd
  rw [List.getD_eq_getElem?_getD, List.getElem?_eq_getElem hi]
  exact List.getElem_mem hi
theorem xor_nonneg {x y : Int} (hx : 0 ≤ x) (hx' : x < 4611686018427387904) (hy : 0 ≤ y) (hy' : y < 4611686018427387904) : 0 ≤ Go.bits .xor .i64 x y := by
  obtain ⟨a, rfl⟩ := Int.eq_ofNat_of_zero_le hx
  obtain ⟨b, rfl⟩ := Int.eq_ofNat_of_zero_le hy
  have ha : a < 2 ^ 62 := by omega
  have hb : b < 2 ^ 62 := by omega
  have hlt := Nat.xor_lt_two_pow ha hb
  have ha' : a % 2 ^ IntKind.i64.bits = a := Nat.mod_eq_of_lt (by show a < 2 ^ 64; omega)
  have hb' : b % 2 ^ IntKind.i64.bits = b := Nat.mod_eq_of_lt (by show b < 2 ^ 64; omega)
  have e : Go.bits .xor .i64 (a : Int) (b : Int) = ((a ^^^ b : Nat) : Int) := by
    simp only [Go.bits, BitVec.ofInt_natCast, BitVec.toNat_xor, BitVec.toNat_ofNat, ha', hb']
    rw [IntKind.wrap_i64]
    omega
  rw [e]
  omega
def BytesOk (b : List Int) : Prop := b.length ≤ 2000 ∧ ∀ x ∈ b, 0 ≤ x ∧ x ≤ 255
theorem pick_any {b : List Int} (hb : BytesOk b) {p n : Int} (hp : 0 ≤ p) (hp' : p ≤ 1000000) (hn : 1 ≤ n) :
    ∃ r, (∀ k, spec_l1Rd_pick.f (k + 1) b p n = some (r, p + 1)) ∧ 0 ≤ r ∧ r < n := by
  have e1 : wrap64 (p + 1) = p + 1 := w64 (by omega) (by omega)
  have e2 : wrap64 (p + 1 - 1) = p := by rw [w64 (by omega) (by omega)]; omega
  have hl := hb.1
  by_cases h0 : b.length = 0
  · refine ⟨0, fun k => ?_, by omega, by omega⟩
    have hz : ((b.length : Int) == 0) = true := by rw [h0]; rfl
    unfold spec_l1Rd_pick.f
    rw [if_neg (by omega), e1, hz]
    simp only [spec_l1Rd_pick.j0, if_true]
  · have hz : ((b.length : Int) == 0) = false := by rw [beq_eq_false_iff_ne]; omega
    by_cases hk : p < (b.length : Int)
    · have hm := hb.2 _ (rd_mem hp hk)
      refine ⟨Int.tmod (rd b p) n, fun k => ?_, Int.tmod_nonneg _ hm.1, Int.tmod_lt_of_pos _ (by omega)⟩
      unfold spec_l1Rd_pick.f
      rw [if_neg (by omega), e1, hz]
      simp only [spec_l1Rd_pick.j0]
      rw [if_neg (by decide), e2, if_pos hk, if_pos hp, if_neg (by omega), w64 (by omega) (by omega)]
    · have hL : (0 : Int) < (b.length : Int) := by omega
      have e7 : wrap64 (wrap64 (p * 7) + 3) = p * 7 + 3 := by
        rw [w64 (x := p * 7) (by omega) (by omega), w64 (by omega) (by omega)]
      have i1 := Int.tmod_nonneg (b.length : Int) hp
      have j1 := Int.tmod_lt_of_pos p hL
      have i2 := Int.tmod_nonneg (b.length : Int) (show 0 ≤ p * 7 + 3 by omega)
      have j2 := Int.tmod_lt_of_pos (p * 7 + 3) hL
      have hA := hb.2 _ (rd_mem i1 j1)
      have hB := hb.2 _ (rd_mem i2 j2)
      have hq0 : 0 ≤ Int.tdiv p (b.length : Int) := Int.tdiv_nonneg hp (by omega)
      have hq1 : Int.tdiv p (b.length : Int) ≤ p := by
        rw [Int.tdiv_eq_ediv_of_nonneg hp]; exact Int.ediv_le_self _ hp
      generalize hAe : rd b (Int.tmod p (b.length : Int)) = A at hA
      generalize hBe : rd b (Int.tmod (p * 7 + 3) (b.length : Int)) = B at hB
      generalize hQe : Int.tdiv p (b.length : Int) = Q at hq0 hq1
      have hX : 0 ≤ wrap64 (wrap64 (wrap64 (wrap64 (wrap64 A * 131) + wrap64 (wrap64 B * 1117)) + wrap64 (p * 29)) + wrap64 (wrap64 Q * 53)) ∧
          wrap64 (wrap64 (wrap64 (wrap64 (wrap64 A * 131) + wrap64 (wrap64 B * 1117)) + wrap64 (p * 29)) + wrap64 (wrap64 Q * 53)) < 1000000000 := by
        rw [w64 (x := A) (by omega) (by omega), w64 (x := B) (by omega) (by omega), w64 (x := Q) (by omega) (by omega), w64 (x := A * 131) (by omega) (by omega), w64 (x := B * 1117) (by omega) (by omega),
          w64 (x := p * 29) (by omega) (by omega), w64 (x := Q * 53) (by omega) (by omega), w64 (x := A * 131 + B * 1117) (by omega) (by omega), w64 (x := A * 131 + B * 1117 + p * 29) (by omega) (by omega),
          w64 (by omega) (by omega)]
        omega
      generalize hXe : wrap64 (wrap64 (wrap64 (wrap64 (wrap64 A * 131) + wrap64 (wrap64 B * 1117)) + wrap64 (p * 29)) + wrap64 (wrap64 Q * 53)) = X at hX
      have hY : 0 ≤ wrap64 (Int.tdiv X 64) ∧ wrap64 (Int.tdiv X 64) < 1000000000 := by
        rw [Int.tdiv_eq_ediv_of_nonneg hX.1, w64 (by omega) (by omega)]; omega
      refine ⟨Int.tmod (Go.bits .xor .i64 X (wrap64 (Int.tdiv X 64))) n, fun k => ?_, Int.tmod_nonneg _ (xor_nonneg hX.1 (by omega) hY.1 (by omega)), Int.tmod_lt_of_pos _ (by omega)⟩
      unfold spec_l1Rd_pick.f
      rw [if_neg (by omega), e1, hz]
      simp only [spec_l1Rd_pick.j0]
      rw [if_neg (by decide), e2, if_neg hk, if_neg (by omega), if_pos i1, if_pos j1, e7, if_pos i2, if_pos j2, if_neg (by omega), hAe, hBe, hQe, hXe]
theorem pick_low {b : List Int} {p n : Int} (hp : 0 ≤ p) (hp' : p ≤ 1000000) (hn : n < 1) (k : Nat) : spec_l1Rd_pick.f (k + 1) b p n = some (0, p + 1) := by
  unfold spec_l1Rd_pick.f
  rw [if_pos hn, w64 (by omega) (by omega)]
  simp only [spec_l1Rd_pick.j0, if_true]
theorem open_any {l : List Int} (hl : ∀ x ∈ l, (Lit.int .u8 x).wf = true) : ∃ b, spec_l1Open.f l = some (b, 0) ∧ BytesOk b := by
  unfold spec_l1Open.f
  by_cases h : (l.length : Int) > 2000
  · rw [if_pos h, if_pos (by omega)]
    exact ⟨_, rfl, by rw [List.length_take]; omega, fun x hx => wf8 (hl x (List.mem_of_mem_take hx))⟩
  · rw [if_neg h]
    exact ⟨_, rfl, by omega, fun x hx => wf8 (hl x hx)⟩

theorem one_any {b : List Int} (hb : BytesOk b) {p : Int} (hp : 0 ≤ p) (hp' : p ≤ 1000000) {l : List Int} (hl : 1 ≤ l.length) :
    ∃ r, (∀ k, spec_l1Rd_one.f (k + 1) b p l = some (r, p + 1)) ∧ r ∈ l := by
  obtain ⟨i, hi, h0, h1⟩ := pick_any hb hp hp' (n := (l.length : Int)) (by omega)
  refine ⟨rd l i, fun k => ?_, rd_mem h0 h1⟩
  unfold spec_l1Rd_one.f
  rw [hi k]
  simp only [Option.bind_some]
  rw [if_pos h0, if_pos h1]

theorem pick_ge {b : List Int} (hb : BytesOk b) {p n : Int} (hp : 0 ≤ p) (hp' : p ≤ 1000000) (hn : 1 ≤ n) :
    ∃ r, (∀ k, 1 ≤ k → spec_l1Rd_pick.f k b p n = some (r, p + 1)) ∧ 0 ≤ r ∧ r < n := by
  obtain ⟨r, h, h0, h1⟩ := pick_any hb hp hp' hn
  exact ⟨r, fun k hk => by obtain ⟨m, rfl⟩ : ∃ m, k = m + 1 := ⟨k - 1, by omega⟩; exact h m, h0, h1⟩
theorem one_ge {b : List Int} (hb : BytesOk b) {p : Int} (hp : 0 ≤ p) (hp' : p ≤ 1000000) {l : List Int} (hl : 1 ≤ l.length) :
    ∃ r, (∀ k, 1 ≤ k → spec_l1Rd_one.f k b p l = some (r, p + 1)) ∧ r ∈ l := by
  obtain ⟨r, h, h0⟩ := one_any hb hp hp' hl
  exact ⟨r, fun k hk => by obtain ⟨m, rfl⟩ : ∃ m, k = m + 1 := ⟨k - 1, by omega⟩; exact h m, h0⟩

theorem before_eq {y : Int} (h1 : 1 ≤ y) (h2 : y ≤ 10000) : spec_l3Before.f y = some (dby y) := by
  unfold spec_l3Before.f dby
  rw [w64 (x := y - 1) (by omega) (by omega), Int.tdiv_eq_ediv_of_nonneg (show 0 ≤ y - 1 by omega), Int.tdiv_eq_ediv_of_nonneg (show 0 ≤ y - 1 by omega), Int.tdiv_eq_ediv_of_nonneg (show 0 ≤ y - 1 by omega)]
  rw [w64 (x := 365 * (y - 1)) (by omega) (by omega), w64 (x := (y - 1) / 4) (by omega) (by omega), w64 (x := (y - 1) / 100) (by omega) (by omega), w64 (x := (y - 1) / 400) (by omega) (by omega)]
  rw [w64 (x := 365 * (y - 1) + (y - 1) / 4) (by omega) (by omega), w64 (x := 365 * (y - 1) + (y - 1) / 4 - (y - 1) / 100) (by omega) (by omega), w64 (by omega) (by omega)]
theorem specOf_l0 {y m : Int} (hy1 : 1 ≤ y) (hm2 : m ≤ 12) (d : Nat) : ∀ (k : Nat) (n j : Int), 0 ≤ n → n ≤ 10000000 + 31 * j → 1 ≤ j → j ≤ m → m - j = d → d < k →
    spec_l3Of.l0 k y m n j = some (n + cum (lpI y) m - cum (lpI y) j) := by
  induction d with
  | zero =>
    intro k n j h0 h1 hj1 hj2 hd hk
    obtain rfl : j = m := by omega
    obtain ⟨k, rfl⟩ : ∃ i, k = i + 1 := ⟨k - 1, by omega⟩
    rw [spec_l3Of.l0]
    rw [if_neg (by omega)]
    congr 1; omega
  | succ d ih =>
    intro k n j h0 h1 hj1 hj2 hd hk
    obtain ⟨k, rfl⟩ : ∃ i, k = i + 1 := ⟨k - 1, by omega⟩
    have hb := ld_bd y j
    have hs := cum_succ y j hj1 (by omega)
    rw [spec_l3Of.l0]
    rw [if_pos (by omega), specLast_eq (by omega)]
    simp only [Option.bind_some]
    rw [w64 (by omega) (by omega), w64 (by omega) (by omega), ih k _ _ (by omega) (by omega) (by omega) (by omega) (by omega) (by omega), hs]
    congr 1; omega
/-- the day's number, of a year and month that are there -/
theorem specL3Of_eq (k : Nat) {y m d : Int} (h1 : 1 ≤ y) (h2 : y ≤ 9999) (h3 : 1 ≤ m) (h4 : m ≤ 12) (h5 : 0 ≤ d) (h6 : d ≤ 31) : spec_l3Of.f (k + 12) y m d = some (num y m d) := by
  unfold spec_l3Of.f
  have hb := dby_bd h1 (show y ≤ 10000 by omega)
  rw [before_eq h1 (by omega)]
  simp only [Option.bind_some]
  rw [w64 (by omega) (by omega), specOf_l0 h1 h4 (m - 1).toNat (k + 12) _ 1 (by omega) (by omega) (by omega) h3 (by omega) (by omega), cum_one]
  unfold num
  congr 1; omega

theorem specL3Of_ge {k : Nat} (hk : 12 ≤ k) {y m d : Int} (h1 : 1 ≤ y) (h2 : y ≤ 9999) (h3 : 1 ≤ m) (h4 : m ≤ 12) (h5 : 0 ≤ d) (h6 : d ≤ 31) : spec_l3Of.f k y m d = some (num y m d) := by
  obtain ⟨j, rfl⟩ : ∃ j, k = j + 12 := ⟨k - 12, by omega⟩
  exact specL3Of_eq j h1 h2 h3 h4 h5 h6

theorem is_eq (n : Int) : spec_l3Is.f n = some (decide (1 ≤ n ∧ n ≤ 3652059)) := by
  unfold spec_l3Is.f spec_l1In.f
  by_cases h1 : n ≥ 1 <;> by_cases h2 : n ≤ 3652059 <;> simp [h1, h2]
theorem specYear_l0 {n K d : Int} (h : At n K d) (g : Nat) : ∀ (k : Nat) (lo hi : Int), 1 ≤ lo → lo ≤ K / 12 → K / 12 < hi → hi ≤ 10000 → hi - lo ≤ g + 1 → g < k →
    spec_l3Year.l0 k n lo hi = some (K / 12) := by
  have hy := year_in h
  have hbd := h.bd
  obtain ⟨h1, h2, h3, h4, hn⟩ := id h
  induction g with
  | zero =>
    intro k lo hi l1 l2 l3 l4 hg hk
    obtain rfl : lo = K / 12 := by omega
    obtain ⟨k, rfl⟩ : ∃ i, k = i + 1 := ⟨k - 1, by omega⟩
    rw [spec_l3Year.l0, w64 (by omega) (by omega), if_neg (by omega)]
  | succ g ih =>
    intro k lo hi l1 l2 l3 l4 hg hk
    by_cases hlt : hi - lo > 1
    · obtain ⟨k, rfl⟩ : ∃ i, k = i + 1 := ⟨k - 1, by omega⟩
      have e1 : wrap64 (Int.tdiv (wrap64 (lo + hi)) 2) = (lo + hi) / 2 := by
        rw [w64 (x := lo + hi) (by omega) (by omega), Int.tdiv_eq_ediv_of_nonneg (by omega), w64 (by omega) (by omega)]
      rw [spec_l3Year.l0, w64 (x := hi - lo) (by omega) (by omega), if_pos hlt, e1, before_eq (by omega) (by omega)]
      simp only [Option.bind_some]
      by_cases hc : dby ((lo + hi) / 2) < n
      · rw [if_pos hc]
        have := year_lt hc hy.2
        exact ih k _ _ (by omega) (by omega) (by omega) (by omega) (by omega) (by omega)
      · rw [if_neg hc]
        have : ¬ (lo + hi) / 2 ≤ K / 12 := fun hle => by have := dby_mono hle; omega
        exact ih k _ _ (by omega) (by omega) (by omega) (by omega) (by omega) (by omega)
    · exact ih k lo hi l1 l2 l3 l4 (by omega) (by omega)
theorem specYear_eq {n K d : Int} (h : At n K d) {k : Nat} (hk : 10000 ≤ k) : spec_l3Year.f k n = some (K / 12) := by
  obtain ⟨h1, h2, h3, h4, hn⟩ := id h
  unfold spec_l3Year.f
  exact specYear_l0 h 9998 k 1 10000 (by omega) (by omega) (by omega) (by omega) (by omega) (by omega)
theorem specMonth_l0 {n K d : Int} (h : At n K d) (e : Nat) : ∀ (k : Nat) (J : Int), 12 * (K / 12) ≤ J → J ≤ K → K - J = e → e < k →
    spec_l3Month.l0 k (K / 12) (J - 12 * (K / 12) + 1) (n - ms J) = some (K % 12 + 1) := by
  obtain ⟨h1, h2, h3, h4, hn⟩ := h
  induction e with
  | zero =>
    intro k J j1 j2 hd hk
    obtain rfl : J = K := by omega
    obtain ⟨k, rfl⟩ : ∃ i, k = i + 1 := ⟨k - 1, by omega⟩
    rw [show J - 12 * (J / 12) + 1 = J % 12 + 1 from by omega, spec_l3Month.l0, specLast_eq (by omega)]
    simp only [Option.bind_some]
    unfold ml at h4
    rw [if_neg (by omega)]
  | succ e ih =>
    intro k J j1 j2 hd hk
    obtain ⟨k, rfl⟩ : ∃ i, k = i + 1 := ⟨k - 1, by omega⟩
    have y1 : J / 12 = K / 12 := by omega
    have y2 : J % 12 + 1 = J - 12 * (K / 12) + 1 := by omega
    have hl : ml J = ld (K / 12) (J - 12 * (K / 12) + 1) := by unfold ml; rw [y1, y2]
    have hs := ms_succ J
    have hle := (ms_le (show J + 1 ≤ K by omega)).1
    have hb := ms_bd (show 12 ≤ J by omega) (by omega)
    have hb2 := ms_bd (show 12 ≤ J + 1 by omega) (by omega)
    have hk1 := ms_bd h1 (show K ≤ 120000 by omega)
    have hml := ml_bd K
    rw [spec_l3Month.l0, specLast_eq (by omega), ← hl]
    simp only [Option.bind_some]
    rw [if_pos (by omega), w64 (by omega) (by omega), w64 (by omega) (by omega), show n - ms J - ml J = n - ms (J + 1) from by omega, show J - 12 * (K / 12) + 1 + 1 = (J + 1) - 12 * (K / 12) + 1 from by omega]
    exact ih k (J + 1) (by omega) (by omega) (by omega) (by omega)
theorem ms_year {K : Int} : ms (12 * (K / 12)) = dby (K / 12) := by
  have := (ms_ym (y := K / 12) (m := 1) (by omega) (by omega)).1
  rw [show 12 * (K / 12) + 1 - 1 = 12 * (K / 12) from by omega, cum_one] at this
  omega
theorem specMonth_eq {n K d : Int} (h : At n K d) {k : Nat} (hk : 20 ≤ k) : spec_l3Month.f k n (K / 12) = some (K % 12 + 1) := by
  have hbd := h.bd
  obtain ⟨h1, h2, h3, h4, hn⟩ := id h
  unfold spec_l3Month.f
  rw [before_eq (by omega) (by omega)]
  simp only [Option.bind_some]
  have hb := dby_bd (show 1 ≤ K / 12 by omega) (show K / 12 ≤ 10000 by omega)
  rw [w64 (by omega) (by omega), ← ms_year]
  have := specMonth_l0 h (K - 12 * (K / 12)).toNat k (12 * (K / 12)) (by omega) (by omega) (by omega) (by omega)
  rw [show 12 * (K / 12) - 12 * (K / 12) + 1 = 1 from by omega] at this
  exact this
theorem num_at (K d : Int) : num (K / 12) (K % 12 + 1) d = ms K + d := rfl
theorem specDay_eq {n K d : Int} (h : At n K d) {k : Nat} (hk : 10000 ≤ k) : spec_l3Day.f k n = some d := by
  have hbd := h.bd
  obtain ⟨h1, h2, h3, h4, hn⟩ := id h
  have hb := ms_bd h1 (show K ≤ 120000 by omega)
  unfold spec_l3Day.f
  rw [specYear_eq h hk]; simp only [Option.bind_some]
  rw [specMonth_eq h (by omega)]; simp only [Option.bind_some]
  rw [specL3Of_ge (by omega) (by omega) (by omega) (by omega) (by omega) (by omega) (by omega), num_at]; simp only [Option.bind_some]
  rw [w64 (x := n - (ms K + 1)) (by omega) (by omega), w64 (by omega) (by omega), show n - (ms K + 1) + 1 = d from by omega]

theorem specL3Add_eq {n K d t s : Int} (h : At n K d) (t1 : -1000000 ≤ t) (t2 : t ≤ 1000000) (s1 : -10000000 ≤ s) (s2 : s ≤ 10000000) {k : Nat} (hk : 11000 ≤ k) : spec_l3Add.f k n t s = some (addv K d t s) := by
  have hbd := h.bd
  obtain ⟨h1, h2, h3, h4, hn⟩ := id h
  unfold spec_l3Add.f
  rw [specYear_eq h (by omega)]; simp only [Option.bind_some]
  rw [specMonth_eq h (by omega)]; simp only [Option.bind_some]
  have e : wrap64 (wrap64 (wrap64 (wrap64 (K / 12 * 12) + (K % 12 + 1)) - 1) + t) = K + t := by
    rw [w64 (x := K / 12 * 12) (by omega) (by omega), w64 (x := K / 12 * 12 + (K % 12 + 1)) (by omega) (by omega), w64 (x := K / 12 * 12 + (K % 12 + 1) - 1) (by omega) (by omega), w64 (by omega) (by omega)]
    omega
  rw [e]
  obtain ⟨k, rfl⟩ : ∃ i, k = i + 1 := ⟨k - 1, by omega⟩
  by_cases hlo : K + t < 12
  · rw [if_pos hlo, spec_l3Add.j0, if_pos rfl, addv_out (by omega)]
  · rw [if_neg hlo, Int.tdiv_eq_ediv_of_nonneg (by omega), w64 (x := (K + t) / 12) (by omega) (by omega)]
    by_cases hhi : (K + t) / 12 > 9999
    · rw [decide_eq_true hhi, spec_l3Add.j0, if_pos rfl, addv_out (by omega)]
    · have hr1 : 12 ≤ K + t := by omega
      have hr2 : K + t ≤ 119999 := by omega
      have hA := at_lo hr1 hr2 h3
      have hb := hA.bd
      have hm := ml_bd (K + t)
      obtain ⟨_, _, x1, x2, _⟩ := hA
      rw [decide_eq_false hhi, spec_l3Add.j0, if_neg (by decide), specDay_eq h (by omega)]; simp only [Option.bind_some]
      rw [Int.tdiv_eq_ediv_of_nonneg (by omega), Int.tmod_eq_emod_of_nonneg (by omega), w64 (x := (K + t) / 12) (by omega) (by omega), w64 (x := (K + t) % 12 + 1) (by omega) (by omega), specLast_eq (by omega)]
      simp only [Option.bind_some]
      have fin : ∀ x, x = lo2 d (ml (K + t)) → spec_l3Add.j1 k s (K + t) x = some (addv K d t s) := by
        rintro x rfl
        obtain ⟨k, rfl⟩ : ∃ i, k = i + 1 := ⟨k - 1, by omega⟩
        rw [spec_l3Add.j1, Int.tdiv_eq_ediv_of_nonneg (by omega), Int.tmod_eq_emod_of_nonneg (by omega), w64 (x := (K + t) / 12) (by omega) (by omega), w64 (x := (K + t) % 12 + 1) (by omega) (by omega),
          specL3Of_ge (by omega) (by omega) (by omega) (by omega) (by omega) (by omega) (by omega), num_at]
        simp only [Option.bind_some]
        rw [w64 (by omega) (by omega), is_eq, addv_in hr1 hr2]
        simp only [Option.bind_some]
        by_cases hd : 1 ≤ ms (K + t) + lo2 d (ml (K + t)) + s ∧ ms (K + t) + lo2 d (ml (K + t)) + s ≤ 3652059
        · rw [if_pos (decide_eq_true hd), if_pos hd]
        · rw [if_neg (by rw [decide_eq_false hd]; decide), if_neg hd]
      have hml : ld ((K + t) / 12) ((K + t) % 12 + 1) = ml (K + t) := rfl
      rw [hml]
      by_cases hgt : d > ml (K + t)
      · rw [if_pos hgt]
        exact fin _ (by unfold lo2; rw [if_pos hgt])
      · rw [if_neg hgt]
        exact fin _ (by unfold lo2; rw [if_neg hgt])

theorem specSpan_eq (t s : Int) : spec_l3SpanOk.f t s = some (decide (spanOk t s)) := by
  unfold spec_l3SpanOk.f spec_l1In.f spanOk
  by_cases h1 : t ≥ -120000 <;> by_cases h2 : t ≤ 120000 <;> by_cases h3 : s ≥ -4000000 <;> by_cases h4 : s ≤ 4000000 <;> simp [h1, h2, h3, h4] <;> omega
theorem specAdd_yes {n K d t s : Int} (h : At n K d) (hs : spanOk t s) {k : Nat} (hk : 11000 ≤ k) : spec_DayAdd.f k n t s = some (addv K d t s, decide (addv K d t s > 0)) := by
  unfold spec_DayAdd.f
  rw [is_eq, decide_eq_true h.bd]; simp only [Option.bind_some, if_true]
  rw [specSpan_eq, decide_eq_true hs]; simp only [Option.bind_some, if_true]
  obtain ⟨s1, s2, s3, s4⟩ := hs
  rw [specL3Add_eq h (by omega) (by omega) (by omega) (by omega) hk]; simp only [Option.bind_some]
theorem specAdd_no {n t s : Int} (h : ¬ (1 ≤ n ∧ n ≤ 3652059) ∨ ¬ spanOk t s) (k : Nat) : spec_DayAdd.f k n t s = some (0, false) := by
  unfold spec_DayAdd.f
  by_cases hd : 1 ≤ n ∧ n ≤ 3652059
  · have hs : ¬ spanOk t s := h.resolve_left (fun q => q hd)
    rw [is_eq, decide_eq_true hd]; simp only [Option.bind_some, if_true]
    rw [specSpan_eq, decide_eq_false hs]; simp
  · rw [is_eq, decide_eq_false hd]; simp
theorem add_same (n t s : Int) {k : Nat} (hk : 11000 ≤ k) : ∃ v, impl_DayAdd.f k n t s = some v ∧ spec_DayAdd.f k n t s = some v := by
  by_cases hd : 1 ≤ n ∧ n ≤ 3652059
  · by_cases hs : spanOk t s
    · obtain ⟨K, d, hA⟩ := exists_at hd.1 hd.2
      exact ⟨_, implAdd_yes hA hs hk, specAdd_yes hA hs hk⟩
    · exact ⟨_, implAdd_no (.inr hs) hk, specAdd_no (.inr hs) k⟩
  · exact ⟨_, implAdd_no (.inl hd) hk, specAdd_no (.inl hd) k⟩

theorem day_any {b : List Int} (hb : BytesOk b) {p : Int} (hp : 0 ≤ p) (hp' : p ≤ 900000) : ∃ n p', (∀ k, 12 ≤ k → spec_l14Day.f k b p = some (n, p')) ∧ p ≤ p' ∧ p' ≤ p + 10 := by
  obtain ⟨r, hr, r0, r6⟩ := pick_ge hb hp (by omega) (n := 6) (by omega)
  by_cases h0 : r = 0
  · obtain ⟨x, hx, _⟩ := one_ge hb (p := p + 1) (by omega) (by omega) (l := [1, 2, 31, 59, 60, 3652059, 3652058, 366]) (by decide)
    refine ⟨x, p + 1 + 1, fun k hk => ?_, by omega, by omega⟩
    unfold spec_l14Day.f
    rw [hr k (by omega)]; simp only [Option.bind_some]
    rw [if_pos h0, hx k (by omega)]; simp only [Option.bind_some]
  · by_cases h1 : r = 1
    · obtain ⟨y, hy, my⟩ := one_ge hb (p := p + 1) (by omega) (by omega) (l := [4, 1900, 2000, 2023, 2024, 2100, 9999]) (by decide)
      obtain ⟨m, hm, mm⟩ := one_ge hb (p := p + 1 + 1) (by omega) (by omega) (l := [1, 2, 2, 3, 12]) (by decide)
      simp only [List.mem_cons, List.not_mem_nil, or_false] at my mm
      refine ⟨num y m 28, p + 1 + 1 + 1, fun k hk => ?_, by omega, by omega⟩
      unfold spec_l14Day.f
      rw [hr k (by omega)]; simp only [Option.bind_some]
      rw [if_neg h0, if_pos h1, hy k (by omega)]; simp only [Option.bind_some]
      rw [hm k (by omega)]; simp only [Option.bind_some]
      rw [specL3Of_ge hk (by omega) (by omega) (by omega) (by omega) (by omega) (by omega)]; simp only [Option.bind_some]
    · by_cases h2 : r = 2
      · obtain ⟨y, hy, my⟩ := one_ge hb (p := p + 1) (by omega) (by omega) (l := [4, 2000, 2024, 9996]) (by decide)
        simp only [List.mem_cons, List.not_mem_nil, or_false] at my
        refine ⟨num y 2 29, p + 1 + 1, fun k hk => ?_, by omega, by omega⟩
        unfold spec_l14Day.f
        rw [hr k (by omega)]; simp only [Option.bind_some]
        rw [if_neg h0, if_neg h1, if_pos h2, hy k (by omega)]; simp only [Option.bind_some]
        rw [specL3Of_ge hk (by omega) (by omega) (by omega) (by omega) (by omega) (by omega)]; simp only [Option.bind_some]
      · by_cases h3 : r = 3
        · obtain ⟨y, hy, my⟩ := one_ge hb (p := p + 1) (by omega) (by omega) (l := [1, 2023, 2024, 9999]) (by decide)
          obtain ⟨m, hm, mm⟩ := one_ge hb (p := p + 1 + 1) (by omega) (by omega) (l := [1, 3, 5, 8, 10, 12]) (by decide)
          simp only [List.mem_cons, List.not_mem_nil, or_false] at my mm
          refine ⟨num y m 31, p + 1 + 1 + 1, fun k hk => ?_, by omega, by omega⟩
          unfold spec_l14Day.f
          rw [hr k (by omega)]; simp only [Option.bind_some]
          rw [if_neg h0, if_neg h1, if_neg h2, if_pos h3, hy k (by omega)]; simp only [Option.bind_some]
          rw [hm k (by omega)]; simp only [Option.bind_some]
          rw [specL3Of_ge hk (by omega) (by omega) (by omega) (by omega) (by omega) (by omega)]; simp only [Option.bind_some]
        · obtain ⟨a, ha, a0, a1⟩ := pick_ge hb (p := p + 1) (by omega) (by omega) (n := 8) (by omega)
          obtain ⟨c, hc, c0, c1⟩ := pick_ge hb (p := p + 1 + 1) (by omega) (by omega) (n := 12) (by omega)
          obtain ⟨e, he, e0, e1⟩ := pick_ge hb (p := p + 1 + 1 + 1) (by omega) (by omega) (n := 28) (by omega)
          refine ⟨num (2020 + a) (1 + c) (1 + e), p + 1 + 1 + 1 + 1, fun k hk => ?_, by omega, by omega⟩
          unfold spec_l14Day.f
          rw [hr k (by omega)]; simp only [Option.bind_some]
          rw [if_neg h0, if_neg h1, if_neg h2, if_neg h3, ha k (by omega)]; simp only [Option.bind_some]
          rw [hc k (by omega)]; simp only [Option.bind_some]
          rw [he k (by omega)]; simp only [Option.bind_some]
          rw [w64 (x := 2020 + a) (by omega) (by omega), w64 (x := 1 + c) (by omega) (by omega), w64 (x := 1 + e) (by omega) (by omega), specL3Of_ge hk (by omega) (by omega) (by omega) (by omega) (by omega) (by omega)]
          simp only [Option.bind_some]
theorem anyDay_any {b : List Int} (hb : BytesOk b) {p : Int} (hp : 0 ≤ p) (hp' : p ≤ 800000) : ∃ n p', (∀ k, 12 ≤ k → spec_l14AnyDay.f k b p = some (n, p')) ∧ p ≤ p' ∧ p' ≤ p + 12 := by
  obtain ⟨r, hr, r0, r6⟩ := pick_ge hb hp (by omega) (n := 20) (by omega)
  by_cases h0 : r = 0
  · obtain ⟨x, hx, _⟩ := one_ge hb (p := p + 1) (by omega) (by omega) (l := [0, (-1), 3652060]) (by decide)
    refine ⟨x, p + 1 + 1, fun k hk => ?_, by omega, by omega⟩
    unfold spec_l14AnyDay.f
    rw [hr k (by omega)]; simp only [Option.bind_some]
    rw [if_pos h0, hx k (by omega)]; simp only [Option.bind_some]
  · obtain ⟨n, p', hn, q1, q2⟩ := day_any hb (p := p + 1) (by omega) (by omega)
    refine ⟨n, p', fun k hk => ?_, by omega, by omega⟩
    unfold spec_l14AnyDay.f
    rw [hr k (by omega)]; simp only [Option.bind_some]
    rw [if_neg h0, hn k hk]; simp only [Option.bind_some]

theorem span_any {b : List Int} (hb : BytesOk b) {p : Int} (hp : 0 ≤ p) (hp' : p ≤ 900000) : ∃ t s p', (∀ k, 1 ≤ k → spec_l14Span.f k b p = some (t, s, p')) ∧ p ≤ p' ∧ p' ≤ p + 10 := by
  obtain ⟨r, hr, r0, r6⟩ := pick_ge hb hp (by omega) (n := 5) (by omega)
  by_cases h0 : r = 0
  · obtain ⟨x, hx, _⟩ := one_ge hb (p := p + 1) (by omega) (by omega) (l := [0, 120000, (-120000), 119987, (-119988)]) (by decide)
    obtain ⟨y, hy, _⟩ := one_ge hb (p := p + 1 + 1) (by omega) (by omega) (l := [0, 4000000, (-4000000)]) (by decide)
    refine ⟨x, y, p + 1 + 1 + 1, fun k hk => ?_, by omega, by omega⟩
    unfold spec_l14Span.f
    rw [hr k hk]; simp only [Option.bind_some]
    rw [if_pos h0, hx k hk]; simp only [Option.bind_some]
    rw [hy k hk]; simp only [Option.bind_some]
  · by_cases h1 : r = 1
    · obtain ⟨x, hx, _, _⟩ := pick_ge hb (p := p + 1) (by omega) (by omega) (n := 30) (by omega)
      refine ⟨wrap64 (x - 15), 0, p + 1 + 1, fun k hk => ?_, by omega, by omega⟩
      unfold spec_l14Span.f
      rw [hr k hk]; simp only [Option.bind_some]
      rw [if_neg h0, if_pos h1, hx k hk]; simp only [Option.bind_some]
    · by_cases h2 : r = 2
      · obtain ⟨x, hx, _, _⟩ := pick_ge hb (p := p + 1) (by omega) (by omega) (n := 80) (by omega)
        refine ⟨0, wrap64 (x - 40), p + 1 + 1, fun k hk => ?_, by omega, by omega⟩
        unfold spec_l14Span.f
        rw [hr k hk]; simp only [Option.bind_some]
        rw [if_neg h0, if_neg h1, if_pos h2, hx k hk]; simp only [Option.bind_some]
      · obtain ⟨x, hx, _, _⟩ := pick_ge hb (p := p + 1) (by omega) (by omega) (n := 60) (by omega)
        obtain ⟨y, hy, _, _⟩ := pick_ge hb (p := p + 1 + 1) (by omega) (by omega) (n := 60) (by omega)
        refine ⟨wrap64 (x - 30), wrap64 (y - 30), p + 1 + 1 + 1, fun k hk => ?_, by omega, by omega⟩
        unfold spec_l14Span.f
        rw [hr k hk]; simp only [Option.bind_some]
        rw [if_neg h0, if_neg h1, if_neg h2, hx k hk]; simp only [Option.bind_some]
        rw [hy k hk]; simp only [Option.bind_some]
theorem anySpan_any {b : List Int} (hb : BytesOk b) {p : Int} (hp : 0 ≤ p) (hp' : p ≤ 800000) : ∃ t s p', (∀ k, 2 ≤ k → spec_l14AnySpan.f k b p = some (t, s, p')) ∧ p ≤ p' ∧ p' ≤ p + 20 := by
  obtain ⟨t, s, q, hs, q1, q2⟩ := span_any hb hp (by omega)
  obtain ⟨r, hr, _, _⟩ := pick_ge hb (p := q) (by omega) (by omega) (n := 20) (by omega)
  have last : ∀ (t p : Int), 0 ≤ p → p ≤ 900000 → ∃ t' s' p', (∀ k, 2 ≤ k → spec_l14AnySpan.j0 k b p t s = some (t', s', p')) ∧ p ≤ p' ∧ p' ≤ p + 2 := by
    intro t p hp hp'
    obtain ⟨r, hr, _, _⟩ := pick_ge hb hp (by omega) (n := 20) (by omega)
    by_cases h0 : r = 0
    · obtain ⟨x, hx, _⟩ := one_ge hb (p := p + 1) (by omega) (by omega) (l := [4000001, (-4000001)]) (by decide)
      refine ⟨t, x, p + 1 + 1, fun k hk => ?_, by omega, by omega⟩
      obtain ⟨k, rfl⟩ : ∃ m, k = m + 1 := ⟨k - 1, by omega⟩
      rw [spec_l14AnySpan.j0, hr k (by omega)]; simp only [Option.bind_some]
      rw [if_pos h0, hx k (by omega)]; simp only [Option.bind_some]
    · refine ⟨t, s, p + 1, fun k hk => ?_, by omega, by omega⟩
      obtain ⟨k, rfl⟩ : ∃ m, k = m + 1 := ⟨k - 1, by omega⟩
      rw [spec_l14AnySpan.j0, hr k (by omega)]; simp only [Option.bind_some]
      rw [if_neg h0]
  by_cases h0 : r = 0
  · obtain ⟨x, hx, _⟩ := one_ge hb (p := q + 1) (by omega) (by omega) (l := [120001, (-120001)]) (by decide)
    obtain ⟨t', s', p', hl, l1, l2⟩ := last x (q + 1 + 1) (by omega) (by omega)
    refine ⟨t', s', p', fun k hk => ?_, by omega, by omega⟩
    unfold spec_l14AnySpan.f
    rw [hs k (by omega)]; simp only [Option.bind_some]
    rw [hr k (by omega)]; simp only [Option.bind_some]
    rw [if_pos h0, hx k (by omega)]; simp only [Option.bind_some]
    exact hl k hk
  · obtain ⟨t', s', p', hl, l1, l2⟩ := last t (q + 1) (by omega) (by omega)
    refine ⟨t', s', p', fun k hk => ?_, by omega, by omega⟩
    unfold spec_l14AnySpan.f
    rw [hs k (by omega)]; simp only [Option.bind_some]
    rw [hr k (by omega)]; simp only [Option.bind_some]
    rw [if_neg h0]
    exact hl k hk
theorem drawDayAdd_any {l : List Int} (hl : ∀ x ∈ l, (Lit.int .u8 x).wf = true) : ∃ n t s, ∀ k, 12 ≤ k → spec_DrawDayAdd.f k l = some (n, t, s) := by
  obtain ⟨b, hb, hB⟩ := open_any hl
  obtain ⟨n, p, hn, n1, n2⟩ := anyDay_any hB (p := 0) (by omega) (by omega)
  obtain ⟨t, s, q, hs, s1, s2⟩ := anySpan_any hB (p := p) (by omega) (by omega)
  refine ⟨n, t, s, fun k hk => ?_⟩
  unfold spec_DrawDayAdd.f
  rw [hb]; simp only [Option.bind_some]
  rw [hn k hk]; simp only [Option.bind_some]
  rw [hs k (by omega)]; simp only [Option.bind_some]
end BFnDayAdd
open BFnDayAdd
theorem FnDayAdd : laws_FnDayAdd.Pure := by
  intro l _ _ hl
  refine ⟨12000, ?_⟩
  unfold laws_FnDayAdd.f
  by_cases hlen : (l.length : Int) > 1048576
  · rw [if_pos hlen]
  · rw [if_neg hlen]
    obtain ⟨n, t, s, hd⟩ := drawDayAdd_any hl
    rw [hd 12000 (by omega)]; simp only [Option.bind_some]
    have out : ∀ v : Int × Bool, impl_DayAdd.f 12000 n t s = some v → spec_DayAdd.f 12000 n t s = some v → v.2 = false →
        ((impl_DayAdd.f 12000 n t s).bind fun bt265 => ((spec_DayAdd.f 12000 n t s).bind fun bt267 => (if (bt265.2 != bt267.2) = true then (laws_FnDayAdd.j0 12000 n bt265.1 bt265.2 bt267.1 bt267.2 true t s) else (if bt265.1 = bt267.1 then (laws_FnDayAdd.j0 12000 n bt265.1 bt265.2 bt267.1 bt267.2 (!bt265.2) t s) else (laws_FnDayAdd.j0 12000 n bt265.1 bt265.2 bt267.1 bt267.2 true t s))))) = some true := by
      intro v h1 h2 h3
      rw [h1, h2]; simp only [Option.bind_some]
      rw [if_neg (by simp), if_pos trivial, h3]
      show laws_FnDayAdd.j0 (11999 + 1) _ _ _ _ _ _ _ _ = _
      rw [laws_FnDayAdd.j0]; simp
    by_cases hn : 1 ≤ n ∧ n ≤ 3652059
    · by_cases hs : spanOk t s
      · obtain ⟨K, d, hA⟩ := exists_at hn.1 hn.2
        have e1 := implAdd_yes hA hs (k := 12000) (by omega)
        have e2 := specAdd_yes hA hs (k := 12000) (by omega)
        obtain ⟨h1, h2, h3, h4, e⟩ := id hA
        by_cases hpos : addv K d t s > 0
        · have hr : 12 ≤ K + t ∧ K + t ≤ 119999 := by
            apply Decidable.byContradiction
            intro hc
            have := addv_out (d := d) (s := s) hc
            omega
          have hval := addv_in hr.1 hr.2 (d := d) (s := s)
          have hX := at_lo hr.1 hr.2 h3
          have hXb := hX.bd
          obtain ⟨_, _, x1, x2, _⟩ := id hX
          have hm0 := ml_bd K
          have hsum : addv K d t s = ms (K + t) + lo2 d (ml (K + t)) + s := by
            rw [hval]
            rw [hval] at hpos
            split at hpos
            · rename_i hq; rw [if_pos hq]
            · omega
          obtain ⟨s1, s2, s3, s4⟩ := id hs
          rw [e1, e2]; simp only [Option.bind_some]
          rw [if_neg (by simp), if_pos trivial, decide_eq_true hpos]
          show laws_FnDayAdd.j0 (11999 + 1) _ _ _ _ _ _ _ _ = _
          rw [laws_FnDayAdd.j0, if_neg (by decide), implParts_yes hA (by omega)]; simp only [Option.bind_some]
          have em : wrap64 (wrap64 (wrap64 (wrap64 (K / 12 * 12) + (K % 12 + 1)) - 1) + t) = K + t := by
            rw [w64 (x := K / 12 * 12) (by omega) (by omega), w64 (x := K / 12 * 12 + (K % 12 + 1)) (by omega) (by omega), w64 (x := K / 12 * 12 + (K % 12 + 1) - 1) (by omega) (by omega), w64 (by omega) (by omega)]
            omega
          rw [em, Int.tdiv_eq_ediv_of_nonneg (by omega), Int.tmod_eq_emod_of_nonneg (by omega), w64 (x := (K + t) / 12) (by omega) (by omega), w64 (x := (K + t) % 12 + 1) (by omega) (by omega), implLast_ge (by omega), dl_at hr.1 hr.2]
          simp only [Option.bind_some]
          rw [implAdd_yes hA (t := 0) (s := 0) ⟨by omega, by omega, by omega, by omega⟩ (by omega)]; simp only [Option.bind_some]
          have e0 : addv K d 0 0 = n := by
            rw [addv_0 (by omega) (by omega) h3, show K + 0 = K from by omega, show lo2 d (ml K) = d from by unfold lo2; rw [if_neg (by omega)]]
            exact e.symm
          rw [e0]
          by_cases hgt : d > ml (K + t)
          · have hl : lo2 d (ml (K + t)) = ml (K + t) := by unfold lo2; rw [if_pos hgt]
            rw [if_pos hgt, implOf_ge (by omega), dof_at hr.1 hr.2 (by omega) (Int.le_refl _)]; simp only [Option.bind_some]
            rw [hsum, hl, w64 (by omega) (by omega), if_pos rfl, if_pos (decide_eq_true (by omega))]; simp
          · have hl : lo2 d (ml (K + t)) = d := by unfold lo2; rw [if_neg hgt]
            rw [if_neg hgt, implOf_ge (by omega), dof_at hr.1 hr.2 h3 (by omega)]; simp only [Option.bind_some]
            rw [hsum, hl, w64 (by omega) (by omega), if_pos rfl, if_pos (decide_eq_true (by omega))]; simp
        · rw [decide_eq_false hpos] at e1 e2
          exact out _ e1 e2 rfl
      · exact out _ (implAdd_no (.inr hs) (by omega)) (specAdd_no (.inr hs) _) rfl
    · exact out _ (implAdd_no (.inl hn) (by omega)) (specAdd_no (.inl hn) _) rfl
end Go.Proofs.Ytabjadjcecnicaa.Pure
