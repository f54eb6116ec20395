/- For every code: the months of the year drawn of it add up to that year's days. No condition. -/
import Derived.Test.YtaifkjenoebgiaaOwnFnDayYear
namespace Go.Proofs.Ytaifkjenoebgiaa.Pure
open Go.RowKit Go.Proofs.Ytaifkjenoebgiaa.PFnDayYear Go.Proofs.YtaifkjenoebgiaaW.PrintWords Go.Proofs.YtaifkjenoebgiaaW.PrintLast
set_option linter.unusedVariables false
set_option linter.unusedSimpArgs false
namespace BFnDayYear
theorem wf64 {a : Int} (h : (Lit.int .i64 a).wf = true) : -9223372036854775808 ≤ a ∧ a ≤ 9223372036854775807 := by
  simp [Lit.wf, IntKind.min, IntKind.max, IntKind.signed, IntKind.bits] at h; omega
theorem wf8 {a : Int} (h : (Lit.int .u8 a).wf = true) : 0 ≤ a ∧ a ≤ 255 := by
  simp [Lit.wf, IntKind.min, IntKind.max, IntKind.signed, IntKind.bits] at h; omega
theorem w64 {x : Int} (h : -9223372036854775808 ≤ x) (h' : x ≤ 9223372036854775807) : wrap64 x = x := by unfold wrap64; omega

theorem rd_mem {l : List Int} {i : Int} (h0 : 0 ≤ i) (h : i < (l.length : Int)) : rd l i ∈ l := by
  have hi : i.toNat < l.length := by omega
  unfold rd
  rw [List.getD_eq_getElem?_getD, List.getElem?_eq_getElem hi]
  exact List.getElem_mem hi
theorem xor_nonneg {x y : Int} (hx : 0 ≤ x) (hx' : x < 4611686018427387904) (hy : 0 ≤ y) (hy' : y < 4611686018427387904) : 0 ≤ Go.bits .xor .i64 x y := by
  obtain ⟨a, rfl⟩ := Int.eq_ofNat_of_zero_le hx
  obtain ⟨b, rfl⟩ := Int.eq_ofNat_of_zero_le hy
  have ha : a < 2 ^ 62 := by omega
  have hb : b < 2 ^ 62 := by omega
  have hlt := Nat.xor_lt_two_pow ha hb
  have ha' : a % 2 ^ IntKind.i64.bits = a := Nat.mod_eq_of_lt (by show a < 2 ^ 64; omega)
  have hb' : b % 2 ^ IntKind.i64.bits = b := Nat.mod_eq_of_lt (by show b < 2 ^ 64; omega)
  have e : Go.bits .xor .i64 (a : Int) (b : Int) = ((a ^^^ b : Nat) : Int) := by
    simp only [Go.bits, BitVec.ofInt_natCast, BitVec.toNat_xor, BitVec.toNat_ofNat, ha', hb']
    rw [IntKind.wrap_i64]
    omega
  rw [e]
  omega
def BytesOk (b : List Int) : Prop := b.length ≤ 2000 ∧ ∀ x ∈ b, 0 ≤ x ∧ x ≤ 255
theorem pick_any {b : List Int} (hb : BytesOk b) {p n : Int} (hp : 0 ≤ p) (hp' : p ≤ 1000000) (hn : 1 ≤ n) :
    ∃ r, (∀ k, spec_l1Rd_pick.f (k + 1) b p n = some (r, p + 1)) ∧ 0 ≤ r ∧ r < n := by
  have e1 : wrap64 (p + 1) = p + 1 := w64 (by omega) (by omega)
  have e2 : wrap64 (p + 1 - 1) = p := by rw [w64 (by omega) (by omega)]; omega
  have hl := hb.1
  by_cases h0 : b.length = 0
  · refine ⟨0, fun k => ?_, by omega, by omega⟩
    have hz : ((b.length : Int) == 0) = true := by rw [h0]; rfl
    unfold spec_l1Rd_pick.f
    rw [if_neg (by omega), e1, hz]
    simp only [spec_l1Rd_pick.j0, if_true]
  · have hz : ((b.length : Int) == 0) = false := by rw [beq_eq_false_iff_ne]; omega
    by_cases hk : p < (b.length : Int)
    · have hm := hb.2 _ (rd_mem hp hk)
      refine ⟨Int.tmod (rd b p) n, fun k => ?_, Int.tmod_nonneg _ hm.1, Int.tmod_lt_of_pos _ (by omega)⟩
      unfold spec_l1Rd_pick.f
      rw [if_neg (by omega), e1, hz]
      simp only [spec_l1Rd_pick.j0]
      rw [if_neg (by decide), e2, if_pos hk, if_pos hp, if_neg (by omega), w64 (by omega) (by omega)]
    · have hL : (0 : Int) < (b.length : Int) := by omega
      have e7 : wrap64 (wrap64 (p * 7) + 3) = p * 7 + 3 := by
        rw [w64 (x := p * 7) (by omega) (by omega), w64 (by omega) (by omega)]
      have i1 := Int.tmod_nonneg (b.length : Int) hp
      have j1 := Int.tmod_lt_of_pos p hL
      have i2 := Int.tmod_nonneg (b.length : Int) (show 0 ≤ p * 7 + 3 by omega)
      have j2 := Int.tmod_lt_of_pos (p * 7 + 3) hL
      have hA := hb.2 _ (rd_mem i1 j1)
      have hB := hb.2 _ (rd_mem i2 j2)
      have hq0 : 0 ≤ Int.tdiv p (b.length : Int) := Int.tdiv_nonneg hp (by omega)
      have hq1 : Int.tdiv p (b.length : Int) ≤ p := by
        rw [Int.tdiv_eq_ediv_of_nonneg hp]; exact Int.ediv_le_self _ hp
      generalize hAe : rd b (Int.tmod p (b.length : Int)) = A at hA
      generalize hBe : rd b (Int.tmod (p * 7 + 3) (b.length : Int)) = B at hB
      generalize hQe : Int.tdiv p (b.length : Int) = Q at hq0 hq1
      have hX : 0 ≤ wrap64 (wrap64 (wrap64 (wrap64 (wrap64 A * 131) + wrap64 (wrap64 B * 1117)) + wrap64 (p * 29)) + wrap64 (wrap64 Q * 53)) ∧
          wrap64 (wrap64 (wrap64 (wrap64 (wrap64 A * 131) + wrap64 (wrap64 B * 1117)) + wrap64 (p * 29)) + wrap64 (wrap64 Q * 53)) < 1000000000 := by
        rw [w64 (x := A) (by omega) (by omega), w64 (x := B) (by omega) (by omega), w64 (x := Q) (by omega) (by omega), w64 (x := A * 131) (by omega) (by omega), w64 (x := B * 1117) (by omega) (by omega),
          w64 (x := p * 29) (by omega) (by omega), w64 (x := Q * 53) (by omega) (by omega), w64 (x := A * 131 + B * 1117) (by omega) (by omega), w64 (x := A * 131 + B * 1117 + p * 29) (by omega) (by omega),
          w64 (by omega) (by omega)]
        omega
      generalize hXe : wrap64 (wrap64 (wrap64 (wrap64 (wrap64 A * 131) + wrap64 (wrap64 B * 1117)) + wrap64 (p * 29)) + wrap64 (wrap64 Q * 53)) = X at hX
      have hY : 0 ≤ wrap64 (Int.tdiv X 64) ∧ wrap64 (Int.tdiv X 64) < 1000000000 := by
        rw [Int.tdiv_eq_ediv_of_nonneg hX.1, w64 (by omega) (by omega)]; omega
      refine ⟨Int.tmod (Go.bits .xor .i64 X (wrap64 (Int.tdiv X 64))) n, fun k => ?_, Int.tmod_nonneg _ (xor_nonneg hX.1 (by omega) hY.1 (by omega)), Int.tmod_lt_of_pos _ (by omega)⟩
      unfold spec_l1Rd_pick.f
      rw [if_neg (by omega), e1, hz]
      simp only [spec_l1Rd_pick.j0]
      rw [if_neg (by decide), e2, if_neg hk, if_neg (by omega), if_pos i1, if_pos j1, e7, if_pos i2, if_pos j2, if_neg (by omega), hAe, hBe, hQe, hXe]
theorem pick_low {b : List Int} {p n : Int} (hp : 0 ≤ p) (hp' : p ≤ 1000000) (hn : n < 1) (k : Nat) : spec_l1Rd_pick.f (k + 1) b p n = some (0, p + 1) := by
  unfold spec_l1Rd_pick.f
  rw [if_pos hn, w64 (by omega) (by omega)]
  simp only [spec_l1Rd_pick.j0, if_true]
theorem open_any {l : List Int} (hl : ∀ x ∈ l, (Lit.int .u8 x).wf = true) : ∃ b, spec_l1Open.f l = some (b, 0) ∧ BytesOk b := by
  unfold spec_l1Open.f
  by_cases h : (l.length : Int) > 2000
  · rw [if_pos h, if_pos (by omega)]
    exact ⟨_, rfl, by rw [List.length_take]; omega, fun x hx => wf8 (hl x (List.mem_of_mem_take hx))⟩
  · rw [if_neg h]
    exact ⟨_, rfl, by omega, fun x hx => wf8 (hl x hx)⟩

theorem one_any {b : List Int} (hb : BytesOk b) {p : Int} (hp : 0 ≤ p) (hp' : p ≤ 1000000) {l : List Int} (hl : 1 ≤ l.length) :
    ∃ r, (∀ k, spec_l1Rd_one.f (k + 1) b p l = some (r, p + 1)) ∧ r ∈ l := by
  obtain ⟨i, hi, h0, h1⟩ := pick_any hb hp hp' (n := (l.length : Int)) (by omega)
  refine ⟨rd l i, fun k => ?_, rd_mem h0 h1⟩
  unfold spec_l1Rd_one.f
  rw [hi k]
  simp only [Option.bind_some]
  rw [if_pos h0, if_pos h1]

/-! plain: the calendar -/
def lpI (y : Int) : Int := if y % 4 = 0 ∧ (y % 100 ≠ 0 ∨ y % 400 = 0) then 1 else 0
theorem lpI_01 (y : Int) : lpI y = 0 ∨ lpI y = 1 := by unfold lpI; split <;> omega
def ld (y m : Int) : Int := if m = 2 then 28 + lpI y else if m = 4 then 30 else if m = 6 then 30 else if m = 9 then 30 else if m = 11 then 30 else 31
theorem ld_bd (y m : Int) : 28 ≤ ld y m ∧ ld y m ≤ 31 := by
  have := lpI_01 y
  unfold ld
  repeat' split
  all_goals omega
def cum (l m : Int) : Int :=
  if m ≤ 1 then 0 else if m = 2 then 31 else if m = 3 then 59 + l else if m = 4 then 90 + l else if m = 5 then 120 + l else if m = 6 then 151 + l else if m = 7 then 181 + l
  else if m = 8 then 212 + l else if m = 9 then 243 + l else if m = 10 then 273 + l else if m = 11 then 304 + l else if m = 12 then 334 + l else 365 + l
theorem mcases {m : Int} (h1 : 1 ≤ m) (h2 : m ≤ 12) : m = 1 ∨ m = 2 ∨ m = 3 ∨ m = 4 ∨ m = 5 ∨ m = 6 ∨ m = 7 ∨ m = 8 ∨ m = 9 ∨ m = 10 ∨ m = 11 ∨ m = 12 := by omega
theorem cum_succ (y m : Int) (h1 : 1 ≤ m) (h2 : m ≤ 12) : cum (lpI y) (m + 1) = cum (lpI y) m + ld y m := by
  rcases mcases h1 h2 with rfl | rfl | rfl | rfl | rfl | rfl | rfl | rfl | rfl | rfl | rfl | rfl <;> simp [cum, ld] <;> omega
theorem cum_one (l : Int) : cum l 1 = 0 := rfl
theorem cum_13 (l : Int) : cum l 13 = 365 + l := rfl
theorem ite_bd {P : Prop} [Decidable P] {a b lo hi : Int} (ha : lo ≤ a ∧ a ≤ hi) (hb : lo ≤ b ∧ b ≤ hi) : lo ≤ (if P then a else b) ∧ (if P then a else b) ≤ hi := by split <;> assumption
theorem cum_bd (y m : Int) : 0 ≤ cum (lpI y) m ∧ cum (lpI y) m ≤ 366 := by
  have := lpI_01 y
  unfold cum
  repeat' refine ite_bd ?_ ?_
  all_goals omega
def dby (y : Int) : Int := 365 * (y - 1) + (y - 1) / 4 - (y - 1) / 100 + (y - 1) / 400
theorem dby_succ (y : Int) : dby (y + 1) = dby y + 365 + lpI y := by
  unfold dby lpI
  split <;> omega
theorem dby_bd {y : Int} (h1 : 1 ≤ y) (h2 : y ≤ 10000) : 0 ≤ dby y ∧ dby y ≤ 3652059 := by unfold dby; omega
theorem dby_mono {a b : Int} (h : a ≤ b) : dby a ≤ dby b := by unfold dby; omega
theorem dby_gap {a b : Int} (h : a < b) : dby a + 365 ≤ dby b := by unfold dby; omega

def num (y m d : Int) : Int := dby y + cum (lpI y) m + d

theorem specLeap_eq {y : Int} (h : 0 ≤ y) : spec_l3Leap.f y = some (decide (lpI y = 1)) := by
  unfold spec_l3Leap.f lpI
  rw [Int.tmod_eq_emod_of_nonneg h, Int.tmod_eq_emod_of_nonneg h, Int.tmod_eq_emod_of_nonneg h]
  by_cases h4 : y % 4 = 0 <;> by_cases h100 : y % 100 = 0 <;> by_cases h400 : y % 400 = 0 <;> simp [h4, h100, h400] <;> omega
theorem implLeap_eq {y : Int} (h : 0 ≤ y) : impl_leap.f y = some (decide (lpI y = 1)) := by
  unfold impl_leap.f lpI
  rw [Int.tmod_eq_emod_of_nonneg h, Int.tmod_eq_emod_of_nonneg h, Int.tmod_eq_emod_of_nonneg h]
  by_cases h4 : y % 4 = 0 <;> by_cases h100 : y % 100 = 0 <;> by_cases h400 : y % 400 = 0 <;> simp [h4, h100, h400]
theorem specLast_eq {y : Int} (h : 0 ≤ y) (m : Int) : spec_l3Last.f y m = some (ld y m) := by
  unfold spec_l3Last.f ld
  rw [specLeap_eq h]
  have := lpI_01 y
  by_cases h2 : m = 2
  · rw [if_pos h2, if_pos h2]
    rcases this with e | e <;> simp [e]
  · rw [if_neg h2, if_neg h2]
    repeat' split
    all_goals rfl
def okYM (y m : Int) : Prop := 1 ≤ y ∧ y ≤ 9999 ∧ 1 ≤ m ∧ m ≤ 12
instance (y m : Int) : Decidable (okYM y m) := by unfold okYM; infer_instance
def dl (y m : Int) : Int := if okYM y m then ld y m else 0
theorem dl_ok {y m : Int} (h1 : 1 ≤ y) (h2 : y ≤ 9999) (h3 : 1 ≤ m) (h4 : m ≤ 12) : dl y m = ld y m := by unfold dl; rw [if_pos (show okYM y m from ⟨h1, h2, h3, h4⟩)]
theorem dl_bd (y m : Int) : 0 ≤ dl y m ∧ dl y m ≤ 31 := by
  have := ld_bd y m
  unfold dl; split <;> omega
theorem implLast_eq (k : Nat) (y m : Int) : impl_DayLast.f (k + 2) y m = some (dl y m) := by
  unfold impl_DayLast.f impl_in.f
  by_cases hy1 : y ≥ 1
  · by_cases hy2 : y ≤ 9999
    · by_cases hm1 : m ≥ 1
      · by_cases hm2 : m ≤ 12
        · rw [dl_ok hy1 hy2 hm1 hm2]
          have := lpI_01 y
          simp only [hy1, hy2, hm1, hm2, if_true, decide_true, Option.bind_some, Bool.not_true, impl_DayLast.j0, implLeap_eq (show 0 ≤ y by omega)]
          unfold ld
          by_cases h2 : m = 2
          · rcases this with e | e <;> simp [impl_DayLast.j1, h2, e]
          · simp only [impl_DayLast.j1, h2, if_false]
            simp only [Bool.false_eq_true, if_false]
            repeat' split
            all_goals rfl
        · have : dl y m = 0 := by unfold dl; rw [if_neg (by unfold okYM; omega)]
          simp [hy1, hy2, hm1, hm2, impl_DayLast.j0, this]
      · have : dl y m = 0 := by unfold dl; rw [if_neg (by unfold okYM; omega)]
        simp [hy1, hy2, hm1, impl_DayLast.j0, this]
    · have : dl y m = 0 := by unfold dl; rw [if_neg (by unfold okYM; omega)]
      simp [hy1, hy2, impl_DayLast.j0, this]
  · have : dl y m = 0 := by unfold dl; rw [if_neg (by unfold okYM; omega)]
    simp [hy1, impl_DayLast.j0, this]

theorem specDayLast_eq (y m : Int) : spec_DayLast.f y m = some (dl y m) := by
  unfold spec_DayLast.f spec_l1In.f
  by_cases h : okYM y m
  · obtain ⟨h1, h2, h3, h4⟩ := h
    rw [dl_ok h1 h2 h3 h4]
    simp [h1, h2, h3, h4, specLast_eq (show 0 ≤ y by omega)]
  · have : dl y m = 0 := by unfold dl; rw [if_neg h]
    rw [this]
    unfold okYM at h
    by_cases hy1 : y ≥ 1 <;> by_cases hy2 : y ≤ 9999 <;> by_cases hm1 : m ≥ 1 <;> by_cases hm2 : m ≤ 12 <;> simp [hy1, hy2, hm1, hm2] <;> omega

theorem ahead_eq {y : Int} (h1 : 1 ≤ y) (h2 : y ≤ 10000) : impl_ahead.f y = some (dby y) := by
  unfold impl_ahead.f dby
  rw [w64 (x := y - 1) (by omega) (by omega), Int.tdiv_eq_ediv_of_nonneg (show 0 ≤ y - 1 by omega), Int.tdiv_eq_ediv_of_nonneg (show 0 ≤ y - 1 by omega), Int.tdiv_eq_ediv_of_nonneg (show 0 ≤ y - 1 by omega)]
  rw [w64 (x := 365 * (y - 1)) (by omega) (by omega), w64 (x := (y - 1) / 4) (by omega) (by omega), w64 (x := (y - 1) / 100) (by omega) (by omega), w64 (x := (y - 1) / 400) (by omega) (by omega)]
  rw [w64 (x := 365 * (y - 1) + (y - 1) / 4) (by omega) (by omega), w64 (x := 365 * (y - 1) + (y - 1) / 4 - (y - 1) / 100) (by omega) (by omega), w64 (by omega) (by omega)]

theorem implOf_l0 {y m : Int} (hy1 : 1 ≤ y) (hy2 : y ≤ 9999) (hm2 : m ≤ 12) (d : Nat) : ∀ (k : Nat) (n j : Int), 0 ≤ n → n ≤ 10000000 + 31 * j → 1 ≤ j → j ≤ m → m - j = d → d < k →
    impl_DayOf.l0 (k + 2) y m n j = some (n + cum (lpI y) m - cum (lpI y) j) := by
  induction d with
  | zero =>
    intro k n j h0 h1 hj1 hj2 hd hk
    obtain rfl : j = m := by omega
    obtain ⟨k, rfl⟩ : ∃ i, k = i + 1 := ⟨k - 1, by omega⟩
    rw [impl_DayOf.l0]
    rw [if_neg (by omega)]
    congr 1; omega
  | succ d ih =>
    intro k n j h0 h1 hj1 hj2 hd hk
    obtain ⟨k, rfl⟩ : ∃ i, k = i + 1 := ⟨k - 1, by omega⟩
    have hb := ld_bd y j
    have hs := cum_succ y j hj1 (by omega)
    show impl_DayOf.l0 (k + 2 + 1) y m n j = _
    rw [impl_DayOf.l0]
    rw [if_pos (by omega), implLast_eq, dl_ok hy1 hy2 hj1 (by omega)]
    simp only [Option.bind_some]
    rw [w64 (by omega) (by omega), w64 (by omega) (by omega), ih k _ _ (by omega) (by omega) (by omega) (by omega) (by omega) (by omega), hs]
    congr 1; omega
def okD (y m d : Int) : Prop := okYM y m ∧ 1 ≤ d ∧ d ≤ ld y m
instance (y m d : Int) : Decidable (okD y m d) := by unfold okD; infer_instance
def dof (y m d : Int) : Int := if okD y m d then num y m d else 0
theorem implOf_eq (k : Nat) (y m d : Int) : impl_DayOf.f (k + 16) y m d = some (dof y m d) := by
  unfold impl_DayOf.f
  rw [show k + 16 = (k + 14) + 2 from rfl, implLast_eq]
  simp only [Option.bind_some]
  unfold impl_in.f dof
  by_cases h : okD y m d
  · have h' := h
    obtain ⟨⟨h1, h2, h3, h4⟩, h5, h6⟩ := h'
    have hb := dby_bd h1 (show y ≤ 10000 by omega)
    have hl := ld_bd y m
    rw [if_pos h, dl_ok h1 h2 h3 h4, if_pos h5]
    simp only [Option.bind_some]
    rw [if_pos (decide_eq_true h6), ahead_eq h1 (by omega)]
    simp only [Option.bind_some]
    rw [w64 (by omega) (by omega), implOf_l0 h1 h2 h4 (m - 1).toNat (k + 14) _ 1 (by omega) (by omega) (by omega) h3 (by omega) (by omega), cum_one]
    unfold num
    congr 1; omega
  · rw [if_neg h]
    by_cases h5 : d ≥ 1
    · have h6 : ¬ d ≤ dl y m := by
        intro h6
        apply h
        unfold dl at h6
        by_cases hq : okYM y m
        · rw [if_pos hq] at h6; exact ⟨hq, h5, h6⟩
        · rw [if_neg hq] at h6; omega
      simp [h5, h6]
    · simp [h5]

theorem drawDayOf_any {l : List Int} (hl : ∀ x ∈ l, (Lit.int .u8 x).wf = true) :
    ∃ y m d : Int, (∀ k, spec_DrawDayOf.f (k + 1) l = some (y, m, d)) ∧ 0 ≤ y ∧ y ≤ 10000 ∧ 0 ≤ m ∧ m ≤ 13 ∧ 0 ≤ d ∧ d ≤ 32 := by
  obtain ⟨b, hb, hB⟩ := open_any hl
  obtain ⟨r1, h1, a1, b1⟩ := pick_any hB (p := 0) (n := 250) (by omega) (by omega) (by omega)
  have e40 : wrap64 (1 + wrap64 (r1 * 40)) = 1 + r1 * 40 := by rw [w64 (x := r1 * 40) (by omega) (by omega), w64 (by omega) (by omega)]
  obtain ⟨y, hy, my⟩ := one_any hB (p := 0 + 1) (by omega) (by omega) (l := [1, 4, 100, 400, 1900, 2000, 2023, 2024, 9999, 0, 10000, 1 + r1 * 40]) (by simp)
  obtain ⟨m, h2, a2, b2⟩ := pick_any hB (p := 0 + 1 + 1) (n := 14) (by omega) (by omega) (by omega)
  obtain ⟨r3, h3, a3, b3⟩ := pick_any hB (p := 0 + 1 + 1 + 1) (n := 32) (by omega) (by omega) (by omega)
  obtain ⟨d, hd, md⟩ := one_any hB (p := 0 + 1 + 1 + 1 + 1) (by omega) (by omega) (l := [0, 1, 28, 29, 30, 31, 32, r3]) (by simp)
  simp only [List.mem_cons, List.not_mem_nil, or_false] at my md
  refine ⟨y, m, d, fun k => ?_, by omega, by omega, by omega, by omega, by omega, by omega⟩
  unfold spec_DrawDayOf.f
  rw [hb]; simp only [Option.bind_some]
  rw [h1 k]; simp only [Option.bind_some]
  rw [e40, hy k]; simp only [Option.bind_some]
  rw [h2 k]; simp only [Option.bind_some]
  rw [h3 k]; simp only [Option.bind_some]
  rw [hd k]; simp only [Option.bind_some]

theorem sum_out {y : Int} (hy : y < 1 ∨ 9999 < y) (d : Nat) : ∀ (k : Nat) (j : Int), 1 ≤ j → j ≤ 13 → 13 - j = d → d + 1 < k → laws_FnDayYear.l0 (k + 2) y 0 j = some true := by
  have hz : ∀ m, dl y m = 0 := fun m => by unfold dl; rw [if_neg (by unfold okYM; omega)]
  induction d with
  | zero =>
    intro k j h1 h2 hd hk
    obtain ⟨k, rfl⟩ : ∃ i, k = i + 2 := ⟨k - 2, by omega⟩
    show laws_FnDayYear.l0 (k + 2 + 1 + 1) y 0 j = _
    rw [laws_FnDayYear.l0]
    rw [if_neg (by omega)]
    by_cases h : y < 1
    · rw [if_pos h]; simp [laws_FnDayYear.j1]
    · rw [if_neg h, show decide (y > 9999) = true from decide_eq_true (by omega)]; simp [laws_FnDayYear.j1]
  | succ d ih =>
    intro k j h1 h2 hd hk
    obtain ⟨k, rfl⟩ : ∃ i, k = i + 1 := ⟨k - 1, by omega⟩
    show laws_FnDayYear.l0 (k + 2 + 1) y 0 j = _
    rw [laws_FnDayYear.l0]
    rw [if_pos (by omega), implLast_eq, hz]
    simp only [Option.bind_some]
    rw [w64 (x := 0 + 0) (by omega) (by omega), w64 (by omega) (by omega), show (0 : Int) + 0 = 0 from rfl]
    exact ih k (j + 1) (by omega) (by omega) (by omega) (by omega)
theorem year_end {y : Int} (h1 : 1 ≤ y) (h2 : y ≤ 9999) (k : Nat) : laws_FnDayYear.j1 (k + 17) y (365 + lpI y) false = some true := by
  have l01 := lpI_01 y
  have hb := dby_bd h1 (show y ≤ 10000 by omega)
  have e1 : dof y 12 31 = num y 12 31 := by unfold dof; rw [if_pos ⟨⟨h1, h2, by omega, by omega⟩, by omega, by unfold ld; simp⟩]
  have e2 : dof y 1 1 = num y 1 1 := by unfold dof; rw [if_pos ⟨⟨h1, h2, by omega, by omega⟩, by omega, by unfold ld; simp⟩]
  have e3 : num y 12 31 = dby y + 365 + lpI y := by unfold num cum; simp; omega
  have e4 : num y 1 1 = dby y + 1 := by unfold num cum; simp
  show laws_FnDayYear.j1 (k + 16 + 1) y (365 + lpI y) false = _
  simp only [laws_FnDayYear.j1]
  rw [if_neg (by decide), implOf_eq, implOf_eq, implOf_eq]
  simp only [Option.bind_some]
  rw [e1, e2, e3, e4, w64 (x := dby y + 365 + lpI y - (dby y + 1)) (by omega) (by omega), w64 (by omega) (by omega), if_pos (by omega)]
  rcases l01 with e | e
  · have e5 : dof y 2 29 = 0 := by unfold dof; rw [if_neg (by unfold okD ld; rw [e]; simp)]
    rw [e5, e]
    decide
  · have e5 : dof y 2 29 = num y 2 29 := by unfold dof; rw [if_pos ⟨⟨h1, h2, by omega, by omega⟩, by omega, by unfold ld; rw [e]; simp⟩]
    have e6 : num y 2 29 > 0 := by unfold num cum; simp; omega
    rw [e5, e, decide_eq_true e6, if_pos e6]
    decide
theorem sum_in {y : Int} (hy1 : 1 ≤ y) (hy2 : y ≤ 9999) (d : Nat) : ∀ (k : Nat) (j : Int), 1 ≤ j → j ≤ 13 → 13 - j = d → d + 20 < k → laws_FnDayYear.l0 (k + 2) y (cum (lpI y) j) j = some true := by
  induction d with
  | zero =>
    intro k j h1 h2 hd hk
    obtain rfl : j = 13 := by omega
    obtain ⟨k, rfl⟩ : ∃ i, k = i + 16 := ⟨k - 16, by omega⟩
    show laws_FnDayYear.l0 (k + 17 + 1) y _ 13 = _
    rw [laws_FnDayYear.l0]
    rw [if_neg (by omega), if_neg (by omega), show decide (y > 9999) = false from decide_eq_false (by omega), cum_13]
    exact year_end hy1 hy2 k
  | succ d ih =>
    intro k j h1 h2 hd hk
    obtain ⟨k, rfl⟩ : ∃ i, k = i + 1 := ⟨k - 1, by omega⟩
    have hb := ld_bd y j
    have hc := cum_bd y j
    show laws_FnDayYear.l0 (k + 2 + 1) y _ j = _
    rw [laws_FnDayYear.l0]
    rw [if_pos (by omega), implLast_eq, dl_ok hy1 hy2 h1 (by omega)]
    simp only [Option.bind_some]
    rw [w64 (by omega) (by omega), w64 (by omega) (by omega), ← cum_succ y j h1 (by omega)]
    exact ih k (j + 1) (by omega) (by omega) (by omega) (by omega)
end BFnDayYear
open BFnDayYear
theorem FnDayYear : laws_FnDayYear.Pure := by
  intro l _ _ hl
  refine ⟨42, ?_⟩
  unfold laws_FnDayYear.f
  by_cases hlen : (l.length : Int) > 1048576
  · rw [if_pos hlen]
  · rw [if_neg hlen]
    obtain ⟨y, m, d, hy, _, _, _, _, _, _⟩ := drawDayOf_any hl
    unfold spec_DrawDayLast.f
    rw [hy 41]
    simp only [Option.bind_some]
    rw [implLast_eq 40, specDayLast_eq]
    simp only [Option.bind_some, if_true]
    by_cases h : y < 1 ∨ 9999 < y
    · exact sum_out h 12 40 1 (by omega) (by omega) (by omega) (by omega)
    · have := sum_in (y := y) (by omega) (by omega) 12 40 1 (by omega) (by omega) (by omega) (by omega)
      rwa [cum_one] at this
end Go.Proofs.Ytaifkjenoebgiaa.Pure
