/- What the claim's row needs of the contracts and words below it, and no more. -/
import Derived.Test.YtdbgpoileffbeaaGreatDoorQDu4
import Derived.Lib.AtoiAllMem
import Derived.Lib.IndexLaws
import Derived.Lib.AtoiAllCases
import Derived.Test.YtdbgpoileffbeaaGreatDoorRows
import Derived.Stop.LaidErr
import Derived.Lib.LaidTab
import Derived.Shelf.Vars
import Derived.SizedLaws
import Derived.KernelRfl
section
namespace Go.Proofs.YtdbgpoileffbeaaGreatDoor.Str
open Go.Lib Go.RowKit Go.Proofs.YtdbgpoileffbeaaGreatDoor.Dec Go.Proofs.YtdbgpoileffbeaaGreatDoor.Pr Go.Proofs.YtdbgpoileffbeaaGreatDoor.Ext Go.Proofs.YtdbgpoileffbeaaGreatDoorW.PrintWords Go.Proofs.YtdbgpoileffbeaaGreatDoorW.PrintLast Go.Proofs.YtdbgpoileffbeaaGreatDoorW.PrintMore
set_option linter.unusedVariables false
set_option linter.unusedSimpArgs false
def str (l : List UInt8) : ByteArray := ⟨l.toArray⟩
theorem str_size (l : List UInt8) : (str l).size = l.length := by unfold str; simp [ByteArray.size]
theorem str_data (l : List UInt8) : (str l).data.toList = l := by unfold str; simp
theorem str_toList (l : List UInt8) : (str l).toList = l := by rw [ByteArray.toList_eq, str_data]
theorem str_append (a b : List UInt8) : str a ++ str b = str (a ++ b) := by
  apply ByteArray.ext
  simp [str]
theorem str_extract (l : List UInt8) (a b : Nat) : (str l).extract a b = str ((l.drop a).take (b - a)) := by
  rw [extract_eq, str_data]; rfl
theorem str_bt (l : List UInt8) {i : Int} (h0 : 0 ≤ i) (h1 : i < l.length) : bt (str l) i = ((l[i.toNat]'(by omega)).toNat : Int) := by
  unfold bt
  rw [dif_pos (by rw [str_size]; omega)]
  rfl
theorem str_btD (l : List UInt8) {i : Int} (h0 : 0 ≤ i) (h1 : i < l.length) : bt (str l) i = ((l.getD i.toNat 0).toNat : Int) := by
  rw [str_bt l h0 h1, List.getD_eq_getElem?_getD, List.getElem?_eq_getElem (by omega)]; rfl
theorem bS {α β : Type} (a : α) (f : α → Option β) : (some a).bind f = f a := by have h := Option.bind_some a f; rw [h]
theorem w64 {x : Int} (h : -9223372036854775808 ≤ x) (h' : x ≤ 9223372036854775807) : wrap64 x = x := by unfold wrap64; omega
theorem strOf_one {d : Int} (h0 : 0 ≤ d) (h1 : d < 10) : strOfNums [(wrap64 (48 + d)) % 256] = str [UInt8.ofNat (48 + d.toNat)] := by
  rw [w64 (by omega) (by omega), show (48 + d) % 256 = 48 + d from by omega]
  have e : (48 + d).toNat = 48 + d.toNat := by omega
  unfold strOfNums str
  simp [e]
theorem itoa_nonneg {n : Int} (h : 0 ≤ n) : itoa n = decDigits n.toNat := by unfold itoa; rw [if_neg (by omega)]
theorem itoa_neg {n : Int} (h : n < 0) : itoa n = 45 :: decDigits n.natAbs := by unfold itoa; rw [if_pos h]
theorem decDigits_le (n : Nat) : (decDigits n).length ≤ n + 1 := by
  induction n using Nat.strongRecOn with
  | ind n ih =>
    rw [decDigits]
    split
    · simp
    · have := ih (n / 10) (by omega)
      rw [List.length_append, List.length_singleton]; omega
theorem l1Dec_nonneg (m : Nat) : ∀ (k : Nat) (n : Int), 0 ≤ n → n ≤ 9223372036854775807 → n < 10 ^ m → m < k → spec_l1Dec.f k n = some (str (decDigits n.toNat)) := by
  induction m with
  | zero =>
    intro k n h0 _ hm hk
    obtain ⟨k, rfl⟩ : ∃ j, k = j + 1 := ⟨k - 1, by omega⟩
    have hn : n = 0 := by simp at hm; omega
    subst hn
    rw [spec_l1Dec.f, if_neg (by omega), if_neg (by omega), if_pos (by omega), strOf_one (by omega) (by omega), decDigits, dif_pos (by decide)]
  | succ m ih =>
    intro k n h0 h1 hm hk
    obtain ⟨k, rfl⟩ : ∃ j, k = j + 1 := ⟨k - 1, by omega⟩
    rw [spec_l1Dec.f, if_neg (by omega), if_neg (by omega)]
    by_cases h : n < 10
    · rw [if_pos h, strOf_one h0 h, decDigits, dif_pos (by omega)]
    · have hp : (10 : Int) ^ (m + 1) = 10 ^ m * 10 := Int.pow_succ ..
      rw [if_neg h, Int.tdiv_eq_ediv_of_nonneg h0, w64 (by omega) (by omega), ih k (n / 10) (by omega) (by omega) (by rw [hp] at hm; omega) (by omega), Int.tmod_eq_emod_of_nonneg h0]
      simp only [bS]
      have hd := decDigits_le (n / 10).toNat
      have hd2 : (decDigits (n / 10).toNat).length ≤ 19 := decDigits_len_le (by decide) (by omega)
      rw [strOf_one (by omega) (by omega), str_size, str_size, if_pos (by simp; omega), str_append]
      congr 2
      rw [show n.toNat = n.toNat from rfl, decDigits.eq_def n.toNat, dif_neg (by omega)]
      rw [show (n / 10).toNat = n.toNat / 10 from by omega, show (n % 10).toNat = n.toNat % 10 from by omega]
theorem p19 : (10 : Int) ^ 19 = 10000000000000000000 := by decide
theorem l1Dec_eq {n : Int} (h0 : -9223372036854775808 ≤ n) (h1 : n ≤ 9223372036854775807) (k : Nat) (hk : 25 ≤ k) : spec_l1Dec.f k n = some (str (itoa n)) := by
  by_cases h : 0 ≤ n
  · rw [l1Dec_nonneg 19 k n h h1 (by rw [p19]; omega) (by omega), itoa_nonneg h]
  · obtain ⟨k, rfl⟩ : ∃ j, k = j + 1 := ⟨k - 1, by omega⟩
    rw [spec_l1Dec.f]
    by_cases hm : n < -9223372036854775807
    · have : n = -9223372036854775808 := by omega
      subst this
      rw [if_pos hm]
      have e : itoa (-9223372036854775808) = [45, 57, 50, 50, 51, 51, 55, 50, 48, 51, 54, 56, 53, 52, 55, 55, 53, 56, 48, 56] := by decide +kernel
      rw [e]; rfl
    · have hd2 : (decDigits (-n).toNat).length ≤ 19 := decDigits_len_le (by decide) (by omega)
      rw [if_neg hm, if_pos (by omega), w64 (by omega) (by omega), l1Dec_nonneg 19 k (-n) (by omega) (by omega) (by rw [p19]; omega) (by omega)]
      simp only [bS]
      rw [str_size, if_pos (by omega), itoa_neg (by omega), show n.natAbs = (-n).toNat from by omega]
      exact congrArg some (str_append [45] _)
theorem itoa_len {n : Int} (h0 : -9223372036854775808 ≤ n) (h1 : n ≤ 9223372036854775807) : (itoa n).length ≤ 20 := by
  by_cases h : 0 ≤ n
  · rw [itoa_nonneg h]
    have : (decDigits n.toNat).length ≤ 19 := decDigits_len_le (by decide) (by omega)
    omega
  · rw [itoa_neg (by omega)]
    have : (decDigits n.natAbs).length ≤ 19 := decDigits_len_le (by decide) (by omega)
    rw [List.length_cons]; omega
end Go.Proofs.YtdbgpoileffbeaaGreatDoor.Str
end
section
namespace Go.Proofs.YtdbgpoileffbeaaGreatDoor.Val
open Go.RowKit Go.Proofs.YtdbgpoileffbeaaGreatDoor.Pr Go.Proofs.YtdbgpoileffbeaaGreatDoor.Ext Go.Proofs.YtdbgpoileffbeaaGreatDoor.Jt Go.Proofs.YtdbgpoileffbeaaGreatDoorW.PrintWords Go.Proofs.YtdbgpoileffbeaaGreatDoorW.PrintLast Go.Proofs.YtdbgpoileffbeaaGreatDoorW.PrintMore
set_option linter.unusedVariables false
set_option linter.unusedSimpArgs false
theorem w64 {x : Int} (h : -9223372036854775808 ≤ x) (h' : x ≤ 9223372036854775807) : wrap64 x = x := by unfold wrap64; omega
theorem rdn (l : List Int) (i : Int) : rd l i = l.getD i.toNat 0 := rfl
def okD (x : Int) : Bool := decide (0 ≤ x) && decide (x ≤ 9999)
def okB (neg : Bool) (l : List Int) : Bool := decide (l.length ≤ 16) && l.all okD && (decide (l.length = 0) || decide (l.getD (l.length - 1) 0 ≠ 0)) && (!neg || decide (l.length ≠ 0))
theorem okB_iff (neg : Bool) (l : List Int) : okB neg l = true ↔ BOk neg l := by
  unfold okB BOk Dig Nz
  simp only [Bool.and_eq_true, decide_eq_true_eq, List.all_eq_true, okD, Bool.or_eq_true, Bool.not_eq_true']
  constructor
  · rintro ⟨⟨⟨a, b⟩, c⟩, d⟩
    exact ⟨a, b, c, fun h => d.resolve_left (by simp [h])⟩
  · rintro ⟨a, b, c, d⟩
    refine ⟨⟨⟨a, b⟩, c⟩, ?_⟩
    cases neg
    · exact .inl rfl
    · exact .inr (d rfl)
theorem in_ge (x : Int) : spec_l1In.f x 0 9999 = some (okD x) := by
  unfold spec_l1In.f okD
  by_cases h : x ≥ 0
  · rw [if_pos h, decide_eq_true h, Bool.true_and]
  · rw [if_neg h, decide_eq_false h, Bool.false_and]
theorem bne_d (x : Int) : (x != 0) = decide (x ≠ 0) := by by_cases h : x = 0 <;> simp [h]
theorem l1Ok_l0 (neg : Bool) (l : List Int) (hl : l.length ≤ 16) : ∀ (m k i : Nat), i + m = l.length → m + 1 ≤ k →
    spec_l1Ok.l0 k (i : Int) neg l = some ((l.drop i).all okD && (decide (l.length = 0) || decide (l.getD (l.length - 1) 0 ≠ 0))) := by
  intro m
  induction m with
  | zero =>
    intro k i hi hk
    obtain ⟨k, rfl⟩ : ∃ j, k = j + 1 := ⟨k - 1, by omega⟩
    rw [spec_l1Ok.l0, if_neg (by omega), List.drop_eq_nil_of_le (by omega)]
    by_cases h0 : l.length = 0
    · rw [if_pos (by omega)]; simp [h0]
    · rw [if_neg (by omega), w64 (by omega) (by omega), if_pos (by omega), if_pos (by omega), rdn, show ((l.length : Int) - 1).toNat = l.length - 1 from by omega, bne_d, decide_eq_false h0]
      rfl
  | succ m ih =>
    intro k i hi hk
    obtain ⟨k, rfl⟩ : ∃ j, k = j + 1 := ⟨k - 1, by omega⟩
    have hlt : i < l.length := by omega
    rw [spec_l1Ok.l0, if_pos (by omega), if_pos (by omega), in_ge]
    simp only [Option.bind_some]
    rw [rdn, Int.toNat_natCast, drop_cons hlt, List.all_cons]
    by_cases hb : okD (l.getD i 0) = true
    · rw [if_pos hb, w64 (by omega) (by omega), show ((i : Int) + 1) = ((i + 1 : Nat) : Int) from by omega, ih k (i + 1) (by omega) (by omega), hb, Bool.true_and]
    · rw [if_neg hb, Bool.eq_false_iff.mpr hb]; simp
theorem l1Ok_ge (neg : Bool) (l : List Int) (k : Nat) (hk : 30 ≤ k) : spec_l1Ok.f k neg l = some (okB neg l) := by
  obtain ⟨k, rfl⟩ : ∃ j, k = j + 1 := ⟨k - 1, by omega⟩
  unfold spec_l1Ok.f okB
  by_cases h16 : (l.length : Int) > 16
  · rw [if_pos h16, spec_l1Ok.j0, if_pos rfl, decide_eq_false (show ¬ l.length ≤ 16 by omega)]; simp
  · have e := l1Ok_l0 neg l (by omega) l.length k 0 (by omega) (by omega)
    rw [List.drop_zero] at e
    rw [if_neg h16, decide_eq_true (show l.length ≤ 16 by omega), Bool.true_and]
    cases neg
    · rw [if_neg (by decide), spec_l1Ok.j0, if_neg (by decide)]
      refine e.trans ?_
      simp
    · rw [if_pos rfl, spec_l1Ok.j0]
      by_cases h0 : l.length = 0
      · rw [if_pos (by simp [h0])]; simp [h0]
      · rw [if_neg (by simp; intro hn; simp [hn] at h0)]
        refine e.trans ?_
        rw [decide_eq_true (show l.length ≠ 0 from h0)]
        simp
theorem any_bad (l : List Int) : l.any bad = !(l.all okD) := by
  induction l with
  | nil => rfl
  | cons x xs ih => rw [List.any_cons, List.all_cons, ih, Bool.not_and]; rfl
theorem bigOk_f (neg : Bool) (l : List Int) : impl_BigOk.f neg l = some (okB neg l) := by
  unfold impl_BigOk.f okB containsBad.f
  simp only [any_bad, Option.bind_some, Bool.not_not]
  by_cases h16 : (l.length : Int) ≤ 16
  · rw [if_pos h16, decide_eq_true (show l.length ≤ 16 by omega), Bool.true_and]
    by_cases h0 : (l.length : Int) = 0
    · rw [if_pos h0]
      have h0' : l.length = 0 := by omega
      cases neg
      · rw [if_neg (by decide)]; simp [h0']
      · rw [if_pos rfl, if_neg (by omega)]; simp [h0']
    · have h0' : l.length ≠ 0 := by omega
      rw [if_neg h0, if_pos (by omega), w64 (by omega) (by omega), if_pos (by omega), if_pos (by omega), rdn, show ((l.length : Int) - 1).toNat = l.length - 1 from by omega, decide_eq_false h0', decide_eq_true (show l.length ≠ 0 from h0'), Bool.false_or, Bool.or_true, Bool.and_true]
      by_cases hz : l.getD (l.length - 1) 0 = 0
      · rw [if_pos hz, decide_eq_false (by simpa using hz)]; simp
      · rw [if_neg hz, decide_eq_true hz]; simp
  · rw [if_neg h16, decide_eq_false (show ¬ l.length ≤ 16 by omega)]; simp
theorem rdN (l : List Int) (i : Nat) : rd l (i : Int) = l.getD i 0 := by unfold rd; rw [Int.toNat_natCast]
theorem getD_set_ne {l : List Int} {i j : Nat} (v : Int) (h : i < l.length) (hne : j ≠ i) : (l.set i v).getD j 0 = l.getD j 0 := by rw [getD_set l i j v h, if_neg hne]
end Go.Proofs.YtdbgpoileffbeaaGreatDoor.Val
end
section
namespace Go.Proofs.YtdbgpoileffbeaaGreatDoor.Str
open Go.Lib Go.RowKit Go.Proofs.YtdbgpoileffbeaaGreatDoor.Dec Go.Proofs.YtdbgpoileffbeaaGreatDoor.Jt Go.Proofs.YtdbgpoileffbeaaGreatDoor.Val Go.Proofs.YtdbgpoileffbeaaGreatDoor.Pr Go.Proofs.YtdbgpoileffbeaaGreatDoor.Ext Go.Proofs.YtdbgpoileffbeaaGreatDoorW.PrintWords Go.Proofs.YtdbgpoileffbeaaGreatDoorW.PrintLast Go.Proofs.YtdbgpoileffbeaaGreatDoorW.PrintMore
set_option linter.unusedVariables false
set_option linter.unusedSimpArgs false
theorem repeat_zeros (c : Nat) : repeatL [48] c = zerosL c := by
  induction c with
  | zero => rfl
  | succ c ih => unfold zerosL at *; rw [repeatL, ih, List.replicate_succ]; rfl
theorem specWide_l0 (d : Nat) : ∀ (k : Nat) (w : Int) (l : List UInt8), w ≤ 100 → l.length ≤ 100 → w - l.length ≤ d → d < k → spec_l1Wide.l0 k w (str l) = some (str (zerosL (w.toNat - l.length) ++ l)) := by
  induction d with
  | zero =>
    intro k w l hw hl hd hk
    obtain ⟨k, rfl⟩ : ∃ j, k = j + 1 := ⟨k - 1, by omega⟩
    rw [spec_l1Wide.l0, str_size, if_neg (by omega), show w.toNat - l.length = 0 by omega]
    rfl
  | succ d ih =>
    intro k w l hw hl hd hk
    obtain ⟨k, rfl⟩ : ∃ j, k = j + 1 := ⟨k - 1, by omega⟩
    rw [spec_l1Wide.l0, str_size]
    by_cases h : (l.length : Int) < w
    · rw [if_pos h, if_pos (by omega), show (⟨#[48]⟩ : ByteArray) = str [48] from rfl, str_append]
      by_cases h2 : l.length + 1 ≤ 100
      · rw [ih k w ([48] ++ l) hw (by simp; omega) (by simp; omega) (by omega)]
        congr 2
        rw [List.length_append, List.length_singleton, ← List.append_assoc]
        congr 1
        rw [show w.toNat - l.length = (w.toNat - (1 + l.length)) + 1 by omega]
        unfold zerosL
        rw [List.replicate_succ']
      · exfalso; omega
    · rw [if_neg h, show w.toNat - l.length = 0 by omega]
      rfl
theorem specWide {n w : Int} (h0 : 0 ≤ n) (h1 : n ≤ 9223372036854775807) (w0 : 0 ≤ w) (w1 : w ≤ 90) (k : Nat) (hk : 120 ≤ k) : spec_l1Wide.f k n w = some (str (padL n.toNat w.toNat)) := by
  unfold spec_l1Wide.f
  have hl := itoa_len (n := n) (by omega) h1
  rw [l1Dec_eq (by omega) h1 k (by omega)]
  simp only [bS]
  rw [itoa_nonneg h0] at hl ⊢
  rw [specWide_l0 100 k w _ (by omega) (by omega) (by omega) (by omega)]
  rfl
theorem textB_len {l : List Int} (hd : Dig l) (k : Nat) : (textB (l.drop k)).length ≤ 4 * l.length + 1 := by
  unfold textB
  split
  · simp
  · have h := textL_len (l.drop k) (fun x hx => hd x (List.mem_of_mem_drop hx))
    rw [List.length_drop] at h
    omega
theorem dig_getD {l : List Int} (hd : Dig l) (i : Nat) : 0 ≤ l.getD i 0 ∧ l.getD i 0 ≤ 9999 := by
  by_cases h : i < l.length
  · rw [getD_lt h]; exact hd _ (List.getElem_mem h)
  · rw [getD_ge (by omega)]; omega
theorem figs_l0 {l : List Int} (hd : Dig l) (hl : l.length ≤ 16) : ∀ (m k : Nat), m < l.length → m + 130 ≤ k → spec_l1Figures.l0 k l (str (textB (l.drop m))) ((m : Int) - 1) = some (str (textB l)) := by
  intro m
  induction m with
  | zero =>
    intro k hm hk
    obtain ⟨k, rfl⟩ : ∃ j, k = j + 1 := ⟨k - 1, by omega⟩
    rw [spec_l1Figures.l0, if_neg (by omega), List.drop_zero]
  | succ m ih =>
    intro k hm hk
    obtain ⟨k, rfl⟩ : ∃ j, k = j + 1 := ⟨k - 1, by omega⟩
    have e : ((m + 1 : Nat) : Int) - 1 = (m : Int) := by omega
    have hb := dig_getD hd m
    have hp := pad4_len hb.1 hb.2
    have ht := textB_len hd (m + 1)
    rw [e, spec_l1Figures.l0, if_pos (by omega), if_pos (by omega), if_pos (by omega), rdN, specWide hb.1 (by omega) (by omega) (by omega) k (by omega), show (4 : Int).toNat = 4 from rfl]
    simp only [bS]
    rw [show padL (l.getD m 0).toNat 4 = pad4 (l.getD m 0) from rfl, str_size, str_size, if_pos (by omega), str_append, Str.w64 (by omega) (by omega)]
    have hs := textB_step l (k := m) (by omega)
    rw [if_pos (by omega)] at hs
    rw [← hs]
    exact ih k (by omega) (by omega)
theorem figs {l : List Int} (hd : Dig l) (hl : l.length ≤ 16) (k : Nat) (hk : 200 ≤ k) : spec_l1Figures.f k l = some (str (textL l)) := by
  unfold spec_l1Figures.f
  by_cases h0 : l = []
  · subst h0; rfl
  · have hpos : 0 < l.length := List.length_pos_iff.2 h0
    have hb := dig_getD hd (l.length - 1)
    rw [if_neg (by omega), Str.w64 (by omega) (by omega), if_pos (by omega), if_pos (by omega), show ((l.length : Int) - 1) = ((l.length - 1 : Nat) : Int) by omega, rdN, l1Dec_eq (by omega) (by omega) k (by omega)]
    simp only [bS]
    have hs := textB_step l (k := l.length - 1) (by omega)
    rw [if_neg (by omega), show l.length - 1 + 1 = l.length by omega, List.drop_length, show textB [] = [] from rfl, List.nil_append] at hs
    rw [itoa_nonneg hb.1, ← hs, Str.w64 (by omega) (by omega), show ((l.length : Int) - 2) = ((l.length - 1 : Nat) : Int) - 1 by omega, figs_l0 hd hl (l.length - 1) k (by omega) (by omega)]
    unfold textB
    rw [if_neg h0]
theorem textS {l : List Int} (hd : Dig l) (hl : l.length ≤ 16) : impl_limbs_text.f l = some (str (textL l)) := by
  unfold impl_limbs_text.f
  rw [if_pos ⟨hd, by omega⟩]; rfl
def bigT (n : Bool) (l : List Int) : List UInt8 := if n = true then 45 :: textL l else textL l
theorem textL_16 {l : List Int} (hd : Dig l) (hl : l.length ≤ 16) : (textL l).length ≤ 65 := by have := textL_len l hd; omega
def digN (l : List Int) : Int := if (l.length : Int) = 0 then 0 else ((textL l).length : Int)
def decB (n : Bool) (l : List Int) (s : Int) : Bool := okB n l && (decide (digN l ≤ 30) && decide (0 ≤ s ∧ s ≤ 12))
theorem inB (a b c : Int) : impl_in.f a b c = some (decide (b ≤ a ∧ a ≤ c)) := by
  unfold impl_in.f
  by_cases h : a ≥ b
  · rw [if_pos h]; congr 1; exact decide_eq_decide.2 ⟨fun x => ⟨h, x⟩, fun x => x.2⟩
  · rw [if_neg h, decide_eq_false (fun x => h x.1)]
theorem l1InB (a b c : Int) : spec_l1In.f a b c = some (decide (b ≤ a ∧ a ≤ c)) := by
  unfold spec_l1In.f
  by_cases h : a ≥ b
  · rw [if_pos h]; congr 1; exact decide_eq_decide.2 ⟨fun x => ⟨h, x⟩, fun x => x.2⟩
  · rw [if_neg h, decide_eq_false (fun x => h x.1)]
theorem implDecOk (n : Bool) (l : List Int) (s : Int) : impl_DecOk.f n l s = some (decB n l s) := by
  unfold impl_DecOk.f decB
  rw [bigOk_f]; simp only [bS]
  by_cases h : okB n l = true
  · obtain ⟨hl, hd, hz, hn⟩ := (okB_iff n l).1 h
    have e : impl_limbs_digits.f l = some (digN l) := by
      unfold impl_limbs_digits.f digN
      split
      · rfl
      · rw [textS hd hl]; simp only [bS]; rw [str_size]
    rw [if_pos h, h, e, Bool.true_and]; simp only [bS]
    by_cases h2 : digN l ≤ 30
    · rw [if_pos h2, inB, decide_eq_true h2, Bool.true_and]; simp only [bS]
    · rw [if_neg h2, decide_eq_false h2, Bool.false_and]
  · rw [if_neg h, Bool.eq_false_iff.2 h, Bool.false_and]
theorem specL2Ok (n : Bool) (l : List Int) (s : Int) (k : Nat) (hk : 200 ≤ k) : spec_l2Ok.f k n l s = some (decB n l s) := by
  unfold spec_l2Ok.f decB
  rw [l1Ok_ge n l k (by omega)]; simp only [bS]
  by_cases h : okB n l = true
  · obtain ⟨hl, hd, hz, hn⟩ := (okB_iff n l).1 h
    have e : spec_l1Long.f k l = some (digN l) := by
      unfold spec_l1Long.f digN
      split
      · rfl
      · rw [figs hd hl k hk]; simp only [bS]; rw [str_size]
    rw [if_pos h, h, e, Bool.true_and]; simp only [bS]
    by_cases h2 : digN l ≤ 30
    · rw [if_pos h2, l1InB, decide_eq_true h2, Bool.true_and]; simp only [bS]
    · rw [if_neg h2, decide_eq_false h2, Bool.false_and]
  · rw [if_neg h, Bool.eq_false_iff.2 h, Bool.false_and]
def pointed (n : Bool) (s : Int) (x : ByteArray) : Option ByteArray := (if 0 ≤ (wrap64 ((x.size : Int) - s)) then (if (wrap64 ((x.size : Int) - s)) ≤ (x.size : Int) then (if (x.extract 0 ((wrap64 ((x.size : Int) - s)) : Int).toNat).size + 1 ≤ 9223372036854775807 then (if ((x.extract 0 ((wrap64 ((x.size : Int) - s)) : Int).toNat) ++ (⟨#[46]⟩ : ByteArray)).size + (x.extract ((wrap64 ((x.size : Int) - s)) : Int).toNat x.size).size ≤ 9223372036854775807 then (if n = true then (if 1 + (((x.extract 0 ((wrap64 ((x.size : Int) - s)) : Int).toNat) ++ (⟨#[46]⟩ : ByteArray)) ++ (x.extract ((wrap64 ((x.size : Int) - s)) : Int).toNat x.size)).size ≤ 9223372036854775807 then (some ((⟨#[45]⟩ : ByteArray) ++ (((x.extract 0 ((wrap64 ((x.size : Int) - s)) : Int).toNat) ++ (⟨#[46]⟩ : ByteArray)) ++ (x.extract ((wrap64 ((x.size : Int) - s)) : Int).toNat x.size)))) else (none)) else (some (((x.extract 0 ((wrap64 ((x.size : Int) - s)) : Int).toNat) ++ (⟨#[46]⟩ : ByteArray)) ++ (x.extract ((wrap64 ((x.size : Int) - s)) : Int).toNat x.size)))) else (none)) else (none)) else (none)) else (none))
def pointT (n : Bool) (s : Int) (z : List UInt8) : List UInt8 := (if n = true then [45] else []) ++ ((z.take (z.length - s.toNat) ++ [46]) ++ z.drop (z.length - s.toNat))
theorem pointed_eq (n : Bool) {s : Int} {z : List UInt8} (h0 : 0 < s) (h1 : s ≤ z.length) (hz : z.length ≤ 1000) : pointed n s (str z) = some (str (pointT n s z)) := by
  unfold pointed pointT
  have e : ((z.length : Int) - s).toNat = z.length - s.toNat := by omega
  rw [str_size, Str.w64 (by omega) (by omega), if_pos (by omega), if_pos (by omega), e, str_extract, str_extract, show (⟨#[46]⟩ : ByteArray) = str [46] from rfl, str_append, str_append, str_size, str_size, str_size, show (z.drop 0).take (z.length - s.toNat - 0) = z.take (z.length - s.toNat) by simp, show (z.drop (z.length - s.toNat)).take (z.length - (z.length - s.toNat)) = z.drop (z.length - s.toNat) by rw [List.take_of_length_le]; rw [List.length_drop]; omega]
  have la : (z.take (z.length - s.toNat)).length ≤ 1000 := by rw [List.length_take]; omega
  have lb : (z.drop (z.length - s.toNat)).length ≤ 1000 := by rw [List.length_drop]; omega
  rw [if_pos (by omega), if_pos (by rw [List.length_append, List.length_singleton]; omega)]
  cases n
  · rfl
  · rw [if_pos rfl, if_pos rfl, str_size, if_pos (by simp only [List.length_append, List.length_singleton]; omega), show (⟨#[45]⟩ : ByteArray) = str [45] from rfl, str_append]
def decT (n : Bool) (l : List Int) (s : Int) : List UInt8 := if 0 < s then pointT n s (zerosL (s.toNat + 1 - (textL l).length) ++ textL l) else bigT n l
theorem implDecPut (n : Bool) (l : List Int) (s : Int) : impl_DecPut.f n l s = some (str (if decB n l s = true then decT n l s else [])) := by
  unfold impl_DecPut.f
  rw [implDecOk]; simp only [bS]
  by_cases h : decB n l s = true
  · have h' := h
    unfold decB at h'
    simp only [Bool.and_eq_true, decide_eq_true_eq] at h'
    obtain ⟨ho, _, s0, s1⟩ := h'
    obtain ⟨hl, hd, hz, hn⟩ := (okB_iff n l).1 ho
    have h65 := textL_16 hd hl
    rw [if_pos h, if_pos h, textS hd hl]; simp only [bS]
    unfold decT
    by_cases hs : 0 < s
    · rw [if_pos hs, if_pos hs, str_size, Str.w64 (x := s + 1) (by omega) (by omega), Str.w64 (by omega) (by omega)]
      have e : mx 0 (s + 1 - ((textL l).length : Int)) = ((s.toNat + 1 - (textL l).length : Nat) : Int) := by unfold mx; split <;> omega
      rw [e]
      have er : lib_Repeat.f (⟨#[48]⟩ : ByteArray) ((s.toNat + 1 - (textL l).length : Nat) : Int) = some (str (zerosL (s.toNat + 1 - (textL l).length))) := by
        unfold lib_Repeat.f
        rw [if_pos (by rw [show (⟨#[48]⟩ : ByteArray) = str [48] from rfl, str_size, List.length_singleton]; omega), show (⟨#[48]⟩ : ByteArray) = str [48] from rfl, str_data, Int.toNat_natCast, repeat_zeros]
        rfl
      rw [er]; simp only [bS]
      rw [str_size, if_pos (by rw [zerosL_len]; omega), str_append]
      have hz' : (zerosL (s.toNat + 1 - (textL l).length) ++ textL l).length = s.toNat + 1 - (textL l).length + (textL l).length := by rw [List.length_append, zerosL_len]
      exact pointed_eq n hs (by omega) (by omega)
    · rw [if_neg hs, if_neg hs]
      unfold bigT
      cases n
      · rfl
      · rw [if_pos rfl, if_pos rfl, str_size, if_pos (by omega), show (⟨#[45]⟩ : ByteArray) = str [45] from rfl, str_append]; rfl
  · rw [if_neg h, if_neg h]; rfl
theorem l2Put_l0 (n : Bool) (l0 : List Int) {s : Int} (s0 : 0 ≤ s) (s1 : s ≤ 12) : ∀ (d k : Nat) (z : List UInt8), s.toNat + 1 - z.length ≤ d → z.length ≤ 100 → 0 < z.length → d < k →
    spec_l2Put.l0 k (str z) n l0 s = (if 0 < s then some (str (pointT n s (zerosL (s.toNat + 1 - z.length) ++ z))) else some (str (if n = true then 45 :: z else z))) := by
  intro d
  induction d with
  | zero =>
    intro k z hd hz hp hk
    obtain ⟨k, rfl⟩ : ∃ j, k = j + 1 := ⟨k - 1, by omega⟩
    rw [spec_l2Put.l0, str_size, if_neg (by omega), show s.toNat + 1 - z.length = 0 by omega]
    by_cases hs : 0 < s
    · rw [if_pos hs, if_pos hs, ← str_size]
      exact pointed_eq n hs (by omega) (by omega)
    · rw [if_neg hs, if_neg hs]
      cases n
      · rfl
      · rw [if_pos rfl, if_pos rfl, if_pos (by omega), show (⟨#[45]⟩ : ByteArray) = str [45] from rfl, str_append]; rfl
  | succ d ih =>
    intro k z hd hz hp hk
    by_cases hlt : (z.length : Int) ≤ s
    · obtain ⟨k, rfl⟩ : ∃ j, k = j + 1 := ⟨k - 1, by omega⟩
      rw [spec_l2Put.l0, str_size, if_pos hlt, if_pos (by omega), show (⟨#[48]⟩ : ByteArray) = str [48] from rfl, str_append, ih k ([48] ++ z) (by simp; omega) (by simp; omega) (by simp) (by omega), if_pos (by omega), if_pos (by omega)]
      congr 3
      rw [List.length_append, List.length_singleton, ← List.append_assoc]
      congr 1
      rw [show s.toNat + 1 - z.length = (s.toNat + 1 - (1 + z.length)) + 1 by omega]
      unfold zerosL
      rw [List.replicate_succ']
    · exact ih k z (by omega) hz hp (by omega)
theorem specDecPut (n : Bool) (l : List Int) (s : Int) (k : Nat) (hk : 200 ≤ k) : spec_DecPut.f k n l s = some (str (if decB n l s = true then decT n l s else [])) := by
  unfold spec_DecPut.f
  rw [specL2Ok n l s k hk]; simp only [bS]
  by_cases h : decB n l s = true
  · have h' := h
    unfold decB at h'
    simp only [Bool.and_eq_true, decide_eq_true_eq] at h'
    obtain ⟨ho, _, s0, s1⟩ := h'
    obtain ⟨hl, hd, hz, hn⟩ := (okB_iff n l).1 ho
    have h65 := textL_16 hd hl
    have hne : 0 < (textL l).length := List.length_pos_iff.2 (textL_ne l)
    rw [if_pos h, if_pos h]
    unfold spec_l2Put.f
    rw [figs hd hl k hk]; simp only [bS]
    rw [l2Put_l0 n l s0 s1 20 k _ (by omega) (by omega) hne (by omega)]
    unfold decT bigT
    by_cases hs : 0 < s
    · rw [if_pos hs, if_pos hs]; rfl
    · rw [if_neg hs, if_neg hs]; rfl
  · rw [if_neg h, if_neg h]; rfl
end Go.Proofs.YtdbgpoileffbeaaGreatDoor.Str
end
section
namespace Go.Proofs.YtdbgpoileffbeaaGreatDoor.Val
open Go.RowKit Go.Proofs.YtdbgpoileffbeaaGreatDoor.Pr Go.Proofs.YtdbgpoileffbeaaGreatDoor.Ext Go.Proofs.YtdbgpoileffbeaaGreatDoor.Jt Go.Proofs.YtdbgpoileffbeaaGreatDoorW.PrintWords Go.Proofs.YtdbgpoileffbeaaGreatDoorW.PrintLast Go.Proofs.YtdbgpoileffbeaaGreatDoorW.PrintMore
set_option linter.unusedVariables false
set_option linter.unusedSimpArgs false
def trimN (l : List Int) : Nat → Nat
  | 0 => 0
  | n + 1 => if l.getD n 0 = 0 then trimN l n else n + 1
def trimL (l : List Int) : List Int := l.take (trimN l l.length)
theorem trimN_le (l : List Int) (n : Nat) : trimN l n ≤ n := by
  induction n with
  | zero => exact Nat.le_refl _
  | succ n ih => unfold trimN; split <;> omega
theorem trimN_hi (l : List Int) (n : Nat) : ∀ j, trimN l n ≤ j → j < n → l.getD j 0 = 0 := by
  induction n with
  | zero => intro j _ h; omega
  | succ n ih =>
    intro j h1 h2
    unfold trimN at h1
    split at h1
    · rename_i h
      by_cases hj : j = n
      · rw [hj]; exact h
      · exact ih j h1 (by omega)
    · omega
theorem trimN_nz (l : List Int) (n : Nat) : 0 < trimN l n → l.getD (trimN l n - 1) 0 ≠ 0 := by
  induction n with
  | zero => intro h; simp [trimN] at h
  | succ n ih =>
    unfold trimN
    split
    · exact ih
    · rename_i h; intro _; rw [Nat.add_sub_cancel]; exact h
theorem trimL_of (l : List Int) : TrimOf l (trimL l) := ⟨trimN l l.length, trimN_le _ _, rfl, trimN_hi _ _, trimN_nz _ _⟩
theorem trimL_len (l : List Int) : (trimL l).length ≤ l.length := (trimL_of l).len
theorem trimL_rep {l : List Int} (hd : Dig l) : trimL l = rep (val l) := (trimL_of l).rep hd rfl
theorem sTrim_l0 (l : List Int) (hl : l.length < 1000000) : ∀ (n k : Nat), n ≤ l.length → n + 1 ≤ k → spec_l1Trim.l0 k l (n : Int) = some (l.take (trimN l n)) := by
  intro n
  induction n with
  | zero =>
    intro k hn hk
    obtain ⟨k, rfl⟩ : ∃ j, k = j + 1 := ⟨k - 1, by omega⟩
    rw [spec_l1Trim.l0, if_neg (by omega)]
    simp only [Option.bind_some]
    rw [if_pos (by omega), if_pos (by omega), if_pos (by simp)]
    simp [trimN]
  | succ n ih =>
    intro k hn hk
    obtain ⟨k, rfl⟩ : ∃ j, k = j + 1 := ⟨k - 1, by omega⟩
    rw [spec_l1Trim.l0, if_pos (by omega), w64 (by omega) (by omega), show (((n + 1 : Nat) : Int) - 1) = (n : Int) from by omega, if_pos (by omega), if_pos (by omega), rdn, Int.toNat_natCast]
    unfold trimN
    by_cases h : l.getD n 0 = 0
    · rw [if_pos h, if_pos h]; exact ih k (by omega) (by omega)
    · rw [if_neg h, if_neg h]
      simp only [Option.bind_some]
      rw [if_pos (by omega), if_pos (by omega), Int.toNat_natCast, if_pos (by rw [List.length_take]; simp; omega)]
      simp
theorem sTrim_ge (l : List Int) (hl : l.length < 1000000) (k : Nat) (hk : l.length + 1 ≤ k) : spec_l1Trim.f k l = some (trimL l) := sTrim_l0 l hl l.length k (Nat.le_refl _) hk
theorem iTrim_l0 (l : List Int) (hl : l.length < 1000000) : ∀ (n k : Nat), n ≤ l.length → n + 1 ≤ k → impl_limbs_trim.l0 k (l.take n) = some (l.take (trimN l n)) := by
  intro n
  induction n with
  | zero =>
    intro k hn hk
    obtain ⟨k, rfl⟩ : ∃ j, k = j + 1 := ⟨k - 1, by omega⟩
    rw [impl_limbs_trim.l0, if_neg (by simp)]
    rfl
  | succ n ih =>
    intro k hn hk
    obtain ⟨k, rfl⟩ : ∃ j, k = j + 1 := ⟨k - 1, by omega⟩
    have hlen : (l.take (n + 1)).length = n + 1 := by rw [List.length_take]; omega
    rw [impl_limbs_trim.l0, hlen, if_pos (by omega), w64 (by omega) (by omega), show (((n + 1 : Nat) : Int) - 1) = (n : Int) from by omega, if_pos (by omega), if_pos (by omega), rdn, Int.toNat_natCast, getD_take l (by omega)]
    unfold trimN
    by_cases h : l.getD n 0 = 0
    · rw [if_pos h, if_pos h, if_pos (by omega), List.take_take, Nat.min_eq_left (by omega)]; exact ih k (by omega) (by omega)
    · rw [if_neg h, if_neg h]
theorem iTrim_ge (l : List Int) (hl : l.length < 1000000) (k : Nat) (hk : l.length + 1 ≤ k) : impl_limbs_trim.f k l = some (trimL l) := by
  have e := iTrim_l0 l hl l.length k (Nat.le_refl _) hk
  rw [List.take_length] at e
  exact e
def bigR (x : Int) : Bool × List Int × Bool := if -pw 16 < x ∧ x < pw 16 then (mkN x, mkL x, true) else (false, [], false)
theorem bigR_of {neg : Bool} {l : List Int} (hd : Dig l) :
    (if ((rep (val l)).length : Int) > 16 then (false, ([] : List Int), false) else if neg = true then (decide (0 < (rep (val l)).length), rep (val l), true) else (false, rep (val l), true)) = bigR (bigv neg l) := by
  have h0 := val_nonneg hd
  have hr := rep_len h0 16
  have hp := pw_pos 16
  unfold bigR
  by_cases h : ((rep (val l)).length : Int) > 16
  · have hv : ¬ val l < pw 16 := fun hc => by have := hr.2 hc; omega
    rw [if_pos h, if_neg]
    unfold bigv
    split <;> omega
  · have hv : val l < pw 16 := hr.1 (by omega)
    have hin : -pw 16 < bigv neg l ∧ bigv neg l < pw 16 := by unfold bigv; split <;> omega
    rw [if_neg h, if_pos hin]
    cases neg
    · rw [if_neg (by decide)]
      unfold bigv mkN mkL
      rw [if_neg (by decide), if_neg (by omega), decide_eq_false (by omega)]
    · rw [if_pos rfl]
      unfold bigv mkN mkL
      rw [if_pos rfl]
      have hz := rep_nil h0
      by_cases hv0 : val l = 0
      · rw [hv0, rep_zero]; simp [rep_zero]
      · rw [if_pos (by omega), Int.neg_neg, decide_eq_true (show -val l < 0 by omega)]
        have : 0 < (rep (val l)).length := by
          apply Nat.pos_of_ne_zero
          intro hc
          exact hv0 (hz.1 (List.length_eq_zero_iff.1 hc))
        rw [decide_eq_true this]
theorem big_ge {l : List Int} (hd : Dig l) (hl : l.length ≤ 1000) (neg : Bool) (k : Nat) (hk : 1010 ≤ k) : impl_big.f k neg l = some (bigR (bigv neg l)) := by
  unfold impl_big.f impl_clone_int.f clone99.f
  rw [iTrim_ge l (by omega) k (by omega), ← bigR_of hd]
  have := trimL_len l
  simp only [Option.bind_some]
  rw [if_pos (show (trimL l).length < 17592186044416 by omega), trimL_rep hd]
  simp only [Option.bind_some]
  (repeat' split) <;> simp_all
theorem bigR_ok {neg : Bool} {l : List Int} (h : BOk neg l) : bigR (bigv neg l) = (neg, l, true) := by
  unfold bigR
  rw [if_pos (bigv_bd h), (mk_of h).1, (mk_of h).2]
theorem dig_push {l : List Int} (h : Dig l) {x : Int} (h0 : 0 ≤ x) (h1 : x ≤ 9999) : Dig (l ++ [x]) := h.append (Dig.cons h0 h1 Dig.nil)
theorem val_push (l : List Int) (x : Int) : val (l ++ [x]) = val l + pw l.length * x := by rw [val_append]; simp [val]
theorem rep_len_le {v : Int} (h0 : 0 ≤ v) {n : Nat} (h : v < pw n) : (rep v).length ≤ n := (rep_len h0 n).2 h
theorem jtInts_l0 {a b : List Int} (hl : a.length = b.length) (hL : a.length < 1000000) : ∀ (m k i : Nat), i + m = a.length → m + 1 ≤ k → laws_jtInts.l0 k a b (i : Int) = some (decide (a.drop i = b.drop i)) := by
  intro m
  induction m with
  | zero =>
    intro k i hi hk
    obtain ⟨k, rfl⟩ : ∃ j, k = j + 1 := ⟨k - 1, by omega⟩
    rw [laws_jtInts.l0, if_neg (by omega), List.drop_eq_nil_of_le (by omega), List.drop_eq_nil_of_le (by omega)]
    simp
  | succ m ih =>
    intro k i hi hk
    obtain ⟨k, rfl⟩ : ∃ j, k = j + 1 := ⟨k - 1, by omega⟩
    rw [laws_jtInts.l0, if_pos (by omega), if_pos (by omega), if_pos (by omega), rdN, rdN, drop_cons (l := a) (by omega), drop_cons (l := b) (by omega)]
    by_cases h : a.getD i 0 = b.getD i 0
    · rw [if_pos h, w64 (by omega) (by omega), show ((i : Int) + 1) = ((i + 1 : Nat) : Int) from by omega, ih k (i + 1) (by omega) (by omega), h]
      simp
    · rw [if_neg h]
      simp only [List.cons.injEq, h, false_and, decide_false]
theorem jtBig_ge (n : Bool) (l : List Int) (n' : Bool) (l' : List Int) (hl : l.length ≤ 1000) (k : Nat) (hk : 1010 ≤ k) : laws_jtBig.f k n l n' l' = some (decide (n = n' ∧ l = l')) := by
  unfold laws_jtBig.f laws_jtInts.f
  by_cases hn : n = n'
  · rw [if_pos (by simp [hn])]
    by_cases h : (l.length : Int) = (l'.length : Int)
    · have e := jtInts_l0 (a := l) (b := l') (by omega) (by omega) l.length k 0 (by omega) (by omega)
      rw [List.drop_zero, List.drop_zero] at e
      rw [if_pos h]
      simp only [hn, true_and]
      rw [show (0 : Int) = ((0 : Nat) : Int) from rfl, e]
      rfl
    · rw [if_neg h]
      have : l ≠ l' := fun hc => h (by rw [hc])
      simp [this]
  · rw [if_neg (by simp [hn])]
    simp [hn]
theorem bS {α β : Type} (a : α) (f : α → Option β) : (some a).bind f = f a := by have h := Option.bind_some a f; rw [h]
end Go.Proofs.YtdbgpoileffbeaaGreatDoor.Val
end
section
namespace Go.Proofs.YtdbgpoileffbeaaGreatDoor.Str
open Go.Lib Go.RowKit Go.Proofs.YtdbgpoileffbeaaGreatDoor.Dec Go.Proofs.YtdbgpoileffbeaaGreatDoor.Jt Go.Proofs.YtdbgpoileffbeaaGreatDoor.Val Go.Proofs.YtdbgpoileffbeaaGreatDoor.Pr Go.Proofs.YtdbgpoileffbeaaGreatDoor.Ext Go.Proofs.YtdbgpoileffbeaaGreatDoorW.PrintWords Go.Proofs.YtdbgpoileffbeaaGreatDoorW.PrintLast Go.Proofs.YtdbgpoileffbeaaGreatDoorW.PrintMore
set_option linter.unusedVariables false
set_option linter.unusedSimpArgs false
theorem parse_digs : ∀ (l : List UInt8) (a : Nat), Digs l → (a + 1) * 10 ^ l.length ≤ 10 ^ 18 → parseUint10 a l = .ok (dvalA a l)
  | [], a, _, _ => by rw [parseUint10, dvalA_nil]
  | b :: r, a, hd, hb => by
    have h0 := hd.head
    unfold IsD at h0
    rw [List.length_cons, Nat.pow_succ] at hb
    have hp : 1 ≤ 10 ^ r.length := Nat.one_le_pow _ _ (by decide)
    have h1 : (a + 1) * 1 ≤ (a + 1) * 10 ^ r.length := Nat.mul_le_mul_left _ hp
    have h2 : (a + 1) * (10 ^ r.length * 10) = ((a + 1) * 10 ^ r.length) * 10 := (Nat.mul_assoc ..).symm
    rw [h2] at hb
    have e18 : 10 ^ 18 = 1000000000000000000 := by decide
    rw [e18] at hb
    have ha : a + 1 ≤ 100000000000000000 := by omega
    simp only [parseUint10]
    rw [if_pos h0, if_neg (by omega), if_neg (by omega), dvalA_cons]
    refine parse_digs r _ hd.tail ?_
    rw [e18]
    have h3 : (a * 10 + (b.toNat - 48) + 1) * 10 ^ r.length ≤ ((a + 1) * 10) * 10 ^ r.length := Nat.mul_le_mul_right _ (by omega)
    have h4 : ((a + 1) * 10) * 10 ^ r.length = ((a + 1) * 10 ^ r.length) * 10 := by rw [Nat.mul_assoc, Nat.mul_comm 10, ← Nat.mul_assoc]
    omega
theorem atoiAll_digs {l : List UInt8} (hd : Digs l) (h0 : l ≠ []) (hl : l.length ≤ 18) : atoiAll l = .ok (dval l : Int) := by
  cases l with
  | nil => exact absurd rfl h0
  | cons b r =>
    have hb := hd.head
    unfold IsD at hb
    have hp := parse_digs (b :: r) 0 hd (by
      have : 10 ^ (b :: r).length ≤ 10 ^ 18 := Nat.pow_le_pow_right (by decide) hl
      omega)
    have hv : dvalA 0 (b :: r) < 9223372036854775808 := by
      have h1 := dval_lt hd
      have h2 : 10 ^ (b :: r).length ≤ 10 ^ 18 := Nat.pow_le_pow_right (by decide) hl
      have e18 : 10 ^ 18 = 1000000000000000000 := by decide
      unfold dval at h1
      omega
    unfold atoiAll
    simp only
    rw [if_neg (by omega)]
    unfold parseMag
    rw [if_neg (by simp), hp]
    simp only
    rw [if_neg (by omega), if_neg (by omega), if_neg (by omega)]
    rfl
theorem getD_get {l : List UInt8} {i : Nat} (h : i < l.length) : l[i]? = some (l.getD i 0) := by
  rw [List.getD_eq_getElem?_getD, List.getElem?_eq_getElem h]; rfl
theorem digs_take {l : List UInt8} {i : Nat} (h : i < l.length) (hd : Digs (l.take i)) (hb : IsD (l.getD i 0)) : Digs (l.take (i + 1)) := by
  rw [List.take_succ_eq_append_getElem h]
  refine hd.append (fun b hb' => ?_)
  rw [List.mem_singleton.1 hb']
  have := getD_get h
  rw [List.getElem?_eq_getElem h] at this
  rw [Option.some.inj this]; exact hb
theorem isDigits_l0 (l : List UInt8) (hl : l.length ≤ 4000000000) : ∀ (d k i : Nat), i + d = l.length → d < k → Digs (l.take i) → impl_isDigits.l0 k (str l) (l.length : Int) (i : Int) = some (decide (Digs l ∧ l ≠ [])) := by
  intro d
  induction d with
  | zero =>
    intro k i hi hk hD
    obtain ⟨k, rfl⟩ : ∃ j, k = j + 1 := ⟨k - 1, by omega⟩
    have e : i = l.length := by omega
    rw [impl_isDigits.l0, if_neg (by omega), str_toList]
    rw [e, List.take_length] at hD
    congr 1
    by_cases h : l = []
    · subst h; rfl
    · rw [decide_eq_true ⟨hD, h⟩, bne_iff_ne.2 h]
  | succ d ih =>
    intro k i hi hk hD
    obtain ⟨k, rfl⟩ : ∃ j, k = j + 1 := ⟨k - 1, by omega⟩
    have bad : ¬ IsD (l.getD i 0) → decide (Digs l ∧ l ≠ []) = false := fun h => decide_eq_false (fun hn => h (hn.1.get (getD_get (by omega))))
    rw [impl_isDigits.l0, if_pos (by omega), if_pos (by omega), str_size, if_pos (by omega), str_btD l (by omega) (by omega), Int.toNat_natCast]
    by_cases h1 : ((l.getD i 0).toNat : Int) < 48
    · rw [if_pos h1, bad (by unfold IsD; omega)]
    · rw [if_neg h1]
      by_cases h2 : ((l.getD i 0).toNat : Int) > 57
      · rw [if_pos h2, bad (by unfold IsD; omega)]
      · rw [if_neg h2, Str.w64 (by omega) (by omega), show ((i : Int) + 1) = ((i + 1 : Nat) : Int) by omega]
        exact ih k (i + 1) (by omega) (by omega) (digs_take (by omega) hD (by unfold IsD; omega))
theorem isDigits_eq (l : List UInt8) (hl : l.length ≤ 4000000000) (k : Nat) (hk : l.length + 1 ≤ k) : impl_isDigits.f k (str l) = some (decide (Digs l ∧ l ≠ [])) := by
  unfold impl_isDigits.f
  rw [str_size]
  exact isDigits_l0 l hl l.length k 0 (by omega) (by omega) (by rw [List.take_zero]; exact Digs.nil)
theorem readL_split {s : List UInt8} {m : Nat} (h0 : 0 < m) (hm : m ≤ s.length) : readL (s.take m) = (dval ((s.take m).drop (m - 4)) : Int) :: readL (s.take (m - 4)) := by
  have hne : s.take m ≠ [] := by intro e; have := congrArg List.length e; rw [List.length_take, List.length_nil] at this; omega
  rw [readL_cons hne]
  have hl : (s.take m).length = m := by rw [List.length_take]; omega
  unfold cutL restL
  rw [hl, List.take_take, Nat.min_eq_left (by omega)]
theorem readLimbs_l0 {s : List UInt8} (hs : Digs s) (hl : s.length ≤ 64) : ∀ (d k m : Nat) (acc : List Int), m ≤ s.length → m ≤ d → 2 * d + acc.length + 200 ≤ k → acc.length + d ≤ 150 → impl_readLimbs.l0 k (str s) acc (m : Int) = some (trimL (acc ++ readL (s.take m))) := by
  intro d
  induction d with
  | zero =>
    intro k m acc hm hd hk ha
    obtain rfl : m = 0 := by omega
    obtain ⟨k, rfl⟩ : ∃ j, k = j + 1 := ⟨k - 1, by omega⟩
    rw [impl_readLimbs.l0, if_neg (by omega), List.take_zero, readL_nil, List.append_nil, iTrim_ge acc (by omega) k (by omega)]
    rfl
  | succ d ih =>
    intro k m acc hm hd hk ha
    by_cases h0 : m = 0
    · subst h0
      obtain ⟨k, rfl⟩ : ∃ j, k = j + 1 := ⟨k - 1, by omega⟩
      rw [impl_readLimbs.l0, if_neg (by omega), List.take_zero, readL_nil, List.append_nil, iTrim_ge acc (by omega) k (by omega)]
      rfl
    · obtain ⟨k, rfl⟩ : ∃ j, k = j + 1 := ⟨k - 1, by omega⟩
      have e : mx 0 ((m : Int) - 4) = ((m - 4 : Nat) : Int) := by unfold mx; split <;> omega
      rw [impl_readLimbs.l0, if_pos (by omega), Str.w64 (by omega) (by omega), e, if_pos (by omega), if_pos (by omega), str_size, if_pos (by omega), str_extract, Int.toNat_natCast, Int.toNat_natCast]
      have ec : (s.drop (m - 4)).take (m - (m - 4)) = (s.take m).drop (m - 4) := by rw [List.drop_take]
      have hD : Digs ((s.take m).drop (m - 4)) := (hs.take _).drop _
      have hcl : ((s.take m).drop (m - 4)).length = m - (m - 4) := by rw [List.length_drop, List.length_take]; omega
      have ha2 : lib_Atoi.f (str ((s.take m).drop (m - 4))) = some ((dval ((s.take m).drop (m - 4)) : Int), true) := by
        unfold lib_Atoi.f atoiV
        rw [if_pos (by rw [str_size]; omega), str_data, atoiAll_digs hD (by intro e; rw [e] at hcl; simp at hcl; omega) (by omega)]
      rw [ec, ha2]; simp only [Str.bS]
      rw [if_pos (by omega)]
      by_cases h4 : 4 ≤ m
      · rw [show ((m : Int) - 4) = ((m - 4 : Nat) : Int) by omega, ih k (m - 4) _ (by omega) (by omega) (by simp; omega) (by simp; omega), readL_split (by omega) hm, List.append_assoc]
        rfl
      · obtain ⟨k, rfl⟩ : ∃ j, k = j + 1 := ⟨k - 1, by omega⟩
        rw [impl_readLimbs.l0, if_neg (by omega), iTrim_ge _ (by simp; omega) k (by simp; omega), readL_split (by omega) hm, show m - 4 = 0 by omega, List.take_zero, readL_nil]
        rfl
theorem readLimbs_eq {s : List UInt8} (hs : Digs s) (hl : s.length ≤ 64) (k : Nat) (hk : 400 ≤ k) : impl_readLimbs.f k (str s) = some (rep (dval s : Int)) := by
  unfold impl_readLimbs.f
  rw [str_size, readLimbs_l0 hs hl s.length k s.length [] (Nat.le_refl _) (Nat.le_refl _) (by simp; omega) (by simp; omega), List.nil_append, List.take_length]
  obtain ⟨d1, d2, _⟩ := readL_ok s.length s (Nat.le_refl _) hs
  rw [trimL_rep d1, d2]
theorem textL_of {n : Bool} {l : List Int} (h : BOk n l) : textL l = decDigits (val l).toNat := textL_eq l h.2.1 h.2.2.1
theorem val_of_ok {n : Bool} {l : List Int} (h : BOk n l) : 0 ≤ val l ∧ val l < pw 16 := ⟨val_nonneg h.2.1, Int.lt_of_lt_of_le (val_lt h.2.1) (pw_mono h.1)⟩
theorem sign_parts (s : List UInt8) : ∃ (g : Bool) (d : List UInt8), s = (if g = true then 45 :: d else d) ∧ (g = false → d.head? ≠ some 45) ∧ trimPrefix s [45] = d ∧ hasPrefix s [45] = g := by
  cases s with
  | nil => exact ⟨false, [], rfl, fun _ => by simp, rfl, rfl⟩
  | cons b r =>
    by_cases h : b = 45
    · subst h
      exact ⟨true, r, rfl, (fun h => absurd h (by decide)), (by unfold trimPrefix hasPrefix; simp), (by unfold hasPrefix; simp)⟩
    · have hp : hasPrefix (b :: r) [45] = false := by
        unfold hasPrefix
        rw [List.isPrefixOf_cons_cons, beq_eq_false_iff_ne.2 (fun e => h e.symm), Bool.false_and]
      exact ⟨false, b :: r, rfl, fun _ e => h (Option.some.inj e), by unfold trimPrefix; rw [hp]; rfl, hp⟩
theorem bigv_rep (g : Bool) {v : Int} (h : 0 ≤ v) : bigv g (rep v) = if g = true then -v else v := by unfold bigv; rw [rep_val h]
end Go.Proofs.YtdbgpoileffbeaaGreatDoor.Str
end
section
namespace Go.Proofs.YtdbgpoileffbeaaGreatDoor.Str
open Go.Lib Go.RowKit Go.Proofs.YtdbgpoileffbeaaGreatDoor.Dec Go.Proofs.YtdbgpoileffbeaaGreatDoor.Jt Go.Proofs.YtdbgpoileffbeaaGreatDoor.Val Go.Proofs.YtdbgpoileffbeaaGreatDoor.Pr Go.Proofs.YtdbgpoileffbeaaGreatDoor.Ext Go.Proofs.YtdbgpoileffbeaaGreatDoorW.PrintWords Go.Proofs.YtdbgpoileffbeaaGreatDoorW.PrintLast Go.Proofs.YtdbgpoileffbeaaGreatDoorW.PrintMore
set_option linter.unusedVariables false
set_option linter.unusedSimpArgs false
theorem occ_one (l : List UInt8) (c : UInt8) (i : Nat) : occAt l [c] i = true ↔ l[i]? = some c := by
  unfold occAt
  rw [List.isPrefixOf_iff_prefix]
  constructor
  · rintro ⟨t, ht⟩
    have : (l.drop i)[0]? = some c := by rw [← ht]; rfl
    rwa [List.getElem?_drop, Nat.add_zero] at this
  · intro h
    obtain ⟨hi, he⟩ := List.getElem?_eq_some_iff.1 h
    rw [List.drop_eq_getElem_cons hi, he]
    exact ⟨_, rfl⟩
theorem cut_at {a r : List UInt8} {c : UInt8} (h : c ∉ a) : Lib.cut (a ++ c :: r) [c] = (a, r, true) := by
  have hi : index (a ++ c :: r) [c] = (a.length : Nat) := by
    refine index_hit (fun j hj => ?_) (by simp) ?_
    · apply Bool.eq_false_iff.2
      intro ho
      rw [occ_one, List.getElem?_append_left hj] at ho
      exact h (List.mem_of_getElem? ho)
    · rw [occ_one, List.getElem?_append_right (Nat.le_refl _), Nat.sub_self]; rfl
  unfold Lib.cut
  rw [hi, if_pos (by omega)]
  simp
theorem cut_none {a : List UInt8} {c : UInt8} (h : c ∉ a) : Lib.cut a [c] = (a, [], false) := by
  have hi : index a [c] = -1 := by
    refine index_none (fun j hj => ?_)
    apply Bool.eq_false_iff.2
    intro ho
    rw [occ_one] at ho
    exact h (List.mem_of_getElem? ho)
  unfold Lib.cut
  rw [hi, if_neg (by decide)]
theorem decB_ok {n : Bool} {l : List Int} {s : Int} (h : decB n l s = true) : BOk n l ∧ 0 ≤ s ∧ s ≤ 12 ∧ (textL l).length ≤ 30 := by
  unfold decB at h
  simp only [Bool.and_eq_true, decide_eq_true_eq] at h
  obtain ⟨ho, hd, s0, s1⟩ := h
  refine ⟨(okB_iff n l).1 ho, s0, s1, ?_⟩
  unfold digN at hd
  by_cases h0 : (l.length : Int) = 0
  · obtain rfl : l = [] := List.eq_nil_of_length_eq_zero (by omega)
    decide
  · rw [if_neg h0] at hd; omega
theorem decT_parts {n : Bool} {l : List Int} {s : Int} (h : decB n l s = true) : ∃ w f : List UInt8, decT n l s = (if n = true then 45 :: (w ++ (if 0 < s then 46 :: f else [])) else (w ++ (if 0 < s then 46 :: f else []))) ∧ Digs w ∧ w ≠ [] ∧ Digs f ∧ (f.length : Int) = s ∧ w.length + f.length ≤ 40 ∧ dval (w ++ f) = (val l).toNat := by
  obtain ⟨ho, s0, s1, ht⟩ := decB_ok h
  have hv : dval (textL l) = (val l).toNat := by rw [textL_of ho, decDigits_dval]
  have hp : 0 < (textL l).length := List.length_pos_iff.2 (textL_ne l)
  unfold decT
  by_cases hs : 0 < s
  · have hzl : (zerosL (s.toNat + 1 - (textL l).length) ++ textL l).length = s.toNat + 1 - (textL l).length + (textL l).length := by rw [List.length_append, zerosL_len]
    have hzD : Digs (zerosL (s.toNat + 1 - (textL l).length) ++ textL l) := (zerosL_digs _).append (textL_digs l)
    have hzv : dval (zerosL (s.toNat + 1 - (textL l).length) ++ textL l) = (val l).toNat := by rw [dval_append, zerosL_dval, hv]; omega
    generalize zerosL (s.toNat + 1 - (textL l).length) ++ textL l = z at *
    refine ⟨z.take (z.length - s.toNat), z.drop (z.length - s.toNat), ?_, hzD.take _, ?_, hzD.drop _, ?_, ?_, ?_⟩
    · rw [if_pos hs]
      unfold pointT
      cases n <;> simp [hs]
    · intro e
      have := congrArg List.length e
      rw [List.length_take, List.length_nil] at this
      omega
    · rw [List.length_drop]; omega
    · rw [List.length_drop, List.length_take]; omega
    · rw [List.take_append_drop]; exact hzv
  · refine ⟨textL l, [], ?_, textL_digs l, textL_ne l, Digs.nil, by simp; omega, by simp; omega, by rw [List.append_nil]; exact hv⟩
    rw [if_neg hs, if_neg hs, List.append_nil]
    unfold bigT
    rfl
theorem digs_no46 {l : List UInt8} (h : Digs l) : (46 : UInt8) ∉ l := fun hm => absurd (h 46 hm) (by decide)
theorem implDecGet_put {n : Bool} {l : List Int} {s : Int} (h : decB n l s = true) (k : Nat) (hk : 2100 ≤ k) : impl_DecGet.f k (str (decT n l s)) = some (n, l, s, true) := by
  obtain ⟨ho, s0, s1, ht⟩ := decB_ok h
  obtain ⟨w, f, e, hw, hw0, hf, hfl, hlen, hv⟩ := decT_parts h
  obtain ⟨v0, v1⟩ := val_of_ok ho
  obtain ⟨k, rfl⟩ : ∃ j, k = j + 1 := ⟨k - 1, by omega⟩
  have hD : Digs (w ++ f) := hw.append hf
  have hne : w ++ f ≠ [] := fun e => hw0 (List.append_eq_nil_iff.1 e).1
  have hhead : (w ++ (if 0 < s then 46 :: f else [])).head? ≠ some 45 := by
    cases w with
    | nil => exact absurd rfl hw0
    | cons b r =>
      intro e
      have : b = 45 := Option.some.inj e
      subst this
      exact absurd hw.head (by decide)
  have hcut : lib_CutPrefix.f (str (decT n l s)) (⟨#[45]⟩ : ByteArray) = some (str (w ++ (if 0 < s then 46 :: f else [])), n) := by
    obtain ⟨g, d, es, hg, tp, hp⟩ := sign_parts (decT n l s)
    have hgd : g = n ∧ d = w ++ (if 0 < s then 46 :: f else []) := by
      rw [e] at es
      clear tp hp e
      generalize (w ++ (if 0 < s then 46 :: f else [])) = tl at es hhead ⊢
      cases g <;> cases n
      · exact ⟨rfl, by simpa using es.symm⟩
      · rw [if_pos rfl, if_neg (by decide)] at es
        exact absurd (by rw [← es]; rfl) (hg rfl)
      · rw [if_neg (by decide), if_pos rfl] at es
        exact absurd (by rw [es]; rfl) hhead
      · rw [if_pos rfl, if_pos rfl] at es
        exact ⟨rfl, (List.cons.inj es).2.symm⟩
    unfold lib_CutPrefix.f
    rw [show (⟨#[45]⟩ : ByteArray) = str [45] from rfl, str_data, str_data, tp, hp, hgd.1, hgd.2]
    rfl
  have hcut2 : ∃ b, lib_Cut.f (str (w ++ (if 0 < s then 46 :: f else []))) (⟨#[46]⟩ : ByteArray) = some (str w, str f, b) := by
    unfold lib_Cut.f
    rw [show (⟨#[46]⟩ : ByteArray) = str [46] from rfl, str_data, str_data]
    by_cases hs : 0 < s
    · rw [if_pos hs, if_pos (by rw [str_size, List.length_append, List.length_cons]; omega), cut_at (digs_no46 hw)]
      exact ⟨_, rfl⟩
    · have hf0 : f = [] := List.eq_nil_of_length_eq_zero (by omega)
      rw [if_neg hs, List.append_nil, if_pos (by rw [str_size]; omega), cut_none (digs_no46 hw), hf0]
      exact ⟨_, rfl⟩
  obtain ⟨b, hc2⟩ := hcut2
  have hx : bigv n (rep (dval (w ++ f) : Int)) = bigv n l := by
    rw [bigv_rep n (by omega), hv, Int.toNat_of_nonneg v0]; rfl
  unfold impl_DecGet.f
  rw [hcut]; simp only [Str.bS]
  rw [hc2]; simp only [Str.bS]
  rw [str_size, str_size, if_pos (by omega), str_append, isDigits_eq _ (by rw [List.length_append]; omega) _ (by rw [List.length_append]; omega), decide_eq_true ⟨hD, hne⟩]; simp only [Str.bS]
  rw [if_pos trivial, impl_DecGet.j0, str_size, if_neg (by rw [List.length_append]; simp; omega), readLimbs_eq hD (by rw [List.length_append]; omega) k (by omega)]; simp only [Str.bS]
  have hr := bigR_ok ho
  rw [big_ge (rep_dig _) (by have := rep_len_le (v := (dval (w ++ f) : Int)) (n := 16) (by omega) (by omega); omega) n k (by omega), hx, hr]; simp only [Str.bS]
  rw [if_pos trivial, str_size, hfl, implDecOk, h]; simp only [Str.bS]
  rw [if_pos trivial, implDecPut, if_pos h]; simp only [Str.bS]
  rw [if_pos trivial]
end Go.Proofs.YtdbgpoileffbeaaGreatDoor.Str
end
section
namespace Go.Proofs.YtdbgpoileffbeaaGreatDoor.Val
open Go.RowKit Go.Proofs.YtdbgpoileffbeaaGreatDoor.Pr Go.Proofs.YtdbgpoileffbeaaGreatDoor.Ext Go.Proofs.YtdbgpoileffbeaaGreatDoor.Jt Go.Proofs.YtdbgpoileffbeaaGreatDoorW.PrintWords Go.Proofs.YtdbgpoileffbeaaGreatDoorW.PrintLast Go.Proofs.YtdbgpoileffbeaaGreatDoorW.PrintMore
set_option linter.unusedVariables false
set_option linter.unusedSimpArgs false
theorem pw5 : pw 5 = 100000000000000000000 := by decide
theorem getD_last (l : List Int) (x : Int) : (l ++ [x]).getD ((l ++ [x]).length - 1) 0 = x := by
  rw [List.getD_eq_getElem?_getD, List.length_append, List.length_cons, List.length_nil, Nat.zero_add, Nat.add_sub_cancel, List.getElem?_append_right (Nat.le_refl _), Nat.sub_self]
  rfl
def ab (x : Int) : Int := if x < 0 then -x else x
theorem sBigOf_l0 (n : Int) : ∀ (m k : Nat) (x : Int) (acc : List Int), -9223372036854775808 ≤ x → x ≤ 9223372036854775807 → ab x < pw m → acc.length + m ≤ 50 → m + 1 ≤ k → Dig acc → (x = 0 → Nz acc) →
    spec_BigOf.l0 k n acc x = some (decide (n < 0), rep (val acc + pw acc.length * ab x)) := by
  intro m
  induction m with
  | zero =>
    intro k x acc h0 h1 hx hl hk hd hz
    obtain ⟨k, rfl⟩ : ∃ j, k = j + 1 := ⟨k - 1, by omega⟩
    rw [pw_zero] at hx
    have hx0 : x = 0 := by unfold ab at hx; split at hx <;> omega
    subst hx0
    rw [spec_BigOf.l0, if_pos rfl, show ab 0 = 0 from rfl, Int.mul_zero, Int.add_zero, rep_of hd (hz rfl)]
  | succ m ih =>
    intro k x acc h0 h1 hx hl hk hd hz
    obtain ⟨k, rfl⟩ : ∃ j, k = j + 1 := ⟨k - 1, by omega⟩
    rw [pw_succ] at hx
    by_cases hx0 : x = 0
    · subst hx0
      rw [spec_BigOf.l0, if_pos rfl, show ab 0 = 0 from rfl, Int.mul_zero, Int.add_zero, rep_of hd (hz rfl)]
    · have go : ∀ d : Int, d = ab x % 10000 → ab (Int.tdiv x 10000) = ab x / 10000 → -9223372036854775808 ≤ Int.tdiv x 10000 → Int.tdiv x 10000 ≤ 9223372036854775807 →
          spec_BigOf.l0 k n (acc ++ [d]) (wrap64 (Int.tdiv x 10000)) = some (decide (n < 0), rep (val acc + pw acc.length * ab x)) := by
        intro d hdd hq q0 q1
        have hax : 0 ≤ ab x := by unfold ab; split <;> omega
        rw [w64 q0 q1, ih k (Int.tdiv x 10000) (acc ++ [d]) q0 q1 (by rw [hq]; omega) (by simp; omega) (by omega) (dig_push hd (by omega) (by omega)) (fun hz0 => by
          right
          rw [getD_last]
          rw [hz0] at hq
          have : ab x ≠ 0 := by unfold ab; split <;> omega
          have h00 : ab 0 = 0 := rfl
          omega)]
        rw [val_push, List.length_append, List.length_cons, List.length_nil, Nat.zero_add, pw_succ, hq]
        have e3 : ab x = 10000 * (ab x / 10000) + ab x % 10000 := by omega
        rw [← hdd] at e3
        generalize ab x / 10000 = q at e3 ⊢
        rw [e3]
        congr 3
        grind
      rw [spec_BigOf.l0, if_neg hx0]
      by_cases hneg : x < 0
      · have t1 : Int.tdiv x 10000 = -((-x) / 10000) := by
          have := Int.neg_tdiv (a := -x) (b := 10000)
          rw [Int.neg_neg] at this
          rw [this, Int.tdiv_eq_ediv_of_nonneg (by omega)]
        have t2 : Int.tmod x 10000 = -((-x) % 10000) := by
          have := Int.neg_tmod (a := -x) (b := 10000)
          rw [Int.neg_neg] at this
          rw [this, Int.tmod_eq_emod_of_nonneg (by omega)]
        have hab : ab x = -x := if_pos hneg
        have habq : ab (Int.tdiv x 10000) = ab x / 10000 := by rw [t1, hab]; unfold ab; split <;> omega
        by_cases hd0 : Int.tmod x 10000 < 0
        · rw [if_pos hd0, if_pos (by omega)]
          exact go _ (by rw [t2, Int.neg_neg, w64 (by omega) (by omega), hab]) habq (by rw [t1]; omega) (by rw [t1]; omega)
        · rw [if_neg hd0, if_pos (by omega)]
          exact go _ (by rw [hab]; rw [t2] at hd0 ⊢; omega) habq (by rw [t1]; omega) (by rw [t1]; omega)
      · have t1 : Int.tdiv x 10000 = x / 10000 := Int.tdiv_eq_ediv_of_nonneg (by omega)
        have t2 : Int.tmod x 10000 = x % 10000 := Int.tmod_eq_emod_of_nonneg (by omega)
        have hab : ab x = x := if_neg hneg
        have habq : ab (Int.tdiv x 10000) = ab x / 10000 := by rw [t1, hab]; unfold ab; split <;> omega
        rw [if_neg (by rw [t2]; omega), if_pos (by omega)]
        exact go _ (by rw [t2, hab]) habq (by rw [t1]; omega) (by rw [t1]; omega)
theorem sBigOf_ge {x : Int} (h0 : -9223372036854775808 ≤ x) (h1 : x ≤ 9223372036854775807) (k : Nat) (hk : 20 ≤ k) : spec_BigOf.f k x = some (mkN x, mkL x) := by
  unfold spec_BigOf.f
  rw [sBigOf_l0 x 5 k x [] h0 h1 (by rw [pw5]; unfold ab; split <;> omega) (by simp) (by omega) Dig.nil (fun _ => .inl rfl), List.length_nil, pw_zero, val_nil]
  unfold mkN mkL ab
  congr 3
  omega
end Go.Proofs.YtdbgpoileffbeaaGreatDoor.Val
end
section
namespace Go.Proofs.YtdbgpoileffbeaaGreatDoor.Drw
open Go.RowKit Go.Proofs.YtdbgpoileffbeaaGreatDoor.Jt Go.Proofs.YtdbgpoileffbeaaGreatDoor.Val Go.Proofs.YtdbgpoileffbeaaGreatDoor.Pr Go.Proofs.YtdbgpoileffbeaaGreatDoor.Ext Go.Proofs.YtdbgpoileffbeaaGreatDoorW.PrintWords Go.Proofs.YtdbgpoileffbeaaGreatDoorW.PrintLast Go.Proofs.YtdbgpoileffbeaaGreatDoorW.PrintMore
set_option linter.unusedVariables false
set_option linter.unusedSimpArgs false
theorem wf8 {a : Int} (h : (Lit.int .u8 a).wf = true) : 0 ≤ a ∧ a ≤ 255 := by
  simp [Lit.wf, IntKind.min, IntKind.max, IntKind.signed, IntKind.bits] at h; omega
theorem rd_mem {l : List Int} {i : Int} (h0 : 0 ≤ i) (h : i < (l.length : Int)) : rd l i ∈ l := by
  have hi : i.toNat < l.length := by omega
  unfold rd
  rw [List.getD_eq_getElem?_getD, List.getElem?_eq_getElem hi]
  exact List.getElem_mem hi
theorem xor_nonneg {x y : Int} (hx : 0 ≤ x) (hx' : x < 4611686018427387904) (hy : 0 ≤ y) (hy' : y < 4611686018427387904) : 0 ≤ Go.bits .xor .i64 x y := by
  obtain ⟨a, rfl⟩ := Int.eq_ofNat_of_zero_le hx
  obtain ⟨b, rfl⟩ := Int.eq_ofNat_of_zero_le hy
  have ha : a < 2 ^ 62 := by omega
  have hb : b < 2 ^ 62 := by omega
  have hlt := Nat.xor_lt_two_pow ha hb
  have ha' : a % 2 ^ IntKind.i64.bits = a := Nat.mod_eq_of_lt (by show a < 2 ^ 64; omega)
  have hb' : b % 2 ^ IntKind.i64.bits = b := Nat.mod_eq_of_lt (by show b < 2 ^ 64; omega)
  have e : Go.bits .xor .i64 (a : Int) (b : Int) = ((a ^^^ b : Nat) : Int) := by
    simp only [Go.bits, BitVec.ofInt_natCast, BitVec.toNat_xor, BitVec.toNat_ofNat, ha', hb']
    rw [IntKind.wrap_i64]
    omega
  rw [e]
  omega
def BytesOk (b : List Int) : Prop := b.length ≤ 2000 ∧ ∀ x ∈ b, 0 ≤ x ∧ x ≤ 255
theorem pick_any {b : List Int} (hb : BytesOk b) {p n : Int} (hp : 0 ≤ p) (hp' : p ≤ 1000000) (hn : 1 ≤ n) :
    ∃ r, (∀ k, spec_l1Rd_pick.f (k + 1) b p n = some (r, p + 1)) ∧ 0 ≤ r ∧ r < n := by
  have e1 : wrap64 (p + 1) = p + 1 := w64 (by omega) (by omega)
  have e2 : wrap64 (p + 1 - 1) = p := by rw [w64 (by omega) (by omega)]; omega
  have hl := hb.1
  by_cases h0 : b.length = 0
  · refine ⟨0, fun k => ?_, by omega, by omega⟩
    have hz : ((b.length : Int) == 0) = true := by rw [h0]; rfl
    unfold spec_l1Rd_pick.f
    rw [if_neg (by omega), e1, hz]
    simp only [spec_l1Rd_pick.j0, if_true]
  · have hz : ((b.length : Int) == 0) = false := by rw [beq_eq_false_iff_ne]; omega
    by_cases hk : p < (b.length : Int)
    · have hm := hb.2 _ (rd_mem hp hk)
      refine ⟨Int.tmod (rd b p) n, fun k => ?_, Int.tmod_nonneg _ hm.1, Int.tmod_lt_of_pos _ (by omega)⟩
      unfold spec_l1Rd_pick.f
      rw [if_neg (by omega), e1, hz]
      simp only [spec_l1Rd_pick.j0]
      rw [if_neg (by decide), e2, if_pos hk, if_pos hp, if_neg (by omega), w64 (by omega) (by omega)]
    · have hL : (0 : Int) < (b.length : Int) := by omega
      have e7 : wrap64 (wrap64 (p * 7) + 3) = p * 7 + 3 := by
        rw [w64 (x := p * 7) (by omega) (by omega), w64 (by omega) (by omega)]
      have i1 := Int.tmod_nonneg (b.length : Int) hp
      have j1 := Int.tmod_lt_of_pos p hL
      have i2 := Int.tmod_nonneg (b.length : Int) (show 0 ≤ p * 7 + 3 by omega)
      have j2 := Int.tmod_lt_of_pos (p * 7 + 3) hL
      have hA := hb.2 _ (rd_mem i1 j1)
      have hB := hb.2 _ (rd_mem i2 j2)
      have hq0 : 0 ≤ Int.tdiv p (b.length : Int) := Int.tdiv_nonneg hp (by omega)
      have hq1 : Int.tdiv p (b.length : Int) ≤ p := by
        rw [Int.tdiv_eq_ediv_of_nonneg hp]; exact Int.ediv_le_self _ hp
      generalize hAe : rd b (Int.tmod p (b.length : Int)) = A at hA
      generalize hBe : rd b (Int.tmod (p * 7 + 3) (b.length : Int)) = B at hB
      generalize hQe : Int.tdiv p (b.length : Int) = Q at hq0 hq1
      have hX : 0 ≤ wrap64 (wrap64 (wrap64 (wrap64 (wrap64 A * 131) + wrap64 (wrap64 B * 1117)) + wrap64 (p * 29)) + wrap64 (wrap64 Q * 53)) ∧
          wrap64 (wrap64 (wrap64 (wrap64 (wrap64 A * 131) + wrap64 (wrap64 B * 1117)) + wrap64 (p * 29)) + wrap64 (wrap64 Q * 53)) < 1000000000 := by
        rw [w64 (x := A) (by omega) (by omega), w64 (x := B) (by omega) (by omega), w64 (x := Q) (by omega) (by omega), w64 (x := A * 131) (by omega) (by omega), w64 (x := B * 1117) (by omega) (by omega),
          w64 (x := p * 29) (by omega) (by omega), w64 (x := Q * 53) (by omega) (by omega), w64 (x := A * 131 + B * 1117) (by omega) (by omega), w64 (x := A * 131 + B * 1117 + p * 29) (by omega) (by omega),
          w64 (by omega) (by omega)]
        omega
      generalize hXe : wrap64 (wrap64 (wrap64 (wrap64 (wrap64 A * 131) + wrap64 (wrap64 B * 1117)) + wrap64 (p * 29)) + wrap64 (wrap64 Q * 53)) = X at hX
      have hY : 0 ≤ wrap64 (Int.tdiv X 64) ∧ wrap64 (Int.tdiv X 64) < 1000000000 := by
        rw [Int.tdiv_eq_ediv_of_nonneg hX.1, w64 (by omega) (by omega)]; omega
      refine ⟨Int.tmod (Go.bits .xor .i64 X (wrap64 (Int.tdiv X 64))) n, fun k => ?_, Int.tmod_nonneg _ (xor_nonneg hX.1 (by omega) hY.1 (by omega)), Int.tmod_lt_of_pos _ (by omega)⟩
      unfold spec_l1Rd_pick.f
      rw [if_neg (by omega), e1, hz]
      simp only [spec_l1Rd_pick.j0]
      rw [if_neg (by decide), e2, if_neg hk, if_neg (by omega), if_pos i1, if_pos j1, e7, if_pos i2, if_pos j2, if_neg (by omega), hAe, hBe, hQe, hXe]
theorem open_any {l : List Int} (hl : ∀ x ∈ l, (Lit.int .u8 x).wf = true) : ∃ b, spec_l1Open.f l = some (b, 0) ∧ BytesOk b := by
  unfold spec_l1Open.f
  by_cases h : (l.length : Int) > 2000
  · rw [if_pos h, if_pos (by omega)]
    exact ⟨_, rfl, by rw [List.length_take]; omega, fun x hx => wf8 (hl x (List.mem_of_mem_take hx))⟩
  · rw [if_neg h]
    exact ⟨_, rfl, by omega, fun x hx => wf8 (hl x hx)⟩
theorem one_any {b : List Int} (hb : BytesOk b) {p : Int} (hp : 0 ≤ p) (hp' : p ≤ 1000000) {l : List Int} (hl : 1 ≤ l.length) :
    ∃ r, (∀ k, spec_l1Rd_one.f (k + 1) b p l = some (r, p + 1)) ∧ r ∈ l := by
  obtain ⟨i, hi, h0, h1⟩ := pick_any hb hp hp' (n := (l.length : Int)) (by omega)
  refine ⟨rd l i, fun k => ?_, rd_mem h0 h1⟩
  unfold spec_l1Rd_one.f
  rw [hi k]
  simp only [Option.bind_some]
  rw [if_pos h0, if_pos h1]
theorem pick_ge {b : List Int} (hb : BytesOk b) {p n : Int} (hp : 0 ≤ p) (hp' : p ≤ 1000000) (hn : 1 ≤ n) :
    ∃ r, (∀ k, 1 ≤ k → spec_l1Rd_pick.f k b p n = some (r, p + 1)) ∧ 0 ≤ r ∧ r < n := by
  obtain ⟨r, h, h0, h1⟩ := pick_any hb hp hp' hn
  exact ⟨r, fun k hk => by obtain ⟨m, rfl⟩ : ∃ m, k = m + 1 := ⟨k - 1, by omega⟩; exact h m, h0, h1⟩
theorem one_ge {b : List Int} (hb : BytesOk b) {p : Int} (hp : 0 ≤ p) (hp' : p ≤ 1000000) {l : List Int} (hl : 1 ≤ l.length) :
    ∃ r, (∀ k, 1 ≤ k → spec_l1Rd_one.f k b p l = some (r, p + 1)) ∧ r ∈ l := by
  obtain ⟨r, h, h0⟩ := one_any hb hp hp' hl
  exact ⟨r, fun k hk => by obtain ⟨m, rfl⟩ : ∃ m, k = m + 1 := ⟨k - 1, by omega⟩; exact h m, h0⟩
theorem size_of (xs : List Int) : (strOfNums xs).size = xs.length := by unfold strOfNums; simp [ByteArray.size]
theorem size_app (a b : ByteArray) : (a ++ b).size = a.size + b.size := ByteArray.size_append
theorem figs_l0 {b : List Int} (hb : BytesOk b) (n : Int) (hn : n ≤ 100) : ∀ (m : Nat) (s : ByteArray) (p : Int), 0 ≤ p → p + 2 * m ≤ 900000 → (s.size : Int) + m = n →
    ∃ r p', (∀ k, m + 2 ≤ k → spec_l14Figs.l0 k n s b p = some (r, p')) ∧ (r.size : Int) = n ∧ p ≤ p' ∧ p' ≤ p + 2 * m := by
  intro m
  induction m with
  | zero =>
    intro s p hp hp' hs
    refine ⟨s, p, fun k hk => ?_, by omega, by omega, by omega⟩
    obtain ⟨k, rfl⟩ : ∃ j, k = j + 1 := ⟨k - 1, by omega⟩
    rw [spec_l14Figs.l0, if_neg (by omega)]
  | succ m ih =>
    intro s p hp hp' hs
    obtain ⟨x, hx, _, _⟩ := pick_ge hb hp (by omega) (n := 10) (by omega)
    obtain ⟨y, hy, _⟩ := one_ge hb (p := p + 1) (by omega) (by omega) (l := [0, 0, 9, 9, 5, 1, x]) (by simp)
    obtain ⟨r, p', hr, h1, h2, h3⟩ := ih (s ++ strOfNums [(wrap64 (48 + y)) % 256]) (p + 1 + 1) (by omega) (by omega) (by rw [size_app, size_of]; simp; omega)
    refine ⟨r, p', fun k hk => ?_, h1, by omega, by omega⟩
    obtain ⟨k, rfl⟩ : ∃ j, k = j + 1 := ⟨k - 1, by omega⟩
    rw [spec_l14Figs.l0, if_pos (by omega), hx k (by omega)]
    simp only [Option.bind_some]
    rw [hy k (by omega)]
    simp only [Option.bind_some]
    rw [if_pos (by rw [size_of]; simp; omega)]
    exact hr k (by omega)
theorem figs_any {b : List Int} (hb : BytesOk b) {p : Int} (hp : 0 ≤ p) (hp' : p ≤ 500000) {n : Int} (hn : n ≤ 100) :
    ∃ r p', (∀ k, 200 ≤ k → spec_l14Figs.f k b p n = some (r, p')) ∧ r.size ≤ 101 ∧ p ≤ p' ∧ p' ≤ p + 300 := by
  by_cases h1 : n < 1
  · refine ⟨⟨#[48]⟩, p, fun k hk => ?_, by decide, by omega, by omega⟩
    unfold spec_l14Figs.f
    rw [if_pos h1]
  · obtain ⟨x, hx, _, _⟩ := pick_ge hb hp (by omega) (n := 9) (by omega)
    obtain ⟨r, p', hr, q1, q2, q3⟩ := figs_l0 hb n hn (n.toNat - 1) (strOfNums [(wrap64 (49 + x)) % 256]) (p + 1) (by omega) (by omega) (by rw [size_of]; simp; omega)
    refine ⟨r, p', fun k hk => ?_, by omega, by omega, by omega⟩
    unfold spec_l14Figs.f
    rw [if_neg h1, hx k (by omega)]
    simp only [Option.bind_some]
    exact hr k (by omega)
theorem many_l0 (s : ByteArray) (hs : s.size = 1) : ∀ (m : Nat) (a : ByteArray), a.size + m ≤ 1000 → ∃ r, (∀ k, m + 1 ≤ k → spec_l1Many.l0 k s (m : Int) a = some r) ∧ r.size = a.size + m := by
  intro m
  induction m with
  | zero =>
    intro a ha
    refine ⟨a, fun k hk => ?_, by omega⟩
    obtain ⟨k, rfl⟩ : ∃ j, k = j + 1 := ⟨k - 1, by omega⟩
    rw [spec_l1Many.l0, if_neg (by omega)]
  | succ m ih =>
    intro a ha
    obtain ⟨r, hr, h⟩ := ih (a ++ s) (by rw [size_app]; omega)
    refine ⟨r, fun k hk => ?_, by rw [size_app] at h; omega⟩
    obtain ⟨k, rfl⟩ : ∃ j, k = j + 1 := ⟨k - 1, by omega⟩
    rw [spec_l1Many.l0, if_pos (by omega), if_pos (by omega), w64 (by omega) (by omega), show (((m + 1 : Nat) : Int) - 1) = (m : Int) from by omega]
    exact hr k (by omega)
theorem many_any (s : ByteArray) (hs : s.size = 1) (n : Int) (hn : n ≤ 100) : ∃ r, (∀ k, 200 ≤ k → spec_l1Many.f k s n = some r) ∧ r.size ≤ 100 := by
  by_cases h0 : n ≤ 0
  · refine ⟨⟨#[]⟩, fun k hk => ?_, by decide⟩
    obtain ⟨k, rfl⟩ : ∃ j, k = j + 1 := ⟨k - 1, by omega⟩
    unfold spec_l1Many.f
    rw [spec_l1Many.l0, if_neg (by omega)]
  · obtain ⟨r, hr, h⟩ := many_l0 s hs n.toNat ⟨#[]⟩ (by show 0 + n.toNat ≤ 1000; omega)
    refine ⟨r, fun k hk => ?_, by rw [h]; show 0 + n.toNat ≤ 100; omega⟩
    unfold spec_l1Many.f
    have e := hr k (by omega)
    rw [show ((n.toNat : Nat) : Int) = n from by omega] at e
    exact e
theorem fromFig_l1 (s : ByteArray) (hs : s.size ≤ 200) (acc : List Int) (ha : acc.length ≤ 1000) (x4 : Nat) (h4 : x4 ≤ s.size) (K : Nat) (R : List Int → Prop)
    (hnext : ∀ y, ∃ r, (∀ k, K ≤ k → spec_l1FromFigures.l0 k (s.extract 0 x4) (acc ++ [y]) = some r) ∧ R r) :
    ∀ (m i : Nat) (x5 : Int), i + m = s.size → ∃ r, (∀ k, m + 1 + K ≤ k → spec_l1FromFigures.l1 k s acc (x4 : Int) x5 (i : Int) = some r) ∧ R r := by
  intro m
  induction m with
  | zero =>
    intro i x5 hi
    obtain ⟨r, hr, h⟩ := hnext x5
    refine ⟨r, fun k hk => ?_, h⟩
    obtain ⟨k, rfl⟩ : ∃ j, k = j + 1 := ⟨k - 1, by omega⟩
    rw [spec_l1FromFigures.l1, if_neg (by omega), if_pos (by omega), if_pos (by omega), if_pos (by omega), Int.toNat_natCast]
    exact hr k (by omega)
  | succ m ih =>
    intro i x5 hi
    obtain ⟨r, hr, h⟩ := ih (i + 1) (wrap64 ((wrap64 (x5 * 10)) + (((bt s (i : Int)) - 48) % 256))) (by omega)
    refine ⟨r, fun k hk => ?_, h⟩
    obtain ⟨k, rfl⟩ : ∃ j, k = j + 1 := ⟨k - 1, by omega⟩
    rw [spec_l1FromFigures.l1, if_pos (by omega), if_pos (by omega), w64 (x := (i : Int) + 1) (by omega) (by omega), show ((i : Int) + 1) = ((i + 1 : Nat) : Int) from by omega]
    exact hr k (by omega)
set_option maxRecDepth 20000 in
theorem fromFig_l0 : ∀ (n : Nat) (s : ByteArray) (acc : List Int), s.size = n → n ≤ 200 → acc.length + n ≤ 1000 → ∃ r, (∀ k, 10 * n + 1200 ≤ k → spec_l1FromFigures.l0 k s acc = some r) ∧ r.length ≤ 1000 := by
  intro n
  induction n using Nat.strongRecOn with
  | ind n ih =>
    intro s acc hs hn hl
    by_cases h0 : s.size = 0
    · refine ⟨trimL acc, fun k hk => ?_, by have := trimL_len acc; omega⟩
      obtain ⟨k, rfl⟩ : ∃ j, k = j + 1 := ⟨k - 1, by omega⟩
      rw [spec_l1FromFigures.l0, if_neg (by omega), sTrim_ge acc (by omega) k (by omega)]; rfl
    · have hx : ∃ x4 : Nat, x4 + 1 ≤ s.size ∧ s.size ≤ x4 + 4 ∧ ∀ k, spec_l1FromFigures.l0 (k + 1) s acc = spec_l1FromFigures.j1 k s acc (x4 : Int) := by
        by_cases h4 : (s.size : Int) - 4 < 0
        · refine ⟨0, by omega, by omega, fun k => ?_⟩
          rw [spec_l1FromFigures.l0, if_pos (by omega), w64 (by omega) (by omega), if_pos h4]; rfl
        · refine ⟨s.size - 4, by omega, by omega, fun k => ?_⟩
          rw [spec_l1FromFigures.l0, if_pos (by omega), w64 (by omega) (by omega), if_neg h4, show ((s.size : Int) - 4) = ((s.size - 4 : Nat) : Int) from by omega]
      obtain ⟨x4, a1, a2, hk0⟩ := hx
      have hsz : (s.extract 0 x4).size = x4 := by rw [ByteArray.size_extract]; omega
      obtain ⟨r, hr, h⟩ := fromFig_l1 s (by omega) acc (by omega) x4 (by omega) (10 * x4 + 1200) (fun r => r.length ≤ 1000)
        (fun y => ih x4 (by omega) (s.extract 0 x4) (acc ++ [y]) hsz (by omega) (by simp; omega)) (s.size - x4) x4 0 (by omega)
      refine ⟨r, fun k hk => ?_, h⟩
      obtain ⟨k, rfl⟩ : ∃ j, k = j + 2 := ⟨k - 2, by omega⟩
      rw [hk0, spec_l1FromFigures.j1]
      exact hr k (by omega)
theorem fromFig_any (s : ByteArray) (hs : s.size ≤ 150) : ∃ r, (∀ k, 2800 ≤ k → spec_l1FromFigures.f k s = some r) ∧ r.length ≤ 1000 := by
  obtain ⟨r, hr, h⟩ := fromFig_l0 s.size s [] rfl (by omega) (by simp; omega)
  exact ⟨r, fun k hk => hr k (by omega), h⟩
theorem l1Big_any (neg : Bool) (l : List Int) (hl : l.length ≤ 1000) : ∃ n r ok, (∀ k, 1010 ≤ k → spec_l1Big.f k neg l = some (n, r, ok)) ∧ r.length ≤ 16 := by
  by_cases h : ((trimL l).length : Int) > 16
  · refine ⟨false, [], false, fun k hk => ?_, by simp⟩
    unfold spec_l1Big.f
    rw [sTrim_ge l (by omega) k (by omega)]
    simp only [Option.bind_some]
    rw [if_pos h]
  · cases neg
    · refine ⟨false, trimL l, true, fun k hk => ?_, by omega⟩
      unfold spec_l1Big.f
      rw [sTrim_ge l (by omega) k (by omega)]
      simp only [Option.bind_some]
      rw [if_neg h, if_neg (by decide)]
    · refine ⟨decide (0 < (trimL l).length), trimL l, true, fun k hk => ?_, by omega⟩
      unfold spec_l1Big.f
      rw [sTrim_ge l (by omega) k (by omega)]
      simp only [Option.bind_some]
      rw [if_neg h, if_pos trivial]
theorem bigJ1_any {b : List Int} (hb : BytesOk b) {p : Int} (hp : 0 ≤ p) (hp' : p ≤ 500000) {n : Int} (hn : n ≤ 100) (s : ByteArray) (hs : s.size ≤ 150) :
    ∃ g r p', (∀ k, 3000 ≤ k → spec_l14Big.j1 k n s b p = some (g, r, p')) ∧ r.length ≤ 16 ∧ p ≤ p' ∧ p' ≤ p + 10 := by
  obtain ⟨x, hx, _, _⟩ := pick_ge hb hp (by omega) (n := 6) (by omega)
  obtain ⟨y, hy, _, _⟩ := pick_ge hb (p := p + 1) (by omega) (by omega) (n := 3) (by omega)
  by_cases h0 : x = 0
  · obtain ⟨t, ht, hts⟩ := many_any (⟨#[57]⟩ : ByteArray) rfl n hn
    obtain ⟨f, hf, hfl⟩ := fromFig_any t (by omega)
    obtain ⟨g, r, ok, hg, hr⟩ := l1Big_any (y == 0) f hfl
    refine ⟨g, r, p + 1 + 1, fun k hk => ?_, hr, by omega, by omega⟩
    obtain ⟨k, rfl⟩ : ∃ j, k = j + 1 := ⟨k - 1, by omega⟩
    rw [spec_l14Big.j1, hx k (by omega)]; simp only [Option.bind_some]
    rw [if_pos h0, ht k (by omega)]; simp only [Option.bind_some]
    rw [hy k (by omega)]; simp only [Option.bind_some]
    rw [hf k (by omega)]; simp only [Option.bind_some]
    rw [hg k (by omega)]; rfl
  · obtain ⟨f, hf, hfl⟩ := fromFig_any s hs
    obtain ⟨g, r, ok, hg, hr⟩ := l1Big_any (y == 0) f hfl
    refine ⟨g, r, p + 1 + 1, fun k hk => ?_, hr, by omega, by omega⟩
    obtain ⟨k, rfl⟩ : ∃ j, k = j + 1 := ⟨k - 1, by omega⟩
    rw [spec_l14Big.j1, hx k (by omega)]; simp only [Option.bind_some]
    rw [if_neg h0, hy k (by omega)]; simp only [Option.bind_some]
    rw [hf k (by omega)]; simp only [Option.bind_some]
    rw [hg k (by omega)]; rfl
theorem bigJ0_any {b : List Int} (hb : BytesOk b) {p : Int} (hp : 0 ≤ p) (hp' : p ≤ 400000) {n : Int} (hn0 : 0 ≤ n) (hn : n ≤ 100) :
    ∃ g r p', (∀ k, 3010 ≤ k → spec_l14Big.j0 k n b p = some (g, r, p')) ∧ r.length ≤ 16 ∧ p ≤ p' ∧ p' ≤ p + 400 := by
  obtain ⟨f, q, hf, hfs, q1, q2⟩ := figs_any hb hp (by omega) hn
  obtain ⟨x, hx, _, _⟩ := pick_ge hb (p := q) (by omega) (by omega) (n := 6) (by omega)
  by_cases h0 : x = 0
  · obtain ⟨t, ht, hts⟩ := many_any (⟨#[48]⟩ : ByteArray) rfl (wrap64 (n - 1)) (by rw [w64 (by omega) (by omega)]; omega)
    obtain ⟨g, r, p', hj, hr, z1, z2⟩ := bigJ1_any hb (p := q + 1) (by omega) (by omega) hn ((⟨#[49]⟩ : ByteArray) ++ t) (by rw [size_app]; show 1 + t.size ≤ 150; omega)
    refine ⟨g, r, p', fun k hk => ?_, hr, by omega, by omega⟩
    obtain ⟨k, rfl⟩ : ∃ j, k = j + 1 := ⟨k - 1, by omega⟩
    rw [spec_l14Big.j0, hf k (by omega)]; simp only [Option.bind_some]
    rw [hx k (by omega)]; simp only [Option.bind_some]
    rw [if_pos h0, ht k (by omega)]; simp only [Option.bind_some]
    rw [if_pos (by omega)]
    exact hj k (by omega)
  · obtain ⟨g, r, p', hj, hr, z1, z2⟩ := bigJ1_any hb (p := q + 1) (by omega) (by omega) hn f (by omega)
    refine ⟨g, r, p', fun k hk => ?_, hr, by omega, by omega⟩
    obtain ⟨k, rfl⟩ : ∃ j, k = j + 1 := ⟨k - 1, by omega⟩
    rw [spec_l14Big.j0, hf k (by omega)]; simp only [Option.bind_some]
    rw [hx k (by omega)]; simp only [Option.bind_some]
    rw [if_neg h0]
    exact hj k (by omega)
theorem big_any {b : List Int} (hb : BytesOk b) {p : Int} (hp : 0 ≤ p) (hp' : p ≤ 300000) {n : Int} (hn : 1 ≤ n) (hn' : n ≤ 64) :
    ∃ g r p', (∀ k, 3020 ≤ k → spec_l14Big.f k b p n = some (g, r, p')) ∧ r.length ≤ 16 ∧ p ≤ p' ∧ p' ≤ p + 500 := by
  obtain ⟨x, hx, x0, x1⟩ := pick_ge hb hp (by omega) (n := 64) (by omega)
  obtain ⟨y, hy, hym⟩ := one_ge hb (p := p + 1) (by omega) (by omega) (l := [0, 1, 1, 2, 3, 4, 5, 8, 9, 12, 17, 29, 30, 31, 33, 63, 64, wrap64 (1 + x)]) (by simp)
  have hy64 : 0 ≤ y ∧ y ≤ 64 := by
    rw [w64 (by omega) (by omega)] at hym
    simp only [List.mem_cons, List.not_mem_nil, or_false] at hym
    omega
  by_cases hc : y > n
  · obtain ⟨z, hz, z0, z1⟩ := pick_ge hb (p := p + 1 + 1) (by omega) (by omega) hn
    obtain ⟨g, r, p', hj, hr, w1, w2⟩ := bigJ0_any hb (p := p + 1 + 1 + 1) (by omega) (by omega) (n := wrap64 (1 + z)) (by rw [w64 (by omega) (by omega)]; omega) (by rw [w64 (by omega) (by omega)]; omega)
    refine ⟨g, r, p', fun k hk => ?_, hr, by omega, by omega⟩
    unfold spec_l14Big.f
    rw [hx k (by omega)]; simp only [Option.bind_some]
    rw [hy k (by omega)]; simp only [Option.bind_some]
    rw [if_pos hc, hz k (by omega)]; simp only [Option.bind_some]
    exact hj k (by omega)
  · obtain ⟨g, r, p', hj, hr, w1, w2⟩ := bigJ0_any hb (p := p + 1 + 1) (by omega) (by omega) (n := y) (by omega) (by omega)
    refine ⟨g, r, p', fun k hk => ?_, hr, by omega, by omega⟩
    unfold spec_l14Big.f
    rw [hx k (by omega)]; simp only [Option.bind_some]
    rw [hy k (by omega)]; simp only [Option.bind_some]
    rw [if_neg hc]
    exact hj k (by omega)
theorem anyBig_l0 {b : List Int} {p : Int} (g : Bool) : ∀ (m : Nat) (l : List Int), l.length ≤ 100 → 17 ≤ l.length + m → ∃ r, (∀ k, m + 1 ≤ k → spec_l14AnyBig.l0 k b p g l = some (g, r, p)) ∧ r.length ≤ 100 + m := by
  intro m
  induction m with
  | zero =>
    intro l h1 h2
    refine ⟨l, fun k hk => ?_, by omega⟩
    obtain ⟨k, rfl⟩ : ∃ j, k = j + 1 := ⟨k - 1, by omega⟩
    rw [spec_l14AnyBig.l0, if_neg (by omega)]
  | succ m ih =>
    intro l h1 h2
    by_cases h : (l.length : Int) < 17
    · obtain ⟨r, hr, hl⟩ := ih (l ++ [1]) (by simp; omega) (by simp; omega)
      refine ⟨r, fun k hk => ?_, by omega⟩
      obtain ⟨k, rfl⟩ : ∃ j, k = j + 1 := ⟨k - 1, by omega⟩
      rw [spec_l14AnyBig.l0, if_pos h, if_pos (by omega)]
      exact hr k (by omega)
    · refine ⟨l, fun k hk => ?_, by omega⟩
      obtain ⟨k, rfl⟩ : ∃ j, k = j + 1 := ⟨k - 1, by omega⟩
      rw [spec_l14AnyBig.l0, if_neg h]
theorem anyBig_any {b : List Int} (hb : BytesOk b) {p : Int} (hp : 0 ≤ p) (hp' : p ≤ 200000) :
    ∃ g r p', (∀ k, 3030 ≤ k → spec_l14AnyBig.f k b p = some (g, r, p')) ∧ r.length ≤ 200 ∧ p ≤ p' ∧ p' ≤ p + 600 := by
  obtain ⟨g, l, q, hg, hl, q1, q2⟩ := big_any hb hp (by omega) (n := 64) (by omega) (by omega)
  obtain ⟨x, hx, _, _⟩ := pick_ge hb (p := q) (by omega) (by omega) (n := 30) (by omega)
  by_cases h0 : x = 0
  · refine ⟨g, l ++ [0], q + 1, fun k hk => ?_, by simp; omega, by omega, by omega⟩
    unfold spec_l14AnyBig.f
    rw [hg k (by omega)]; simp only [Option.bind_some]
    rw [hx k (by omega)]; simp only [Option.bind_some]
    rw [if_pos h0, if_pos (by omega)]
  · by_cases h1 : x = 1
    · obtain ⟨y, hy, _⟩ := one_ge hb (p := q + 1) (by omega) (by omega) (l := [10000, (-1)]) (by decide)
      refine ⟨g, l ++ [y], q + 1 + 1, fun k hk => ?_, by simp; omega, by omega, by omega⟩
      unfold spec_l14AnyBig.f
      rw [hg k (by omega)]; simp only [Option.bind_some]
      rw [hx k (by omega)]; simp only [Option.bind_some]
      rw [if_neg h0, if_pos h1, hy k (by omega)]; simp only [Option.bind_some]
      rw [if_pos (by omega)]
    · by_cases h2 : x = 2
      · refine ⟨true, [], q + 1, fun k hk => ?_, by simp, by omega, by omega⟩
        unfold spec_l14AnyBig.f
        rw [hg k (by omega)]; simp only [Option.bind_some]
        rw [hx k (by omega)]; simp only [Option.bind_some]
        rw [if_neg h0, if_neg h1, if_pos h2]
      · by_cases h3 : x = 3
        · obtain ⟨r, hr, hrl⟩ := anyBig_l0 (b := b) (p := q + 1) g 17 l (by omega) (by omega)
          refine ⟨g, r, q + 1, fun k hk => ?_, by omega, by omega, by omega⟩
          unfold spec_l14AnyBig.f
          rw [hg k (by omega)]; simp only [Option.bind_some]
          rw [hx k (by omega)]; simp only [Option.bind_some]
          rw [if_neg h0, if_neg h1, if_neg h2, if_pos h3]
          exact hr k (by omega)
        · refine ⟨g, l, q + 1, fun k hk => ?_, by omega, by omega, by omega⟩
          unfold spec_l14AnyBig.f
          rw [hg k (by omega)]; simp only [Option.bind_some]
          rw [hx k (by omega)]; simp only [Option.bind_some]
          rw [if_neg h0, if_neg h1, if_neg h2, if_neg h3]
theorem dec_any {b : List Int} (hb : BytesOk b) {p : Int} (hp : 0 ≤ p) (hp' : p ≤ 100000) : ∃ g r s p', (∀ k, 3200 ≤ k → spec_l14Dec.f k b p = some (g, r, s, p')) ∧ r.length ≤ 200 ∧ p ≤ p' ∧ p' ≤ p + 600 := by
  obtain ⟨x, hx, _, _⟩ := pick_ge hb hp (by omega) (n := 13) (by omega)
  obtain ⟨s, hs, _⟩ := one_ge hb (p := p + 1) (by omega) (by omega) (l := [0, 0, 1, 2, 2, 3, 6, 12, x]) (by simp)
  obtain ⟨y, hy, _, _⟩ := pick_ge hb (p := p + 1 + 1) (by omega) (by omega) (n := 5) (by omega)
  by_cases h0 : y = 0
  · obtain ⟨z, hz, z0, z1⟩ := pick_ge hb (p := p + 1 + 1 + 1) (by omega) (by omega) (n := 200) (by omega)
    refine ⟨mkN (z - 100), mkL (z - 100), s, p + 1 + 1 + 1 + 1, fun k hk => ?_, ?_, by omega, by omega⟩
    · unfold spec_l14Dec.f
      rw [hx k (by omega), bS, hs k (by omega), bS, hy k (by omega), bS, if_pos h0, hz k (by omega), bS, w64 (by omega) (by omega), sBigOf_ge (by omega) (by omega) k (by omega), bS]
    · have := pw_pos 16
      have h := mk_ok (x := z - 100) (by have := pw16; omega) (by have := pw16; omega)
      have := h.1
      omega
  · by_cases h1 : y = 1
    · obtain ⟨z, hz, mz⟩ := one_ge hb (p := p + 1 + 1 + 1) (by omega) (by omega) (l := [5, 15, 25, 35, 45, (-5), (-15), (-25), 50, 150, 250, 499, 500, 501, (-500), 1500, 2500, (-2500), 1000, 20]) (by simp)
      simp only [List.mem_cons, List.not_mem_nil, or_false] at mz
      refine ⟨mkN z, mkL z, s, p + 1 + 1 + 1 + 1, fun k hk => ?_, ?_, by omega, by omega⟩
      · unfold spec_l14Dec.f
        rw [hx k (by omega), bS, hs k (by omega), bS, hy k (by omega), bS, if_neg h0, if_pos h1, hz k (by omega), bS, sBigOf_ge (by omega) (by omega) k (by omega), bS]
      · have h := mk_ok (x := z) (by have := pw16; omega) (by have := pw16; omega)
        have := h.1
        omega
    · by_cases h2 : y = 2
      · obtain ⟨g, r, p', hr, hl, q1, q2⟩ := big_any hb (p := p + 1 + 1 + 1) (by omega) (by omega) (n := 8) (by omega) (by omega)
        refine ⟨g, r, s, p', fun k hk => ?_, by omega, by omega, by omega⟩
        unfold spec_l14Dec.f
        rw [hx k (by omega), bS, hs k (by omega), bS, hy k (by omega), bS, if_neg h0, if_neg h1, if_pos h2, hr k (by omega), bS]
      · obtain ⟨g, r, p', hr, hl, q1, q2⟩ := big_any hb (p := p + 1 + 1 + 1) (by omega) (by omega) (n := 30) (by omega) (by omega)
        refine ⟨g, r, s, p', fun k hk => ?_, by omega, by omega, by omega⟩
        unfold spec_l14Dec.f
        rw [hx k (by omega), bS, hs k (by omega), bS, hy k (by omega), bS, if_neg h0, if_neg h1, if_neg h2, hr k (by omega), bS]
theorem anyDec_any {b : List Int} (hb : BytesOk b) {p : Int} (hp : 0 ≤ p) (hp' : p ≤ 90000) : ∃ g r s p', (∀ k, 3200 ≤ k → spec_l14AnyDec.f k b p = some (g, r, s, p')) ∧ r.length ≤ 200 := by
  obtain ⟨g, r, s, q, hd, hl, q1, q2⟩ := dec_any hb hp (by omega)
  obtain ⟨x, hx, _, _⟩ := pick_ge hb (p := q) (by omega) (by omega) (n := 30) (by omega)
  by_cases h0 : x = 0
  · obtain ⟨z, hz, _⟩ := one_ge hb (p := q + 1) (by omega) (by omega) (l := [(-1), 13, 4611686018427387904]) (by simp)
    refine ⟨g, r, z, q + 1 + 1, fun k hk => ?_, hl⟩
    unfold spec_l14AnyDec.f
    rw [hd k hk, bS, hx k (by omega), bS, if_pos h0, hz k (by omega), bS]
  · by_cases h1 : x = 1
    · obtain ⟨g', r', p', hr, hl', _, _⟩ := big_any hb (p := q + 1) (by omega) (by omega) (n := 31) (by omega) (by omega)
      refine ⟨g', r', s, p', fun k hk => ?_, by omega⟩
      unfold spec_l14AnyDec.f
      rw [hd k hk, bS, hx k (by omega), bS, if_neg h0, if_pos h1, hr k (by omega), bS]
    · by_cases h2 : x = 2
      · obtain ⟨g', r', p', hr, hl', _, _⟩ := anyBig_any hb (p := q + 1) (by omega) (by omega)
        refine ⟨g', r', s, p', fun k hk => ?_, by omega⟩
        unfold spec_l14AnyDec.f
        rw [hd k hk, bS, hx k (by omega), bS, if_neg h0, if_neg h1, if_pos h2, hr k (by omega), bS]
      · refine ⟨g, r, s, q + 1, fun k hk => ?_, hl⟩
        unfold spec_l14AnyDec.f
        rw [hd k hk, bS, hx k (by omega), bS, if_neg h0, if_neg h1, if_neg h2]
theorem drawDecPut_any {l : List Int} (hl : ∀ x ∈ l, (Lit.int .u8 x).wf = true) : ∃ g r s, (∀ k, 3200 ≤ k → spec_DrawDecPut.f k l = some (g, r, s)) ∧ r.length ≤ 200 := by
  obtain ⟨b, hb, hB⟩ := open_any hl
  obtain ⟨g, r, s, q, hd, hr⟩ := anyDec_any hB (p := 0) (by omega) (by omega)
  refine ⟨g, r, s, fun k hk => ?_, hr⟩
  unfold spec_DrawDecPut.f
  rw [hb, bS, hd k hk, bS]
end Go.Proofs.YtdbgpoileffbeaaGreatDoor.Drw
end
section
namespace Go.Proofs.YtdbgpoileffbeaaGreatDoor.Pure
open Go.RowKit Go.Proofs.YtdbgpoileffbeaaGreatDoor.Pr Go.Proofs.YtdbgpoileffbeaaGreatDoor.Ext Go.Proofs.YtdbgpoileffbeaaGreatDoor.Dec Go.Proofs.YtdbgpoileffbeaaGreatDoor.Jt Go.Proofs.YtdbgpoileffbeaaGreatDoor.Val Go.Proofs.YtdbgpoileffbeaaGreatDoor.Str Go.Proofs.YtdbgpoileffbeaaGreatDoorW.PrintWords Go.Proofs.YtdbgpoileffbeaaGreatDoorW.PrintLast Go.Proofs.YtdbgpoileffbeaaGreatDoorW.PrintMore
set_option linter.unusedVariables false
set_option linter.unusedSimpArgs false
theorem bt46 {l : List UInt8} {i : Nat} (h : i < l.length) : (bt (str l) (i : Int) = 46) ↔ l[i]? = some 46 := by
  rw [str_btD l (by omega) (by omega), Int.toNat_natCast, getD_get h, Option.some.injEq]
  constructor
  · intro e; exact UInt8.toNat_inj.1 (show (l.getD i 0).toNat = (46 : UInt8).toNat by have : (46 : UInt8).toNat = 46 := rfl; omega)
  · intro e; rw [e]; rfl
theorem skip (S : List UInt8) (hS : S.length ≤ 1000) (ok : Bool) (x7 : Int) (a : Bool) (b : List Int) (c : Int) (a' : Bool) (b' : List Int) (c' : Int) : ∀ (d k i : Nat), i + d ≤ S.length → (∀ j, i ≤ j → j < i + d → S[j]? ≠ some 46) →
    laws_FnDecPut.l0 (k + d) (str S) ok x7 (i : Int) a b c a' b' c' = laws_FnDecPut.l0 k (str S) ok x7 ((i + d : Nat) : Int) a b c a' b' c' := by
  intro d
  induction d with
  | zero => intro k i hi hj; rfl
  | succ d ih =>
    intro k i hi hj
    rw [show k + (d + 1) = (k + d) + 1 by omega, laws_FnDecPut.l0, str_size, if_pos (by omega), if_pos (by omega), if_neg (fun e => hj i (Nat.le_refl _) (by omega) ((bt46 (by omega)).1 e)), Str.w64 (by omega) (by omega), show ((i : Int) + 1) = ((i + 1 : Nat) : Int) by omega, ih k (i + 1) (by omega) (fun j h1 h2 => hj j (by omega) (by omega)), show i + 1 + d = i + (d + 1) by omega]
theorem no46_mid {p w : List UInt8} (hp : ∀ x ∈ p, x ≠ 46) (hw : (46 : UInt8) ∉ w) {r : List UInt8} {j : Nat} (hj : j < p.length + w.length) : ((p ++ w) ++ r)[j]? ≠ some 46 := by
  rw [List.getElem?_append_left (by rw [List.length_append]; omega)]
  intro e
  rcases List.mem_append.1 (List.mem_of_getElem? e) with h | h
  · exact hp _ h rfl
  · exact hw h
theorem FnDecPut {l : List Int} (hl : ∀ x ∈ l, (Lit.int .u8 x).wf = true) : laws_FnDecPut.f 9000 l = some true := by
  unfold laws_FnDecPut.f
  split
  · rfl
  · obtain ⟨n, r, s, hd, hr⟩ := Drw.drawDecPut_any hl
    rw [hd _ (by decide)]; simp only [Str.bS]
    rw [implDecPut]; simp only [Str.bS]
    rw [specDecPut _ _ _ _ (by decide)]; simp only [Str.bS]
    rw [if_pos trivial]
    by_cases h : decB n r s = true
    · rw [if_pos h]
      obtain ⟨ho, s0, s1, ht⟩ := decB_ok h
      obtain ⟨w, f, e, hw, hw0, hf, hfl, hlen, hv⟩ := decT_parts h
      have hwl : 0 < w.length := List.length_pos_iff.2 hw0
      have hne : ((decT n r s) == ([] : List UInt8)) = false := by
        rw [beq_eq_false_iff_ne, e]
        intro e2
        have := congrArg List.length e2
        split at this
        · simp at this
        · rw [List.length_append, List.length_nil] at this; omega
      rw [str_toList, hne, laws_FnDecPut.j0, if_neg (by decide), implDecGet_put h _ (by decide)]; simp only [Str.bS]
      -- the shape: sign and whole figures, then the point and the figures behind it
      obtain ⟨p, hp, hpe, hpl⟩ : ∃ p : List UInt8, (∀ x ∈ p, x ≠ 46) ∧ decT n r s = (p ++ w) ++ (if 0 < s then 46 :: f else []) ∧ p.length ≤ 1 := by
        rw [e]
        cases n
        · exact ⟨[], by simp, by simp, by simp⟩
        · exact ⟨[45], by simp, by simp, by simp⟩
      have hfin : ∀ (k : Nat) (i : Int) (S : List UInt8), S.length ≤ 1000 → (S.length : Int) ≤ i → 1020 ≤ k → laws_FnDecPut.l0 (k + 1) (str S) true s i n r s n r s = some true := by
        intro k i S hS hi hk
        rw [laws_FnDecPut.l0, str_size, if_neg (by omega), if_pos rfl]
        unfold laws_jtDec.f
        rw [if_pos rfl, jtBig_ge _ _ _ _ (by omega) _ (by omega)]; simp only [Str.bS]
        simp
      have hSl : (decT n r s).length ≤ 60 := by
        rw [hpe]
        split <;> simp only [List.length_append, List.length_cons, List.length_nil] <;> omega
      by_cases hs : 0 < s
      · rw [if_pos hs] at hpe
        have hS : (decT n r s).length = p.length + w.length + 1 + f.length := by rw [hpe]; simp only [List.length_append, List.length_cons]; omega
        have a1 := skip (decT n r s) (by omega) true 0 n r s n r s (p.length + w.length) (8999 - (p.length + w.length) - 1 + 0) 0 (by omega) (fun j _ hj => by rw [hpe]; exact no46_mid hp (digs_no46 hw) (by omega))
        have key : ∀ K, 1100 ≤ K → laws_FnDecPut.l0 (K + 1) (str (decT n r s)) true 0 ((p.length + w.length : Nat) : Int) n r s n r s = some true := by
          intro K hK
          have h46 : (decT n r s)[p.length + w.length]? = some 46 := by
            rw [hpe, show p.length + w.length = (p ++ w).length by rw [List.length_append], List.getElem?_append_right (Nat.le_refl _), Nat.sub_self]; rfl
          rw [laws_FnDecPut.l0, str_size, if_pos (by omega), if_pos (by omega), if_pos ((bt46 (by omega)).2 h46), Str.w64 (x := ((decT n r s).length : Int) - 1) (by omega) (by omega), Str.w64 (by omega) (by omega), Str.w64 (by omega) (by omega), show ((decT n r s).length : Int) - 1 - ((p.length + w.length : Nat) : Int) = s by omega, show (((p.length + w.length : Nat) : Int) + 1) = ((p.length + w.length + 1 : Nat) : Int) by omega]
          obtain ⟨K, rfl⟩ : ∃ j, K = j + f.length := ⟨K - f.length, by omega⟩
          rw [skip (decT n r s) (by omega) true s n r s n r s f.length K (p.length + w.length + 1) (by omega) (fun j h1 h2 => by
            rw [hpe, List.getElem?_append_right (by rw [List.length_append]; omega), List.length_append, show j - (p.length + w.length) = (j - (p.length + w.length) - 1) + 1 by omega, List.getElem?_cons_succ]
            intro e3
            exact digs_no46 hf (List.mem_of_getElem? e3))]
          obtain ⟨K, rfl⟩ : ∃ j, K = j + 1 := ⟨K - 1, by omega⟩
          exact hfin K _ _ (by omega) (by omega) (by omega)
        obtain ⟨K, hK⟩ : ∃ K, 8999 = (K + 1) + (p.length + w.length) := ⟨8999 - 1 - (p.length + w.length), by omega⟩
        have b1 := skip (decT n r s) (by omega) true 0 n r s n r s (p.length + w.length) (K + 1) 0 (by omega) (fun j _ hj => by rw [hpe]; exact no46_mid hp (digs_no46 hw) (by omega))
        rw [Nat.zero_add, ← hK] at b1
        refine Eq.trans b1 (key K (by omega))
      · have hs0 : s = 0 := by omega
        rw [if_neg hs, List.append_nil] at hpe
        have hS : (decT n r s).length = p.length + w.length := by rw [hpe, List.length_append]
        obtain ⟨K, hK⟩ : ∃ K, 8999 = (K + 1) + (p.length + w.length) := ⟨8999 - 1 - (p.length + w.length), by omega⟩
        have b1 := skip (decT n r s) (by omega) true 0 n r s n r s (p.length + w.length) (K + 1) 0 (by omega) (fun j _ hj => by
          have := no46_mid hp (digs_no46 hw) (r := []) (j := j) (by omega)
          rw [List.append_nil] at this
          rw [hpe]; exact this)
        rw [Nat.zero_add, ← hK] at b1
        have b2 := hfin K ((p.length + w.length : Nat) : Int) (decT n r s) (by omega) (by omega) (by omega)
        rw [show laws_FnDecPut.l0 (K + 1) (str (decT n r s)) true s ((p.length + w.length : Nat) : Int) n r s n r s = laws_FnDecPut.l0 (K + 1) (str (decT n r s)) true 0 ((p.length + w.length : Nat) : Int) n r s n r s by rw [← hs0]] at b2
        exact Eq.trans b1 b2
    · rw [if_neg h, str_toList, show (([] : List UInt8) == []) = true from rfl, laws_FnDecPut.j0, if_pos rfl, specDecPut _ _ _ _ (by decide), if_neg h]; simp only [Str.bS]
      simp
end Go.Proofs.YtdbgpoileffbeaaGreatDoor.Pure
end
section
namespace Go.Proofs.YtdbgpoileffbeaaGreatDoor.LaidE
open Go Go.RowKit Go.Proofs.YtdbgpoileffbeaaGreatDoor.Ext
set_option linter.unusedVariables false
theorem powType : (Tryz.prog.globals[3]?).map (·.type) = some 133 := by kernel_rfl
theorem powData : (Rows.laid_internal_strconv_uint64pow10 : DataW Unit) = Lib.tabData .u64 Lib.pow10Tab := rfl
theorem envI_of {r : List (String × DataW Unit)} {W : World} (h : laidMet Tryz.prog (("internal/strconv.uint64pow10", Rows.laid_internal_strconv_uint64pow10) :: r) W) : EnvI W :=
  Lib.tabIs_of_head gPow powType Tryz.underlying133 Tryz.underlying100 (by kernel_rfl) (by kernel_rfl) (powData ▸ h)
theorem star : "*" ++ "errors.errorString" = "*errors.errorString" := by decide
theorem rowErr (u : TypeId) (h : Tryz.prog.typeName? 3 u = some "*errors.errorString") : u = 129 :=
  typeName_ptr_named (nm := "errors.errorString") (by rw [star]; kernel_rfl) (by kernel_rfl) (by decide) u (by rw [star]; exact h)
theorem gSyn : Tryz.prog.globalNamed "strconv.ErrSyntax" = some 1 := by kernel_rfl
theorem gRan : Tryz.prog.globalNamed "strconv.ErrRange" = some 2 := by kernel_rfl
theorem gSynType : (Tryz.prog.globals[1]?).map (·.type) = some 65 := by kernel_rfl
theorem gRanType : (Tryz.prog.globals[2]?).map (·.type) = some 65 := by kernel_rfl
theorem cellsE : Tryz.prog.cellsOf 131 = 1 := by kernel_rfl
theorem cellsS : Tryz.prog.cellsOf 9 = 1 := by kernel_rfl
theorem syn_of {r : List (String × DataW Unit)} {W : World} (h : laidMet Tryz.prog (("strconv.ErrSyntax", Rows.laid_strconv_ErrSyntax) :: r) W) : HoldsErr 1 W := by
  obtain ⟨a0, s0, hv0, -, -, -⟩ := laid_sentinel h gSyn gSynType Tryz.underlying65 rowErr Tryz.underlying129 Tryz.underlying131 rfl rfl Tryz.underlying9 cellsE cellsS
  exact ⟨_, by simpa using World.var?_cell gSyn hv0 0, .inr ⟨_, _, rfl⟩⟩
theorem ran_of {r : List (String × DataW Unit)} {W : World} (h : laidMet Tryz.prog (("strconv.ErrRange", Rows.laid_strconv_ErrRange) :: r) W) : HoldsErr 2 W := by
  obtain ⟨a0, s0, hv0, -, -, -⟩ := laid_sentinel h gRan gRanType Tryz.underlying65 rowErr Tryz.underlying129 Tryz.underlying131 rfl rfl Tryz.underlying9 cellsE cellsS
  exact ⟨_, by simpa using World.var?_cell gRan hv0 0, .inr ⟨_, _, rfl⟩⟩
theorem len_of {W : World} (h : W.ShapedOpen Tryz.prog) : ∃ m, W.cell? ⟨0, 0, none⟩ = some (.int .i64 m) :=
  cell_of_shapedOpen_int h (of_decide_eq_true (by kernel_rfl)) (t := 3) (zero := #[.int .i64 0]) (by kernel_rfl) rfl (by kernel_rfl) (by kernel_rfl) Tryz.underlying3
end Go.Proofs.YtdbgpoileffbeaaGreatDoor.LaidE
end
