/- What the claim's row needs of the contracts and words below it, and no more. -/
import Derived.Test.YtgeloncilhighaaDoorQDh2
import Derived.Lib.AtoiAllMem
import Derived.Lib.IndexLaws
import Derived.Lib.AtoiAllCases
import Derived.Lib.SplitLaws
import Derived.Test.YtgeloncilhighaaDoorRows
import Derived.Stop.LaidErr
import Derived.Lib.LaidTab
import Derived.Shelf.Vars
import Derived.SizedLaws
import Derived.KernelRfl
section
namespace Go.Proofs.YtgeloncilhighaaDoor.Str
open Go.Lib Go.RowKit Go.Proofs.YtgeloncilhighaaDoor.Dec Go.Proofs.YtgeloncilhighaaDoor.Pr Go.Proofs.YtgeloncilhighaaDoor.Ext Go.Proofs.YtgeloncilhighaaDoorW.PrintWords Go.Proofs.YtgeloncilhighaaDoorW.PrintLast Go.Proofs.YtgeloncilhighaaDoorW.PrintMore
set_option linter.unusedVariables false
set_option linter.unusedSimpArgs false
theorem parse_digs : ∀ (l : List UInt8) (a : Nat), Digs l → (a + 1) * 10 ^ l.length ≤ 10 ^ 18 → parseUint10 a l = .ok (dvalA a l)
  | [], a, _, _ => by rw [parseUint10, dvalA_nil]
  | b :: r, a, hd, hb => by
    have h0 := hd.head
    unfold IsD at h0
    rw [List.length_cons, Nat.pow_succ] at hb
    have hp : 1 ≤ 10 ^ r.length := Nat.one_le_pow _ _ (by decide)
    have h1 : (a + 1) * 1 ≤ (a + 1) * 10 ^ r.length := Nat.mul_le_mul_left _ hp
    have h2 : (a + 1) * (10 ^ r.length * 10) = ((a + 1) * 10 ^ r.length) * 10 := (Nat.mul_assoc ..).symm
    rw [h2] at hb
    have e18 : 10 ^ 18 = 1000000000000000000 := by decide
    rw [e18] at hb
    have ha : a + 1 ≤ 100000000000000000 := by omega
    simp only [parseUint10]
    rw [if_pos h0, if_neg (by omega), if_neg (by omega), dvalA_cons]
    refine parse_digs r _ hd.tail ?_
    rw [e18]
    have h3 : (a * 10 + (b.toNat - 48) + 1) * 10 ^ r.length ≤ ((a + 1) * 10) * 10 ^ r.length := Nat.mul_le_mul_right _ (by omega)
    have h4 : ((a + 1) * 10) * 10 ^ r.length = ((a + 1) * 10 ^ r.length) * 10 := by rw [Nat.mul_assoc, Nat.mul_comm 10, ← Nat.mul_assoc]
    omega
theorem atoiAll_digs {l : List UInt8} (hd : Digs l) (h0 : l ≠ []) (hl : l.length ≤ 18) : atoiAll l = .ok (dval l : Int) := by
  cases l with
  | nil => exact absurd rfl h0
  | cons b r =>
    have hb := hd.head
    unfold IsD at hb
    have hp := parse_digs (b :: r) 0 hd (by
      have : 10 ^ (b :: r).length ≤ 10 ^ 18 := Nat.pow_le_pow_right (by decide) hl
      omega)
    have hv : dvalA 0 (b :: r) < 9223372036854775808 := by
      have h1 := dval_lt hd
      have h2 : 10 ^ (b :: r).length ≤ 10 ^ 18 := Nat.pow_le_pow_right (by decide) hl
      have e18 : 10 ^ 18 = 1000000000000000000 := by decide
      unfold dval at h1
      omega
    unfold atoiAll
    simp only
    rw [if_neg (by omega)]
    unfold parseMag
    rw [if_neg (by simp), hp]
    simp only
    rw [if_neg (by omega), if_neg (by omega), if_neg (by omega)]
    rfl
theorem occ_one (l : List UInt8) (c : UInt8) (i : Nat) : occAt l [c] i = true ↔ l[i]? = some c := by
  unfold occAt
  rw [List.isPrefixOf_iff_prefix]
  constructor
  · rintro ⟨t, ht⟩
    have : (l.drop i)[0]? = some c := by rw [← ht]; rfl
    rwa [List.getElem?_drop, Nat.add_zero] at this
  · intro h
    obtain ⟨hi, he⟩ := List.getElem?_eq_some_iff.1 h
    rw [List.drop_eq_getElem_cons hi, he]
    exact ⟨_, rfl⟩
end Go.Proofs.YtgeloncilhighaaDoor.Str
end
section
namespace Go.Proofs.YtgeloncilhighaaDoor.Str
open Go.Lib Go.RowKit Go.Proofs.YtgeloncilhighaaDoor.Dec Go.Proofs.YtgeloncilhighaaDoor.Pr Go.Proofs.YtgeloncilhighaaDoor.Ext Go.Proofs.YtgeloncilhighaaDoorW.PrintWords Go.Proofs.YtgeloncilhighaaDoorW.PrintLast Go.Proofs.YtgeloncilhighaaDoorW.PrintMore
set_option linter.unusedVariables false
set_option linter.unusedSimpArgs false
def numOk (l : List UInt8) : Prop := Digs l ∧ l.length ≤ 9 ∧ Canon l
instance (l : List UInt8) : Decidable (numOk l) := inferInstanceAs (Decidable (_ ∧ _))
theorem getD_get {l : List UInt8} {i : Nat} (h : i < l.length) : l[i]? = some (l.getD i 0) := by
  rw [List.getD_eq_getElem?_getD, List.getElem?_eq_getElem h]; rfl
end Go.Proofs.YtgeloncilhighaaDoor.Str
end
section
namespace Go.Proofs.YtgeloncilhighaaDoor.Str
open Go.Lib Go.RowKit Go.Proofs.YtgeloncilhighaaDoor.Dec Go.Proofs.YtgeloncilhighaaDoor.Cal Go.Proofs.YtgeloncilhighaaDoor.Pr Go.Proofs.YtgeloncilhighaaDoor.Ext Go.Proofs.YtgeloncilhighaaDoorW.PrintWords Go.Proofs.YtgeloncilhighaaDoorW.PrintLast Go.Proofs.YtgeloncilhighaaDoorW.PrintMore
set_option linter.unusedVariables false
set_option linter.unusedSimpArgs false
def IsDay (s : List UInt8) (n : Int) : Prop := ∃ K d, At n K d ∧ s = dayT (K / 12) (K % 12 + 1) d
def ToldD (s : List UInt8) (r : Int × Bool) : Prop := (r.2 = true ∧ 1 ≤ r.1 ∧ r.1 ≤ 3652059 ∧ IsDay s r.1) ∨ (r = (0, false) ∧ ∀ n, ¬ IsDay s n)
theorem parts_eq {a b c : List UInt8} (ha : a.length = 4) (hb : b.length = 2) (hc : c.length = 2) :
    ((((a ++ [45]) ++ b) ++ [45]) ++ c).length = 10 ∧ ((((a ++ [45]) ++ b) ++ [45]) ++ c).take 4 = a ∧ (((((a ++ [45]) ++ b) ++ [45]) ++ c).drop 5).take 2 = b ∧ (((((a ++ [45]) ++ b) ++ [45]) ++ c).drop 8).take 2 = c ∧ ((((a ++ [45]) ++ b) ++ [45]) ++ c).getD 4 0 = 45 ∧ ((((a ++ [45]) ++ b) ++ [45]) ++ c).getD 7 0 = 45 := by
  obtain ⟨a0, a1, a2, a3, rfl⟩ : ∃ a0 a1 a2 a3, a = [a0, a1, a2, a3] := by
    match a, ha with
    | [a0, a1, a2, a3], _ => exact ⟨a0, a1, a2, a3, rfl⟩
  obtain ⟨b0, b1, rfl⟩ : ∃ b0 b1, b = [b0, b1] := by
    match b, hb with
    | [b0, b1], _ => exact ⟨b0, b1, rfl⟩
  obtain ⟨c0, c1, rfl⟩ : ∃ c0 c1, c = [c0, c1] := by
    match c, hc with
    | [c0, c1], _ => exact ⟨c0, c1, rfl⟩
  exact ⟨rfl, rfl, rfl, rfl, rfl, rfl⟩
theorem of_parts {s : List UInt8} (h : s.length = 10) (h4 : s.getD 4 0 = 45) (h7 : s.getD 7 0 = 45) : s = ((((s.take 4 ++ [45]) ++ (s.drop 5).take 2) ++ [45]) ++ (s.drop 8).take 2) := by
  match s, h with
  | [a0, a1, a2, a3, a4, b0, b1, b2, c0, c1], _ =>
    have e4 : a4 = 45 := h4
    have e7 : b2 = 45 := h7
    subst e4; subst e7; rfl
theorem pads {n K d : Int} (h : At n K d) : (padL (K / 12).toNat 4).length = 4 ∧ (padL (K % 12 + 1).toNat 2).length = 2 ∧ (padL d.toNat 2).length = 2 := by
  obtain ⟨h1, h2, h3, h4, hn⟩ := id h
  have hm := ml_bd K
  exact ⟨padL_len (by decide) (by omega), padL_len (by decide) (by omega), padL_len (by decide) (by omega)⟩
theorem dayT_parts {n K d : Int} (h : At n K d) : (dayT (K / 12) (K % 12 + 1) d).length = 10 ∧ (dayT (K / 12) (K % 12 + 1) d).take 4 = padL (K / 12).toNat 4 ∧ ((dayT (K / 12) (K % 12 + 1) d).drop 5).take 2 = padL (K % 12 + 1).toNat 2 ∧ ((dayT (K / 12) (K % 12 + 1) d).drop 8).take 2 = padL d.toNat 2 ∧ (dayT (K / 12) (K % 12 + 1) d).getD 4 0 = 45 ∧ (dayT (K / 12) (K % 12 + 1) d).getD 7 0 = 45 := by
  obtain ⟨p, q, r⟩ := pads h
  unfold dayT
  exact parts_eq p q r
theorem IsDay.uniq {s : List UInt8} {n n' : Int} (h : IsDay s n) (h' : IsDay s n') : n = n' := by
  obtain ⟨K, d, a, rfl⟩ := h
  obtain ⟨K', d', a', e⟩ := h'
  obtain ⟨_, p, q, r, _⟩ := dayT_parts a
  obtain ⟨_, p', q', r', _⟩ := dayT_parts a'
  rw [e] at p q r
  have e1 := congrArg dval (p.symm.trans p')
  have e2 := congrArg dval (q.symm.trans q')
  have e3 := congrArg dval (r.symm.trans r')
  rw [padL_dval, padL_dval] at e1 e2 e3
  obtain ⟨h1, h2, h3, h4, hn⟩ := a
  obtain ⟨h1', h2', h3', h4', hn'⟩ := a'
  have eK : K = K' := by omega
  subst eK
  omega
theorem ToldD.uniq {s : List UInt8} {r r' : Int × Bool} (h : ToldD s r) (h' : ToldD s r') : r = r' := by
  obtain ⟨a, c⟩ := r
  obtain ⟨a', c'⟩ := r'
  rcases h with ⟨h1, _, _, h2⟩ | ⟨h1, h2⟩ <;> rcases h' with ⟨h1', _, _, h2'⟩ | ⟨h1', h2'⟩
  · have e := h2.uniq h2'
    simp only at *
    rw [e, h1, h1']
  · exact absurd h2 (h2' _)
  · exact absurd h2' (h2 _)
  · rw [h1, h1']
theorem dof_day {y m d : Int} (h : dof y m d ≠ 0) : ∃ K, At (dof y m d) K d ∧ K / 12 = y ∧ K % 12 + 1 = m := by
  unfold dof at h ⊢
  split at h
  · rename_i ho
    obtain ⟨⟨h1, h2, h3, h4⟩, h5, h6⟩ := id ho
    rw [if_pos ho]
    exact ⟨12 * y + m - 1, at_ym h1 h2 h3 h4 h5 h6, by omega, by omega⟩
  · exact absurd rfl h
theorem dof_of {n K d : Int} (h : At n K d) : dof (K / 12) (K % 12 + 1) d = n := by
  obtain ⟨h1, h2, h3, h4, hn⟩ := h
  rw [dof_at h1 h2 h3 h4, hn]
def figV (l : List UInt8) : Int := if Digs l then (dval l : Int) else -1
theorem figs_l0 (s : List UInt8) (hs : s.length ≤ 1000) (a n : Nat) (hn : a + n ≤ s.length) (h9 : n ≤ 9) : ∀ (d k i : Nat), n - i ≤ d → i ≤ n → d < k → Digs ((s.drop a).take i) →
    spec_l3Figs.l0 k (str s) (a : Int) (n : Int) (dval ((s.drop a).take i) : Int) ((a + i : Nat) : Int) = some (if Digs ((s.drop a).take n) then (dval ((s.drop a).take n) : Int) else -1) := by
  intro d
  induction d with
  | zero =>
    intro k i hd hi hk hD
    obtain ⟨k, rfl⟩ : ∃ j, k = j + 1 := ⟨k - 1, by omega⟩
    have e : i = n := by omega
    subst e
    rw [spec_l3Figs.l0, w64 (by omega) (by omega), if_neg (by omega), if_pos hD]
  | succ d ih =>
    intro k i hd hi hk hD
    by_cases hlt : i < n
    · obtain ⟨k, rfl⟩ : ∃ j, k = j + 1 := ⟨k - 1, by omega⟩
      have hb := UInt8.toNat_lt (s.getD (a + i) 0)
      have hget : (s.drop a)[i]? = some (s.getD (a + i) 0) := by
        rw [List.getElem?_drop]; exact getD_get (by omega)
      have hil : i < (s.drop a).length := by rw [List.length_drop]; omega
      have htk : (s.drop a).take (i + 1) = (s.drop a).take i ++ [s.getD (a + i) 0] := by
        rw [List.take_succ_eq_append_getElem hil]
        congr 2
        have := List.getElem?_eq_getElem hil
        rw [hget] at this
        exact (Option.some.inj this).symm
      have bad : ¬ IsD (s.getD (a + i) 0) → ¬ Digs ((s.drop a).take n) := fun h hd2 => h (hd2 _ (by
        have : ((s.drop a).take n)[i]? = some (s.getD (a + i) 0) := by rw [List.getElem?_take_of_lt hlt]; exact hget
        exact List.mem_of_getElem? this))
      rw [spec_l3Figs.l0, w64 (x := (a : Int) + (n : Int)) (by omega) (by omega), if_pos (by omega), str_size, if_neg (by omega), if_pos (by omega), if_pos (by omega), str_btD s (by omega) (by omega), Int.toNat_natCast]
      by_cases h1 : ((s.getD (a + i) 0).toNat : Int) < 48
      · rw [if_pos h1, if_neg (bad (by unfold IsD; omega))]
      · rw [if_neg h1]
        by_cases h2 : ((s.getD (a + i) 0).toNat : Int) > 57
        · rw [if_pos h2, if_neg (bad (by unfold IsD; omega))]
        · rw [if_neg h2]
          have hv := dval_lt hD
          rw [List.length_take, Nat.min_eq_left (by omega)] at hv
          have h10 : 10 ^ i ≤ 10 ^ 9 := Nat.pow_le_pow_right (by decide) (by omega)
          have e9 : 10 ^ 9 = 1000000000 := by decide
          rw [w64 (x := (dval ((s.drop a).take i) : Int) * 10) (by omega) (by omega), w64 (x := ((a + i : Nat) : Int) + 1) (by omega) (by omega), w64 (by omega) (by omega)]
          have e : ((dval ((s.drop a).take i) : Int) * 10 + (((s.getD (a + i) 0).toNat : Int) - 48) % 256) = (dval ((s.drop a).take (i + 1)) : Int) := by
            rw [htk, dval_snoc]
            omega
          rw [e, show (((a + i : Nat) : Int) + 1) = ((a + (i + 1) : Nat) : Int) from by omega]
          refine ih k (i + 1) (by omega) (by omega) (by omega) ?_
          rw [htk]
          exact hD.append (fun b hb => by rw [List.mem_singleton.1 hb]; unfold IsD; omega)
    · exact ih k i (by omega) hi (by omega) hD
theorem figs_eq (s : List UInt8) (hs : s.length ≤ 1000) (a n : Nat) (hn : a + n ≤ s.length) (h9 : n ≤ 9) (k : Nat) (hk : 11 ≤ k) : spec_l3Figs.f k (str s) (a : Int) (n : Int) = some (figV ((s.drop a).take n)) := by
  have := figs_l0 s hs a n hn h9 n k 0 (by omega) (by omega) (by omega) (by rw [List.take_zero]; exact Digs.nil)
  rw [List.take_zero, dval_nil, Nat.add_zero] at this
  unfold spec_l3Figs.f figV
  exact this
theorem specOf_eq (k : Nat) (y m d : Int) : spec_DayOf.f (k + 12) y m d = some (dof y m d) := by
  unfold spec_DayOf.f spec_l1In.f dof
  by_cases hq : okYM y m
  · obtain ⟨h1, h2, h3, h4⟩ := hq
    have hl := ld_bd y m
    rw [if_pos (show y ≥ 1 from h1)]
    simp only [bS]
    rw [if_pos (decide_eq_true h2), if_pos (show m ≥ 1 from h3)]
    simp only [bS]
    rw [if_pos (decide_eq_true h4), specLast_eq (by omega)]
    simp only [bS]
    by_cases h5 : d < 1
    · rw [if_pos h5, if_neg (by unfold okD; omega)]
    · rw [if_neg h5]
      by_cases h6 : d > ld y m
      · rw [if_pos h6, if_neg (by unfold okD; omega)]
      · rw [if_neg h6, if_pos (show okD y m d from ⟨⟨h1, h2, h3, h4⟩, by omega, by omega⟩), specL3Of_eq k h1 h2 h3 h4 (by omega) (by omega)]
        simp only [bS]
  · rw [if_neg (show ¬ okD y m d from fun h => hq h.1)]
    unfold okYM at hq
    by_cases hy1 : y ≥ 1 <;> by_cases hy2 : y ≤ 9999 <;> by_cases hm1 : m ≥ 1 <;> by_cases hm2 : m ≤ 12 <;> simp [hy1, hy2, hm1, hm2] <;> omega
theorem specOf_ge {k : Nat} (h : 12 ≤ k) (y m d : Int) : spec_DayOf.f k y m d = some (dof y m d) := by
  obtain ⟨j, rfl⟩ : ∃ j, k = j + 12 := ⟨k - 12, by omega⟩
  exact specOf_eq j y m d
theorem not_day_len {s : List UInt8} (h : s.length ≠ 10) (n : Int) : ¬ IsDay s n := by
  rintro ⟨K, d, a, rfl⟩
  exact h (dayT_parts a).1
theorem not_day_4 {s : List UInt8} (h : s.getD 4 0 ≠ 45) (n : Int) : ¬ IsDay s n := by
  rintro ⟨K, d, a, rfl⟩
  exact h (dayT_parts a).2.2.2.2.1
theorem not_day_7 {s : List UInt8} (h : s.getD 7 0 ≠ 45) (n : Int) : ¬ IsDay s n := by
  rintro ⟨K, d, a, rfl⟩
  exact h (dayT_parts a).2.2.2.2.2
theorem bt_45 {l : List UInt8} {i : Int} (h0 : 0 ≤ i) (h : i < l.length) : (bt (str l) i = 45) ↔ l.getD i.toNat 0 = 45 := by
  rw [str_btD l h0 h]
  constructor
  · intro e; exact UInt8.toNat_inj.1 (show (l.getD i.toNat 0).toNat = (45 : UInt8).toNat by have : (45 : UInt8).toNat = 45 := rfl; omega)
  · intro e; rw [e]; rfl
theorem digs_of_pos {l : List UInt8} (h : 1 ≤ figV l) : Digs l ∧ figV l = (dval l : Int) := by
  unfold figV at h ⊢
  split at h
  · rename_i hd; rw [if_pos hd]; exact ⟨hd, rfl⟩
  · omega
theorem figV_pad (n w : Nat) : figV (padL n w) = (n : Int) := by unfold figV; rw [if_pos (padL_digs n w), padL_dval]
theorem specDayGet (s : List UInt8) : ∃ r, (∀ k, 30 ≤ k → spec_DayGet.f k (str s) = some r) ∧ ToldD s r := by
  by_cases h : s.length = 10
  · by_cases h4 : s.getD 4 0 = 45
    · by_cases h7 : s.getD 7 0 = 45
      · refine ⟨(dof (figV (s.take 4)) (figV ((s.drop 5).take 2)) (figV ((s.drop 8).take 2)), decide (dof (figV (s.take 4)) (figV ((s.drop 5).take 2)) (figV ((s.drop 8).take 2)) > 0)), fun k hk => ?_, ?_⟩
        · obtain ⟨k, rfl⟩ : ∃ j, k = j + 1 := ⟨k - 1, by omega⟩
          unfold spec_DayGet.f spec_l3Get.f
          rw [str_size, if_pos (by omega), if_pos (by omega), if_pos ((bt_45 (by omega) (by omega)).2 h4), if_pos (by omega), (bt_45 (i := 7) (by omega) (by omega)).2 h7, spec_l3Get.j0, if_neg (by decide)]
          have f1 := figs_eq s (by omega) 0 4 (by omega) (by omega) k (by omega)
          have f2 := figs_eq s (by omega) 5 2 (by omega) (by omega) k (by omega)
          have f3 := figs_eq s (by omega) 8 2 (by omega) (by omega) k (by omega)
          rw [List.drop_zero] at f1
          rw [show spec_l3Figs.f k (str s) 0 4 = _ from f1]; simp only [bS]
          rw [show spec_l3Figs.f k (str s) 5 2 = _ from f2]; simp only [bS]
          rw [show spec_l3Figs.f k (str s) 8 2 = _ from f3]; simp only [bS]
          rw [specOf_ge (by omega)]; simp only [bS]
        · by_cases h0 : dof (figV (s.take 4)) (figV ((s.drop 5).take 2)) (figV ((s.drop 8).take 2)) = 0
          · right
            rw [h0]
            refine ⟨rfl, ?_⟩
            rintro n ⟨K, d, a, e⟩
            obtain ⟨_, p, q, r, _⟩ := dayT_parts a
            rw [← e] at p q r
            rw [p, q, r, figV_pad, figV_pad, figV_pad] at h0
            obtain ⟨a1, a2, a3, a4, a5⟩ := id a
            have hb := a.bd
            rw [show (((K / 12).toNat : Nat) : Int) = K / 12 by omega, show (((K % 12 + 1).toNat : Nat) : Int) = K % 12 + 1 by omega, show ((d.toNat : Nat) : Int) = d by omega, dof_of a] at h0
            omega
          · left
            obtain ⟨K, a, e1, e2⟩ := dof_day h0
            have hb := a.bd
            obtain ⟨a1, a2, a3, a4, a5⟩ := id a
            refine ⟨decide_eq_true (by omega), hb.1, hb.2, K, _, a, ?_⟩
            obtain ⟨d1, v1⟩ := digs_of_pos (l := s.take 4) (by omega)
            obtain ⟨d2, v2⟩ := digs_of_pos (l := (s.drop 5).take 2) (by omega)
            obtain ⟨d3, v3⟩ := digs_of_pos (l := (s.drop 8).take 2) (by omega)
            rw [e1, e2, v1, v2, v3]
            have p1 := padL_of d1 (by rw [List.length_take]; omega)
            have p2 := padL_of d2 (by rw [List.length_take, List.length_drop]; omega)
            have p3 := padL_of d3 (by rw [List.length_take, List.length_drop]; omega)
            rw [show (s.take 4).length = 4 by rw [List.length_take]; omega] at p1
            rw [show ((s.drop 5).take 2).length = 2 by rw [List.length_take, List.length_drop]; omega] at p2
            rw [show ((s.drop 8).take 2).length = 2 by rw [List.length_take, List.length_drop]; omega] at p3
            unfold dayT
            rw [Int.toNat_natCast, Int.toNat_natCast, Int.toNat_natCast, p1, p2, p3]
            exact of_parts h h4 h7
      · refine ⟨(0, false), fun k hk => ?_, .inr ⟨rfl, not_day_7 h7⟩⟩
        obtain ⟨k, rfl⟩ : ∃ j, k = j + 1 := ⟨k - 1, by omega⟩
        unfold spec_DayGet.f spec_l3Get.f
        have hne : (bt (str s) 7 != 45) = true := by rw [bne_iff_ne]; exact fun e => h7 ((bt_45 (by omega) (by omega)).1 e)
        rw [str_size, if_pos (by omega), if_pos (by omega), if_pos ((bt_45 (by omega) (by omega)).2 h4), if_pos (by omega), hne, spec_l3Get.j0, if_pos rfl]
        rfl
    · refine ⟨(0, false), fun k hk => ?_, .inr ⟨rfl, not_day_4 h4⟩⟩
      obtain ⟨k, rfl⟩ : ∃ j, k = j + 1 := ⟨k - 1, by omega⟩
      unfold spec_DayGet.f spec_l3Get.f
      rw [str_size, if_pos (by omega), if_pos (by omega), if_neg (fun e => h4 ((bt_45 (by omega) (by omega)).1 e)), spec_l3Get.j0, if_pos rfl]
      rfl
  · refine ⟨(0, false), fun k hk => ?_, .inr ⟨rfl, not_day_len h⟩⟩
    obtain ⟨k, rfl⟩ : ∃ j, k = j + 1 := ⟨k - 1, by omega⟩
    unfold spec_DayGet.f spec_l3Get.f
    rw [str_size, if_neg (by omega), spec_l3Get.j0, if_pos rfl]
    rfl
theorem split_at {a r : List UInt8} (h : (45 : UInt8) ∉ a) : splitB (str [45]) 0 (countB (str (a ++ 45 :: r)) (str [45])) (str (a ++ 45 :: r)) = str a :: splitB (str [45]) 0 (countB (str r) (str [45])) (str r) := by
  have hi : indexB (str (a ++ 45 :: r)) (str [45]) = (a.length : Nat) := by
    show index (str (a ++ 45 :: r)).data.toList (str [45]).data.toList = _
    rw [str_data, str_data]
    refine index_hit (fun j hj => ?_) (by simp) ?_
    · apply Bool.eq_false_iff.2
      intro ho
      rw [occ_one, List.getElem?_append_left hj] at ho
      exact h (List.mem_of_getElem? ho)
    · rw [occ_one, List.getElem?_append_right (Nat.le_refl _), Nat.sub_self]; rfl
  have he : (str (a ++ 45 :: r)).extract (a.length + (str [45]).size) (str (a ++ 45 :: r)).size = str r := by
    rw [str_extract, str_size, str_size]
    congr 1
    rw [List.length_singleton, List.length_append, List.length_cons, show a ++ 45 :: r = (a ++ [45]) ++ r by simp, show a.length + 1 = (a ++ [45]).length by simp, List.drop_left, List.take_of_length_le]
    simp; omega
  rw [countB_hit _ _ a.length (by rw [str_size]; decide) hi, he, Nat.add_comm 1, splitB_hit _ _ _ _ _ hi, he]
  congr 1
  rw [str_extract]
  simp
theorem split_end {a : List UInt8} (h : (45 : UInt8) ∉ a) : splitB (str [45]) 0 (countB (str a) (str [45])) (str a) = [str a] := by
  refine splitB_miss _ _ _ _ ?_
  show index (str a).data.toList (str [45]).data.toList = _
  rw [str_data, str_data]
  refine index_none (fun j hj => ?_)
  apply Bool.eq_false_iff.2
  intro ho
  rw [occ_one] at ho
  exact h (List.mem_of_getElem? ho)
theorem split_sizes (sep : ByteArray) : ∀ (k : Nat) (s x : ByteArray), x ∈ splitB sep 0 k s → x.size ≤ s.size
  | 0, s, x, h => by rw [splitB_zero, List.mem_singleton] at h; rw [h]; exact Nat.le_refl _
  | k + 1, s, x, h => by
    unfold splitB at h
    split at h
    · rw [List.mem_singleton] at h; rw [h]; exact Nat.le_refl _
    · rcases List.mem_cons.1 h with h | h
      · rw [h, ByteArray.size_extract]; omega
      · have := split_sizes sep k _ x h
        rw [ByteArray.size_extract] at this
        omega
theorem no_dash {l : List UInt8} (h : Digs l) : (45 : UInt8) ∉ l := fun hm => by have := h 45 hm; unfold IsD at this; have e : (45 : UInt8).toNat = 45 := rfl; omega
theorem atoiV_pad {n w : Nat} (hl : (padL n w).length ≤ 18) (h0 : (padL n w).length ≠ 0) : atoiV (padL n w) = (n : Int) := by
  unfold atoiV
  rw [atoiAll_digs (padL_digs n w) (by intro e; rw [e] at h0; exact h0 rfl) hl, padL_dval]
theorem implDayGet (s : List UInt8) (hs : s.length ≤ 4000000000) : ∃ r, (∀ k, 11010 ≤ k → impl_DayGet.f k (str s) = some r) ∧ ToldD s r := by
  have sp : lib_Split.f (str s) (⟨#[45]⟩ : ByteArray) = some (splitB (str [45]) 0 (countB (str s) (str [45])) (str s)) := by
    unfold lib_Split.f
    rw [show (⟨#[45]⟩ : ByteArray) = str [45] from rfl, if_pos ⟨by rw [str_size]; omega, by rw [str_size]; decide⟩]
  by_cases hy : ∃ n, IsDay s n
  · obtain ⟨n, K, d, a, e⟩ := id hy
    obtain ⟨p1, p2, p3⟩ := pads a
    have hb := a.bd
    obtain ⟨a1, a2, a3, a4, a5⟩ := id a
    refine ⟨(n, true), fun k hk => ?_, .inl ⟨rfl, hb.1, hb.2, K, d, a, e⟩⟩
    obtain ⟨k, rfl⟩ : ∃ j, k = j + 1 := ⟨k - 1, by omega⟩
    have hl : s.length = 10 := by rw [e]; exact (dayT_parts a).1
    have e2 : s = padL (K / 12).toNat 4 ++ 45 :: (padL (K % 12 + 1).toNat 2 ++ 45 :: padL d.toNat 2) := by rw [e]; unfold dayT; simp
    have es : splitB (str [45]) 0 (countB (str s) (str [45])) (str s) = [str (padL (K / 12).toNat 4), str (padL (K % 12 + 1).toNat 2), str (padL d.toNat 2)] := by
      rw [e2, split_at (no_dash (padL_digs _ _)), split_at (no_dash (padL_digs _ _)), split_end (no_dash (padL_digs _ _))]
    unfold impl_DayGet.f
    rw [sp, es]; simp only [bS]
    rw [str_size, if_pos (by omega), show (([str (padL (K / 12).toNat 4), str (padL (K % 12 + 1).toNat 2), str (padL d.toNat 2)].length : Int) != 3) = false from rfl, impl_DayGet.j0, if_neg (by decide), if_pos (by simp)]
    rw [show rdOf ByteArray.empty [str (padL (K / 12).toNat 4), str (padL (K % 12 + 1).toNat 2), str (padL d.toNat 2)] 0 = str (padL (K / 12).toNat 4) from rfl, show rdOf ByteArray.empty [str (padL (K / 12).toNat 4), str (padL (K % 12 + 1).toNat 2), str (padL d.toNat 2)] 1 = str (padL (K % 12 + 1).toNat 2) from rfl, show rdOf ByteArray.empty [str (padL (K / 12).toNat 4), str (padL (K % 12 + 1).toNat 2), str (padL d.toNat 2)] 2 = str (padL d.toNat 2) from rfl]
    have hA : ∀ l : List UInt8, l.length ≤ 100 → lib_Atoi.f (str l) = some (atoiV l, true) := fun l h => by
      unfold lib_Atoi.f
      rw [if_pos (by rw [str_size]; omega), str_data]
    rw [hA _ (by omega)]; simp only [bS]
    rw [if_pos (by simp), hA _ (by omega)]; simp only [bS]
    rw [if_pos (by simp), hA _ (by omega)]; simp only [bS]
    rw [atoiV_pad (by omega) (by omega), atoiV_pad (by omega) (by omega), atoiV_pad (by omega) (by omega)]
    rw [show (((K / 12).toNat : Nat) : Int) = K / 12 by omega, show (((K % 12 + 1).toNat : Nat) : Int) = K % 12 + 1 by omega, show ((d.toNat : Nat) : Int) = d by omega, implOf_ge (by omega), dof_of a]; simp only [bS]
    rw [if_neg (by omega), implDayPut a k (by omega)]; simp only [bS]
    rw [← e, if_pos rfl]
  · have no : ∀ n, ¬ IsDay s n := fun n h => hy ⟨n, h⟩
    refine ⟨(0, false), fun k hk => ?_, .inr ⟨rfl, no⟩⟩
    obtain ⟨k, rfl⟩ : ∃ j, k = j + 1 := ⟨k - 1, by omega⟩
    unfold impl_DayGet.f
    rw [sp]; simp only [bS]
    have sz := split_sizes (str [45]) (countB (str s) (str [45])) (str s)
    rw [str_size] at sz
    generalize splitB (str [45]) 0 (countB (str s) (str [45])) (str s) = L at *
    rw [str_size]
    by_cases hl : (s.length : Int) = 10
    · rw [if_pos hl, impl_DayGet.j0]
      by_cases h3 : ((L.length : Int) != 3) = true
      · rw [if_pos h3]
      · rw [if_neg h3]
        have h3' : L.length = 3 := by
          have : ¬ ((L.length : Int) ≠ 3) := fun hne => h3 (bne_iff_ne.2 hne)
          omega
        match L, h3' with
        | [x, y, z], _ =>
          have sx := sz x (by simp)
          have sy := sz y (by simp)
          have sw := sz z (by simp)
          rw [if_pos (by simp)]
          rw [show rdOf ByteArray.empty [x, y, z] 0 = x from rfl, show rdOf ByteArray.empty [x, y, z] 1 = y from rfl, show rdOf ByteArray.empty [x, y, z] 2 = z from rfl]
          unfold lib_Atoi.f
          rw [if_pos (by omega)]; simp only [bS]
          rw [if_pos (by simp), if_pos (by omega)]; simp only [bS]
          rw [if_pos (by simp), if_pos (by omega)]; simp only [bS]
          rw [implOf_ge (by omega)]; simp only [bS]
          by_cases h0 : dof (atoiV x.data.toList) (atoiV y.data.toList) (atoiV z.data.toList) = 0
          · rw [if_pos h0]
          · rw [if_neg h0]
            obtain ⟨K, a, e1, e2⟩ := dof_day h0
            rw [implDayPut a k (by omega)]; simp only [bS]
            rw [if_neg]
            rw [str_toList, str_toList]
            exact fun e => no _ ⟨K, _, a, e.symm⟩
    · rw [if_neg hl, impl_DayGet.j0, if_pos rfl]
end Go.Proofs.YtgeloncilhighaaDoor.Str
end
section
namespace Go.Proofs.YtgeloncilhighaaDoor.Drw
open Go.Lib Go.RowKit Go.Proofs.YtgeloncilhighaaDoor.Dec Go.Proofs.YtgeloncilhighaaDoor.Cal Go.Proofs.YtgeloncilhighaaDoor.Str Go.Proofs.YtgeloncilhighaaDoor.Pr Go.Proofs.YtgeloncilhighaaDoor.Ext Go.Proofs.YtgeloncilhighaaDoorW.PrintWords Go.Proofs.YtgeloncilhighaaDoorW.PrintLast Go.Proofs.YtgeloncilhighaaDoorW.PrintMore
set_option linter.unusedVariables false
set_option linter.unusedSimpArgs false
theorem num_bd {y m d : Int} (h1 : 1 ≤ y) (h2 : y ≤ 9999) (h3 : 1 ≤ m) (h4 : m ≤ 12) (h5 : 1 ≤ d) (h6 : d ≤ ld y m) : 1 ≤ num y m d ∧ num y m d ≤ 3652059 := (at_ym h1 h2 h3 h4 h5 h6).bd
theorem day_any {b : List Int} (hb : BytesOk b) {p : Int} (hp : 0 ≤ p) (hp' : p ≤ 900000) : ∃ n p', (∀ k, 12 ≤ k → spec_l14Day.f k b p = some (n, p')) ∧ p ≤ p' ∧ p' ≤ p + 10 ∧ 1 ≤ n ∧ n ≤ 3652059 := by
  obtain ⟨r, hr, r0, r6⟩ := pick_ge hb hp (by omega) (n := 6) (by omega)
  by_cases h0 : r = 0
  · obtain ⟨x, hx, mx⟩ := one_ge hb (p := p + 1) (by omega) (by omega) (l := [1, 2, 31, 59, 60, 3652059, 3652058, 366]) (by decide)
    simp only [List.mem_cons, List.not_mem_nil, or_false] at mx
    refine ⟨x, p + 1 + 1, fun k hk => ?_, by omega, by omega, by omega, by omega⟩
    unfold spec_l14Day.f
    rw [hr k (by omega)]; simp only [bS]
    rw [if_pos h0, hx k (by omega)]; simp only [bS]
  · by_cases h1 : r = 1
    · obtain ⟨y, hy, my⟩ := one_ge hb (p := p + 1) (by omega) (by omega) (l := [4, 1900, 2000, 2023, 2024, 2100, 9999]) (by decide)
      obtain ⟨m, hm, mm⟩ := one_ge hb (p := p + 1 + 1) (by omega) (by omega) (l := [1, 2, 2, 3, 12]) (by decide)
      simp only [List.mem_cons, List.not_mem_nil, or_false] at my mm
      have hbd := num_bd (y := y) (m := m) (d := 28) (by omega) (by omega) (by omega) (by omega) (by omega) (ld_bd y m).1
      refine ⟨num y m 28, p + 1 + 1 + 1, fun k hk => ?_, by omega, by omega, hbd.1, hbd.2⟩
      unfold spec_l14Day.f
      rw [hr k (by omega)]; simp only [bS]
      rw [if_neg h0, if_pos h1, hy k (by omega)]; simp only [bS]
      rw [hm k (by omega)]; simp only [bS]
      rw [specL3Of_ge hk (by omega) (by omega) (by omega) (by omega) (by omega) (by omega)]; simp only [bS]
    · by_cases h2 : r = 2
      · obtain ⟨y, hy, my⟩ := one_ge hb (p := p + 1) (by omega) (by omega) (l := [4, 2000, 2024, 9996]) (by decide)
        simp only [List.mem_cons, List.not_mem_nil, or_false] at my
        have hbd := num_bd (y := y) (m := 2) (d := 29) (by omega) (by omega) (by omega) (by omega) (by omega) (by rcases my with rfl | rfl | rfl | rfl <;> decide)
        refine ⟨num y 2 29, p + 1 + 1, fun k hk => ?_, by omega, by omega, hbd.1, hbd.2⟩
        unfold spec_l14Day.f
        rw [hr k (by omega)]; simp only [bS]
        rw [if_neg h0, if_neg h1, if_pos h2, hy k (by omega)]; simp only [bS]
        rw [specL3Of_ge hk (by omega) (by omega) (by omega) (by omega) (by omega) (by omega)]; simp only [bS]
      · by_cases h3 : r = 3
        · obtain ⟨y, hy, my⟩ := one_ge hb (p := p + 1) (by omega) (by omega) (l := [1, 2023, 2024, 9999]) (by decide)
          obtain ⟨m, hm, mm⟩ := one_ge hb (p := p + 1 + 1) (by omega) (by omega) (l := [1, 3, 5, 8, 10, 12]) (by decide)
          simp only [List.mem_cons, List.not_mem_nil, or_false] at my mm
          have hbd := num_bd (y := y) (m := m) (d := 31) (by omega) (by omega) (by omega) (by omega) (by omega) (by unfold ld; rw [if_neg (by omega), if_neg (by omega), if_neg (by omega), if_neg (by omega), if_neg (by omega)]; exact Int.le_refl _)
          refine ⟨num y m 31, p + 1 + 1 + 1, fun k hk => ?_, by omega, by omega, hbd.1, hbd.2⟩
          unfold spec_l14Day.f
          rw [hr k (by omega)]; simp only [bS]
          rw [if_neg h0, if_neg h1, if_neg h2, if_pos h3, hy k (by omega)]; simp only [bS]
          rw [hm k (by omega)]; simp only [bS]
          rw [specL3Of_ge hk (by omega) (by omega) (by omega) (by omega) (by omega) (by omega)]; simp only [bS]
        · obtain ⟨a, ha, a0, a1⟩ := pick_ge hb (p := p + 1) (by omega) (by omega) (n := 8) (by omega)
          obtain ⟨c, hc, c0, c1⟩ := pick_ge hb (p := p + 1 + 1) (by omega) (by omega) (n := 12) (by omega)
          obtain ⟨e, he, e0, e1⟩ := pick_ge hb (p := p + 1 + 1 + 1) (by omega) (by omega) (n := 28) (by omega)
          have hbd := num_bd (y := 2020 + a) (m := 1 + c) (d := 1 + e) (by omega) (by omega) (by omega) (by omega) (by omega) (by have := (ld_bd (2020 + a) (1 + c)).1; omega)
          refine ⟨num (2020 + a) (1 + c) (1 + e), p + 1 + 1 + 1 + 1, fun k hk => ?_, by omega, by omega, hbd.1, hbd.2⟩
          unfold spec_l14Day.f
          rw [hr k (by omega)]; simp only [bS]
          rw [if_neg h0, if_neg h1, if_neg h2, if_neg h3, ha k (by omega)]; simp only [bS]
          rw [hc k (by omega)]; simp only [bS]
          rw [he k (by omega)]; simp only [bS]
          rw [Str.w64 (x := 2020 + a) (by omega) (by omega), Str.w64 (x := 1 + c) (by omega) (by omega), Str.w64 (x := 1 + e) (by omega) (by omega), specL3Of_ge hk (by omega) (by omega) (by omega) (by omega) (by omega) (by omega)]
          simp only [bS]
theorem drawDayGet_any {l : List Int} (hl : ∀ x ∈ l, (Lit.int .u8 x).wf = true) : ∃ s, (∀ k, 11000 ≤ k → spec_DrawDayGet.f k l = some (str s)) ∧ s.length ≤ 1000 := by
  obtain ⟨b, hb, hB⟩ := open_any hl
  obtain ⟨r, hr, _, _⟩ := pick_ge hB (p := 0) (by omega) (by omega) (n := 8) (by omega)
  by_cases h0 : r = 0
  · obtain ⟨v, hv, v1⟩ := of_any hB (p := 0 + 1) (by omega) (by omega) (l := [(⟨#[]⟩ : ByteArray), (⟨#[50, 48, 50, 51, 45, 48, 50, 45, 50, 57]⟩ : ByteArray), (⟨#[48, 48, 48, 48, 45, 48, 49, 45, 48, 49]⟩ : ByteArray), (⟨#[50, 48, 50, 52, 45, 49, 51, 45, 48, 49]⟩ : ByteArray), (⟨#[50, 48, 50, 52, 45, 49, 45, 49]⟩ : ByteArray), (⟨#[49, 48, 48, 48, 48, 45, 48, 49, 45, 48, 49]⟩ : ByteArray), (⟨#[50, 48, 50, 52, 45, 48, 50, 45, 51, 48]⟩ : ByteArray)]) (by simp) 11 (by decide)
    refine ⟨v, fun k hk => ?_, by omega⟩
    unfold spec_DrawDayGet.f
    rw [hb]; simp only [bS]
    rw [hr k (by omega)]; simp only [bS]
    rw [if_pos h0, hv k (by omega)]; simp only [bS]
  · obtain ⟨n, q, hs, q1, q2, n1, n2⟩ := day_any hB (p := 0 + 1) (by omega) (by omega)
    obtain ⟨K, d, hA⟩ := exists_at n1 n2
    obtain ⟨v, p', hv, v1⟩ := bent_any hB (p := q) (by omega) (by omega) (dayT (K / 12) (K % 12 + 1) d) (by rw [(dayT_parts hA).1]; omega)
    refine ⟨v, fun k hk => ?_, by rw [(dayT_parts hA).1] at v1; omega⟩
    unfold spec_DrawDayGet.f
    rw [hb]; simp only [bS]
    rw [hr k (by omega)]; simp only [bS]
    rw [if_neg h0, hs k (by omega)]; simp only [bS]
    rw [specL3Put hA k (by omega)]; simp only [bS]
    rw [hv k (by omega)]; simp only [bS]
end Go.Proofs.YtgeloncilhighaaDoor.Drw
end
section
namespace Go.Proofs.YtgeloncilhighaaDoor.Pure
open Go.RowKit Go.Proofs.YtgeloncilhighaaDoor.Pr Go.Proofs.YtgeloncilhighaaDoor.Ext Go.Proofs.YtgeloncilhighaaDoor.Str Go.Proofs.YtgeloncilhighaaDoor.Drw Go.Proofs.YtgeloncilhighaaDoorW.PrintWords Go.Proofs.YtgeloncilhighaaDoorW.PrintLast Go.Proofs.YtgeloncilhighaaDoorW.PrintMore
set_option linter.unusedVariables false
set_option linter.unusedSimpArgs false
theorem FnDayGet {l : List Int} (hl : ∀ x ∈ l, (Lit.int .u8 x).wf = true) : laws_FnDayGet.f 11010 l = some true := by
  unfold laws_FnDayGet.f
  split
  · rfl
  · obtain ⟨s, hs, ls⟩ := drawDayGet_any hl
    obtain ⟨r, h1, t1⟩ := implDayGet s (by omega)
    obtain ⟨r', h2, t2⟩ := specDayGet s
    obtain rfl := t1.uniq t2
    rw [hs _ (by decide)]; simp only [bS]
    rw [h1 _ (by decide)]; simp only [bS]
    rw [h2 _ (by decide)]; simp only [bS]
    rw [if_neg (by simp), if_pos trivial]
    rcases t1 with ⟨e, _, _, K, d, hA, es⟩ | ⟨e, _⟩
    · rw [if_pos e, implDayPut hA _ (by decide)]; simp only [bS]
      rw [str_toList, str_toList, ← es]
      simp
    · rw [e, if_neg (by decide)]
      rfl
end Go.Proofs.YtgeloncilhighaaDoor.Pure
end
section
namespace Go.Proofs.YtgeloncilhighaaDoor.LaidE
open Go Go.RowKit Go.Proofs.YtgeloncilhighaaDoor.Ext
set_option linter.unusedVariables false
theorem powType : (Tryd.prog.globals[4]?).map (·.type) = some 123 := by kernel_rfl
theorem powData : (Rows.laid_internal_strconv_uint64pow10 : DataW Unit) = Lib.tabData .u64 Lib.pow10Tab := rfl
theorem envI_of {r : List (String × DataW Unit)} {W : World} (h : laidMet Tryd.prog (("internal/strconv.uint64pow10", Rows.laid_internal_strconv_uint64pow10) :: r) W) : EnvI W :=
  Lib.tabIs_of_head gPow powType Tryd.underlying123 Tryd.underlying102 (by kernel_rfl) (by kernel_rfl) (powData ▸ h)
theorem star : "*" ++ "errors.errorString" = "*errors.errorString" := by decide
theorem rowErr (u : TypeId) (h : Tryd.prog.typeName? 3 u = some "*errors.errorString") : u = 131 :=
  typeName_ptr_named (nm := "errors.errorString") (by rw [star]; kernel_rfl) (by kernel_rfl) (by decide) u (by rw [star]; exact h)
theorem gSyn : Tryd.prog.globalNamed "strconv.ErrSyntax" = some 2 := by kernel_rfl
theorem gRan : Tryd.prog.globalNamed "strconv.ErrRange" = some 3 := by kernel_rfl
theorem gSynType : (Tryd.prog.globals[2]?).map (·.type) = some 57 := by kernel_rfl
theorem gRanType : (Tryd.prog.globals[3]?).map (·.type) = some 57 := by kernel_rfl
theorem cellsE : Tryd.prog.cellsOf 133 = 1 := by kernel_rfl
theorem cellsS : Tryd.prog.cellsOf 9 = 1 := by kernel_rfl
theorem syn_of {r : List (String × DataW Unit)} {W : World} (h : laidMet Tryd.prog (("strconv.ErrSyntax", Rows.laid_strconv_ErrSyntax) :: r) W) : HoldsErr 2 W := by
  obtain ⟨a0, s0, hv0, -, -, -⟩ := laid_sentinel h gSyn gSynType Tryd.underlying57 rowErr Tryd.underlying131 Tryd.underlying133 rfl rfl Tryd.underlying9 cellsE cellsS
  exact ⟨_, by simpa using World.var?_cell gSyn hv0 0, .inr ⟨_, _, rfl⟩⟩
theorem ran_of {r : List (String × DataW Unit)} {W : World} (h : laidMet Tryd.prog (("strconv.ErrRange", Rows.laid_strconv_ErrRange) :: r) W) : HoldsErr 3 W := by
  obtain ⟨a0, s0, hv0, -, -, -⟩ := laid_sentinel h gRan gRanType Tryd.underlying57 rowErr Tryd.underlying131 Tryd.underlying133 rfl rfl Tryd.underlying9 cellsE cellsS
  exact ⟨_, by simpa using World.var?_cell gRan hv0 0, .inr ⟨_, _, rfl⟩⟩
theorem len_of {W : World} (h : W.ShapedOpen Tryd.prog) : ∃ m, W.cell? ⟨1, 0, none⟩ = some (.int .i64 m) :=
  cell_of_shapedOpen_int h (of_decide_eq_true (by kernel_rfl)) (t := 3) (zero := #[.int .i64 0]) (by kernel_rfl) rfl (by kernel_rfl) (by kernel_rfl) Tryd.underlying3
end Go.Proofs.YtgeloncilhighaaDoor.LaidE
end
