/- What the claim's row needs of the contracts and words below it, and no more. -/
import Derived.Test.YtdemeoncjcbojaaQSub5
section
namespace Go.Proofs.Ytdemeoncjcbojaa.Jt
def pw (n : Nat) : Int := 10000 ^ n
theorem pw_zero : pw 0 = 1 := rfl
theorem pw_succ (n : Nat) : pw (n + 1) = 10000 * pw n := by unfold pw; rw [Int.pow_succ]; omega
theorem pw_pos (n : Nat) : 1 ≤ pw n := by
  induction n with
  | zero => decide
  | succ n ih => rw [pw_succ]; omega
theorem pw_mono {m n : Nat} (h : m ≤ n) : pw m ≤ pw n := by
  obtain ⟨d, rfl⟩ := Nat.exists_eq_add_of_le h
  induction d with
  | zero => exact Int.le_refl _
  | succ d ih =>
    have h1 := ih (by omega)
    have h2 := pw_pos (m + d)
    rw [show m + (d + 1) = (m + d) + 1 from rfl, pw_succ]
    omega
def val : List Int → Int
  | [] => 0
  | x :: xs => x + 10000 * val xs
def Dig (l : List Int) : Prop := ∀ x ∈ l, 0 ≤ x ∧ x ≤ 9999
def Nz (l : List Int) : Prop := l.length = 0 ∨ l.getD (l.length - 1) 0 ≠ 0
theorem getD_lt {l : List Int} {i : Nat} (h : i < l.length) : l.getD i 0 = l[i] := by rw [List.getD_eq_getElem?_getD, List.getElem?_eq_getElem h]; rfl
theorem getD_ge {l : List Int} {i : Nat} (h : l.length ≤ i) : l.getD i 0 = 0 := by rw [List.getD_eq_getElem?_getD, List.getElem?_eq_none h]; rfl
theorem val_nil : val [] = 0 := rfl
theorem val_append (a b : List Int) : val (a ++ b) = val a + pw a.length * val b := by
  induction a with
  | nil => simp [val, pw_zero]
  | cons x xs ih => simp only [List.cons_append, val, ih, List.length_cons, pw_succ]; rw [Int.mul_add, Int.mul_assoc]; omega
theorem Dig.nil : Dig [] := fun x h => by cases h
theorem Dig.cons {x : Int} {xs : List Int} (h0 : 0 ≤ x) (h1 : x ≤ 9999) (h : Dig xs) : Dig (x :: xs) := by
  intro y hy
  rcases List.mem_cons.1 hy with rfl | hy
  · exact ⟨h0, h1⟩
  · exact h y hy
theorem Dig.head {x : Int} {xs : List Int} (h : Dig (x :: xs)) : 0 ≤ x ∧ x ≤ 9999 := h x (by simp)
theorem Dig.tail {x : Int} {xs : List Int} (h : Dig (x :: xs)) : Dig xs := fun y hy => h y (by simp [hy])
theorem Dig.take {l : List Int} (h : Dig l) (n : Nat) : Dig (l.take n) := fun x hx => h x (List.mem_of_mem_take hx)
theorem Dig.append {a b : List Int} (ha : Dig a) (hb : Dig b) : Dig (a ++ b) := by
  intro x hx
  rcases List.mem_append.1 hx with h | h
  · exact ha x h
  · exact hb x h
theorem Dig.getD {l : List Int} (h : Dig l) (i : Nat) : 0 ≤ l.getD i 0 ∧ l.getD i 0 ≤ 9999 := by
  by_cases hi : i < l.length
  · rw [getD_lt hi]; exact h _ (List.getElem_mem hi)
  · rw [getD_ge (by omega)]; omega
theorem dig_of_getD {l : List Int} (h : ∀ i, i < l.length → 0 ≤ l.getD i 0 ∧ l.getD i 0 ≤ 9999) : Dig l := by
  intro x hx
  obtain ⟨i, hi, rfl⟩ := List.getElem_of_mem hx
  have := h i hi
  rwa [getD_lt hi] at this
theorem val_nonneg {l : List Int} (h : Dig l) : 0 ≤ val l := by
  induction l with
  | nil => exact Int.le_refl _
  | cons x xs ih =>
    have h1 := ih h.tail
    have h2 := h.head
    simp only [val]; omega
theorem val_lt {l : List Int} (h : Dig l) : val l < pw l.length := by
  induction l with
  | nil => decide
  | cons x xs ih =>
    have h1 := ih h.tail
    have h2 := h.head
    simp only [val, List.length_cons, pw_succ]; omega
theorem val_set (l : List Int) : ∀ (i : Nat) (v : Int), i < l.length → val (l.set i v) = val l + pw i * (v - l.getD i 0) := by
  induction l with
  | nil => intro i v h; simp at h
  | cons x xs ih =>
    intro i v h
    cases i with
    | zero => simp only [List.set_cons_zero, val, List.getD_cons_zero, pw_zero]; omega
    | succ i =>
      simp only [List.set_cons_succ, val, List.getD_cons_succ, pw_succ]
      rw [ih i v (by simpa using h), Int.mul_add, Int.mul_assoc]
      omega
theorem getD_set (l : List Int) (i j : Nat) (v : Int) (h : i < l.length) : (l.set i v).getD j 0 = if j = i then v else l.getD j 0 := by
  by_cases hj : j = i
  · subst hj
    rw [if_pos rfl, List.getD_eq_getElem?_getD, List.getElem?_set_self h]; rfl
  · rw [if_neg hj, List.getD_eq_getElem?_getD, List.getElem?_set_ne (Ne.symm hj), List.getD_eq_getElem?_getD]
theorem val_split (l : List Int) {n : Nat} (h : n ≤ l.length) : val l = val (l.take n) + pw n * val (l.drop n) := by
  have := val_append (l.take n) (l.drop n)
  rw [List.take_append_drop, List.length_take, Nat.min_eq_left h] at this
  exact this
theorem drop_cons {l : List Int} {n : Nat} (h : n < l.length) : l.drop n = l.getD n 0 :: l.drop (n + 1) := by
  rw [List.drop_eq_getElem_cons h, getD_lt h]
theorem val_zeros {l : List Int} (h : ∀ i, i < l.length → l.getD i 0 = 0) : val l = 0 := by
  induction l with
  | nil => rfl
  | cons x xs ih =>
    have h0 := h 0 (by simp)
    have h1 := ih (fun i hi => by have := h (i + 1) (by simpa using hi); simpa using this)
    simp at h0
    simp only [val, h0, h1]; decide
theorem val_replicate (n : Nat) : val (List.replicate n 0) = 0 := val_zeros fun i hi => by
  rw [List.length_replicate] at hi
  rw [getD_lt (by simpa using hi), List.getElem_replicate]
theorem val_ge {l : List Int} (h : Dig l) (hz : Nz l) (hne : 0 < l.length) : pw (l.length - 1) ≤ val l := by
  have hs := val_split l (n := l.length - 1) (by omega)
  rw [drop_cons (by omega), show l.length - 1 + 1 = l.length from by omega, List.drop_length] at hs
  have h1 := val_nonneg (h.take (l.length - 1))
  have h2 := h.getD (l.length - 1)
  have h3 : l.getD (l.length - 1) 0 ≠ 0 := hz.resolve_left (by omega)
  have hp := pw_pos (l.length - 1)
  simp only [val] at hs
  have h4 : pw (l.length - 1) * 1 ≤ pw (l.length - 1) * (l.getD (l.length - 1) 0 + 10000 * 0) := Int.mul_le_mul_of_nonneg_left (by omega) (by omega)
  omega
theorem uniq {a : List Int} : ∀ {b : List Int}, Dig a → Dig b → Nz a → Nz b → val a = val b → a = b := by
  induction a with
  | nil =>
    intro b _ hb _ zb e
    cases b with
    | nil => rfl
    | cons y ys =>
      have := val_ge hb zb (by simp)
      have := pw_pos ((y :: ys).length - 1)
      rw [val_nil] at e
      omega
  | cons x xs ih =>
    intro b ha hb za zb e
    cases b with
    | nil =>
      have := val_ge ha za (by simp)
      have := pw_pos ((x :: xs).length - 1)
      rw [val_nil] at e
      omega
    | cons y ys =>
      have hx := ha.head
      have hy := hb.head
      simp only [val] at e
      have e1 : x = y := by omega
      have e2 : val xs = val ys := by omega
      have zt : ∀ {z : Int} {zs : List Int}, Nz (z :: zs) → Nz zs := by
        intro z zs h
        cases zs with
        | nil => left; rfl
        | cons u us =>
          right
          have h' := h.resolve_left (by simp)
          simpa using h'
      rw [e1, ih ha.tail hb.tail (zt za) (zt zb) e2]
def repN (n : Nat) : List Int := if h : n = 0 then [] else ((n % 10000 : Nat) : Int) :: repN (n / 10000)
termination_by n
decreasing_by omega
def rep (v : Int) : List Int := repN v.toNat
theorem repN_zero : repN 0 = [] := by rw [repN]; simp
theorem repN_pos {n : Nat} (h : n ≠ 0) : repN n = ((n % 10000 : Nat) : Int) :: repN (n / 10000) := by rw [repN]; simp [h]
theorem repN_ok (n : Nat) : Dig (repN n) ∧ val (repN n) = n ∧ Nz (repN n) := by
  induction n using Nat.strongRecOn with
  | ind n ih =>
    by_cases h : n = 0
    · subst h; rw [repN_zero]; exact ⟨Dig.nil, rfl, .inl rfl⟩
    · obtain ⟨h1, h2, h3⟩ := ih (n / 10000) (by omega)
      rw [repN_pos h]
      refine ⟨Dig.cons (by omega) (by omega) h1, by simp only [val, h2]; omega, .inr ?_⟩
      by_cases hq : n / 10000 = 0
      · rw [hq, repN_zero]; simp; omega
      · have hne : (repN (n / 10000)).length ≠ 0 := by rw [repN_pos hq]; simp
        have := h3.resolve_left hne
        rw [List.length_cons, show (repN (n / 10000)).length + 1 - 1 = ((repN (n / 10000)).length - 1) + 1 from by omega, List.getD_cons_succ]
        exact this
theorem rep_dig (v : Int) : Dig (rep v) := (repN_ok _).1
theorem rep_nz (v : Int) : Nz (rep v) := (repN_ok _).2.2
theorem rep_val {v : Int} (h : 0 ≤ v) : val (rep v) = v := by unfold rep; rw [(repN_ok _).2.1]; omega
theorem rep_of {l : List Int} (hd : Dig l) (hz : Nz l) : rep (val l) = l := uniq (rep_dig _) hd (rep_nz _) hz (rep_val (val_nonneg hd))
theorem is_rep {l : List Int} {v : Int} (hd : Dig l) (hz : Nz l) (hv : val l = v) : l = rep v := by rw [← hv, rep_of hd hz]
theorem rep_zero : rep 0 = [] := repN_zero
theorem rep_nil {v : Int} (h : 0 ≤ v) : rep v = [] ↔ v = 0 := by
  constructor
  · intro e
    have := rep_val h
    rw [e] at this
    exact this.symm
  · rintro rfl; exact rep_zero
theorem rep_len {v : Int} (h : 0 ≤ v) (n : Nat) : (rep v).length ≤ n ↔ v < pw n := by
  have hv := rep_val h
  have hl := val_lt (rep_dig v)
  constructor
  · intro hle
    have := pw_mono hle
    omega
  · intro hlt
    apply Nat.le_of_not_lt
    intro hgt
    have hg := val_ge (rep_dig v) (rep_nz v) (by omega)
    have := pw_mono (show n ≤ (rep v).length - 1 by omega)
    omega
def TrimOf (l r : List Int) : Prop := ∃ n, n ≤ l.length ∧ r = l.take n ∧ (∀ j, n ≤ j → j < l.length → l.getD j 0 = 0) ∧ (0 < n → l.getD (n - 1) 0 ≠ 0)
theorem TrimOf.dig {l r : List Int} (h : TrimOf l r) (hd : Dig l) : Dig r := by obtain ⟨n, _, rfl, _, _⟩ := h; exact hd.take n
theorem TrimOf.val {l r : List Int} (h : TrimOf l r) : Jt.val r = Jt.val l := by
  obtain ⟨n, hn, rfl, hz, _⟩ := h
  have hs := val_split l hn
  have : Jt.val (l.drop n) = 0 := val_zeros fun i hi => by
    rw [List.length_drop] at hi
    have := hz (n + i) (by omega) (by omega)
    rw [List.getD_eq_getElem?_getD] at this ⊢
    rw [List.getElem?_drop]; exact this
  rw [this] at hs
  omega
theorem getD_take (l : List Int) {i n : Nat} (h : i < n) : (l.take n).getD i 0 = l.getD i 0 := by
  rw [List.getD_eq_getElem?_getD, List.getD_eq_getElem?_getD, List.getElem?_take_of_lt h]
theorem TrimOf.nz {l r : List Int} (h : TrimOf l r) : Nz r := by
  obtain ⟨n, hn, rfl, _, hlast⟩ := h
  by_cases h0 : n = 0
  · left; simp [h0]
  · right
    rw [List.length_take, Nat.min_eq_left hn, getD_take l (by omega)]
    exact hlast (by omega)
theorem TrimOf.rep {l r : List Int} (h : TrimOf l r) (hd : Dig l) {v : Int} (hv : Jt.val l = v) : r = Jt.rep v := is_rep (h.dig hd) h.nz (h.val.trans hv)
theorem TrimOf.len {l r : List Int} (h : TrimOf l r) : r.length ≤ l.length := by obtain ⟨n, hn, rfl, _, _⟩ := h; rw [List.length_take]; omega
theorem val_lt_of_len {a b : List Int} (ha : Dig a) (hb : Dig b) (zb : Nz b) (h : a.length < b.length) : val a < val b := by
  have h1 := val_lt ha
  have h2 := val_ge hb zb (by omega)
  have := pw_mono (show a.length ≤ b.length - 1 by omega)
  omega
theorem val_lt_at {a b : List Int} (ha : Dig a) (hb : Dig b) {i : Nat} (h1 : i < a.length) (h2 : i < b.length) (hd : a.drop (i + 1) = b.drop (i + 1)) (hlt : a.getD i 0 < b.getD i 0) : val a < val b := by
  have ea := val_split a (n := i) (by omega)
  have eb := val_split b (n := i) (by omega)
  rw [drop_cons h1] at ea
  rw [drop_cons h2, ← hd] at eb
  simp only [val] at ea eb
  have la := val_lt (ha.take i)
  have nb := val_nonneg (hb.take i)
  rw [List.length_take, Nat.min_eq_left (by omega)] at la
  have hp := pw_pos i
  have hm : pw i * (a.getD i 0 + 1) ≤ pw i * b.getD i 0 := Int.mul_le_mul_of_nonneg_left (by omega) (by omega)
  rw [Int.mul_add] at ea eb hm
  omega
def bigv (neg : Bool) (l : List Int) : Int := if neg = true then -val l else val l
def BOk (neg : Bool) (l : List Int) : Prop := l.length ≤ 16 ∧ Dig l ∧ Nz l ∧ (neg = true → l.length ≠ 0)
def mkN (x : Int) : Bool := decide (x < 0)
def mkL (x : Int) : List Int := rep (if x < 0 then -x else x)
theorem mk_ok {x : Int} (h1 : -pw 16 < x) (h2 : x < pw 16) : BOk (mkN x) (mkL x) := by
  have h0 : 0 ≤ (if x < 0 then -x else x) := by split <;> omega
  refine ⟨(rep_len h0 16).2 (by split <;> omega), rep_dig _, rep_nz _, ?_⟩
  intro hn hl
  have := of_decide_eq_true hn
  have e := rep_val h0
  unfold mkL at hl
  rw [List.length_eq_zero_iff.1 hl, val_nil] at e
  split at e <;> omega
theorem mk_v (x : Int) : bigv (mkN x) (mkL x) = x := by
  have h0 : 0 ≤ (if x < 0 then -x else x) := by split <;> omega
  have e := rep_val h0
  unfold bigv mkN mkL
  rw [e]
  by_cases h : x < 0
  · rw [if_pos h, decide_eq_true h]; simp
  · rw [if_neg h, decide_eq_false h]; simp
end Go.Proofs.Ytdemeoncjcbojaa.Jt
end
section
namespace Go.Proofs.Ytdemeoncjcbojaa.Val
open Go.RowKit Go.Proofs.Ytdemeoncjcbojaa.Pr Go.Proofs.Ytdemeoncjcbojaa.Ext Go.Proofs.Ytdemeoncjcbojaa.Jt Go.Proofs.YtdemeoncjcbojaaW.PrintWords Go.Proofs.YtdemeoncjcbojaaW.PrintLast Go.Proofs.YtdemeoncjcbojaaW.PrintMore
set_option linter.unusedVariables false
set_option linter.unusedSimpArgs false
theorem w64 {x : Int} (h : -9223372036854775808 ≤ x) (h' : x ≤ 9223372036854775807) : wrap64 x = x := by unfold wrap64; omega
theorem rdn (l : List Int) (i : Int) : rd l i = l.getD i.toNat 0 := rfl
def okD (x : Int) : Bool := decide (0 ≤ x) && decide (x ≤ 9999)
def okB (neg : Bool) (l : List Int) : Bool := decide (l.length ≤ 16) && l.all okD && (decide (l.length = 0) || decide (l.getD (l.length - 1) 0 ≠ 0)) && (!neg || decide (l.length ≠ 0))
theorem okB_iff (neg : Bool) (l : List Int) : okB neg l = true ↔ BOk neg l := by
  unfold okB BOk Dig Nz
  simp only [Bool.and_eq_true, decide_eq_true_eq, List.all_eq_true, okD, Bool.or_eq_true, Bool.not_eq_true']
  constructor
  · rintro ⟨⟨⟨a, b⟩, c⟩, d⟩
    exact ⟨a, b, c, fun h => d.resolve_left (by simp [h])⟩
  · rintro ⟨a, b, c, d⟩
    refine ⟨⟨⟨a, b⟩, c⟩, ?_⟩
    cases neg
    · exact .inl rfl
    · exact .inr (d rfl)
theorem in_ge (x : Int) : spec_l1In.f x 0 9999 = some (okD x) := by
  unfold spec_l1In.f okD
  by_cases h : x ≥ 0
  · rw [if_pos h, decide_eq_true h, Bool.true_and]
  · rw [if_neg h, decide_eq_false h, Bool.false_and]
theorem bne_d (x : Int) : (x != 0) = decide (x ≠ 0) := by by_cases h : x = 0 <;> simp [h]
theorem l1Ok_l0 (neg : Bool) (l : List Int) (hl : l.length ≤ 16) : ∀ (m k i : Nat), i + m = l.length → m + 1 ≤ k →
    spec_l1Ok.l0 k (i : Int) neg l = some ((l.drop i).all okD && (decide (l.length = 0) || decide (l.getD (l.length - 1) 0 ≠ 0))) := by
  intro m
  induction m with
  | zero =>
    intro k i hi hk
    obtain ⟨k, rfl⟩ : ∃ j, k = j + 1 := ⟨k - 1, by omega⟩
    rw [spec_l1Ok.l0, if_neg (by omega), List.drop_eq_nil_of_le (by omega)]
    by_cases h0 : l.length = 0
    · rw [if_pos (by omega)]; simp [h0]
    · rw [if_neg (by omega), w64 (by omega) (by omega), if_pos (by omega), if_pos (by omega), rdn, show ((l.length : Int) - 1).toNat = l.length - 1 from by omega, bne_d, decide_eq_false h0]
      rfl
  | succ m ih =>
    intro k i hi hk
    obtain ⟨k, rfl⟩ : ∃ j, k = j + 1 := ⟨k - 1, by omega⟩
    have hlt : i < l.length := by omega
    rw [spec_l1Ok.l0, if_pos (by omega), if_pos (by omega), in_ge]
    simp only [Option.bind_some]
    rw [rdn, Int.toNat_natCast, drop_cons hlt, List.all_cons]
    by_cases hb : okD (l.getD i 0) = true
    · rw [if_pos hb, w64 (by omega) (by omega), show ((i : Int) + 1) = ((i + 1 : Nat) : Int) from by omega, ih k (i + 1) (by omega) (by omega), hb, Bool.true_and]
    · rw [if_neg hb, Bool.eq_false_iff.mpr hb]; simp
theorem l1Ok_ge (neg : Bool) (l : List Int) (k : Nat) (hk : 30 ≤ k) : spec_l1Ok.f k neg l = some (okB neg l) := by
  obtain ⟨k, rfl⟩ : ∃ j, k = j + 1 := ⟨k - 1, by omega⟩
  unfold spec_l1Ok.f okB
  by_cases h16 : (l.length : Int) > 16
  · rw [if_pos h16, spec_l1Ok.j0, if_pos rfl, decide_eq_false (show ¬ l.length ≤ 16 by omega)]; simp
  · have e := l1Ok_l0 neg l (by omega) l.length k 0 (by omega) (by omega)
    rw [List.drop_zero] at e
    rw [if_neg h16, decide_eq_true (show l.length ≤ 16 by omega), Bool.true_and]
    cases neg
    · rw [if_neg (by decide), spec_l1Ok.j0, if_neg (by decide)]
      refine e.trans ?_
      simp
    · rw [if_pos rfl, spec_l1Ok.j0]
      by_cases h0 : l.length = 0
      · rw [if_pos (by simp [h0])]; simp [h0]
      · rw [if_neg (by simp; intro hn; simp [hn] at h0)]
        refine e.trans ?_
        rw [decide_eq_true (show l.length ≠ 0 from h0)]
        simp
theorem any_bad (l : List Int) : l.any bad = !(l.all okD) := by
  induction l with
  | nil => rfl
  | cons x xs ih => rw [List.any_cons, List.all_cons, ih, Bool.not_and]; rfl
theorem bigOk_f (neg : Bool) (l : List Int) : impl_BigOk.f neg l = some (okB neg l) := by
  unfold impl_BigOk.f okB containsBad.f
  simp only [any_bad, Option.bind_some, Bool.not_not]
  by_cases h16 : (l.length : Int) ≤ 16
  · rw [if_pos h16, decide_eq_true (show l.length ≤ 16 by omega), Bool.true_and]
    by_cases h0 : (l.length : Int) = 0
    · rw [if_pos h0]
      have h0' : l.length = 0 := by omega
      cases neg
      · rw [if_neg (by decide)]; simp [h0']
      · rw [if_pos rfl, if_neg (by omega)]; simp [h0']
    · have h0' : l.length ≠ 0 := by omega
      rw [if_neg h0, if_pos (by omega), w64 (by omega) (by omega), if_pos (by omega), if_pos (by omega), rdn, show ((l.length : Int) - 1).toNat = l.length - 1 from by omega, decide_eq_false h0', decide_eq_true (show l.length ≠ 0 from h0'), Bool.false_or, Bool.or_true, Bool.and_true]
      by_cases hz : l.getD (l.length - 1) 0 = 0
      · rw [if_pos hz, decide_eq_false (by simpa using hz)]; simp
      · rw [if_neg hz, decide_eq_true hz]; simp
  · rw [if_neg h16, decide_eq_false (show ¬ l.length ≤ 16 by omega)]; simp
def trimN (l : List Int) : Nat → Nat
  | 0 => 0
  | n + 1 => if l.getD n 0 = 0 then trimN l n else n + 1
def trimL (l : List Int) : List Int := l.take (trimN l l.length)
theorem trimN_le (l : List Int) (n : Nat) : trimN l n ≤ n := by
  induction n with
  | zero => exact Nat.le_refl _
  | succ n ih => unfold trimN; split <;> omega
theorem trimN_hi (l : List Int) (n : Nat) : ∀ j, trimN l n ≤ j → j < n → l.getD j 0 = 0 := by
  induction n with
  | zero => intro j _ h; omega
  | succ n ih =>
    intro j h1 h2
    unfold trimN at h1
    split at h1
    · rename_i h
      by_cases hj : j = n
      · rw [hj]; exact h
      · exact ih j h1 (by omega)
    · omega
theorem trimN_nz (l : List Int) (n : Nat) : 0 < trimN l n → l.getD (trimN l n - 1) 0 ≠ 0 := by
  induction n with
  | zero => intro h; simp [trimN] at h
  | succ n ih =>
    unfold trimN
    split
    · exact ih
    · rename_i h; intro _; rw [Nat.add_sub_cancel]; exact h
theorem trimL_of (l : List Int) : TrimOf l (trimL l) := ⟨trimN l l.length, trimN_le _ _, rfl, trimN_hi _ _, trimN_nz _ _⟩
theorem trimL_len (l : List Int) : (trimL l).length ≤ l.length := (trimL_of l).len
theorem trimL_rep {l : List Int} (hd : Dig l) : trimL l = rep (val l) := (trimL_of l).rep hd rfl
theorem sTrim_l0 (l : List Int) (hl : l.length < 1000000) : ∀ (n k : Nat), n ≤ l.length → n + 1 ≤ k → spec_l1Trim.l0 k l (n : Int) = some (l.take (trimN l n)) := by
  intro n
  induction n with
  | zero =>
    intro k hn hk
    obtain ⟨k, rfl⟩ : ∃ j, k = j + 1 := ⟨k - 1, by omega⟩
    rw [spec_l1Trim.l0, if_neg (by omega)]
    simp only [Option.bind_some]
    rw [if_pos (by omega), if_pos (by omega), if_pos (by simp)]
    simp [trimN]
  | succ n ih =>
    intro k hn hk
    obtain ⟨k, rfl⟩ : ∃ j, k = j + 1 := ⟨k - 1, by omega⟩
    rw [spec_l1Trim.l0, if_pos (by omega), w64 (by omega) (by omega), show (((n + 1 : Nat) : Int) - 1) = (n : Int) from by omega, if_pos (by omega), if_pos (by omega), rdn, Int.toNat_natCast]
    unfold trimN
    by_cases h : l.getD n 0 = 0
    · rw [if_pos h, if_pos h]; exact ih k (by omega) (by omega)
    · rw [if_neg h, if_neg h]
      simp only [Option.bind_some]
      rw [if_pos (by omega), if_pos (by omega), Int.toNat_natCast, if_pos (by rw [List.length_take]; simp; omega)]
      simp
theorem sTrim_ge (l : List Int) (hl : l.length < 1000000) (k : Nat) (hk : l.length + 1 ≤ k) : spec_l1Trim.f k l = some (trimL l) := sTrim_l0 l hl l.length k (Nat.le_refl _) hk
theorem iTrim_l0 (l : List Int) (hl : l.length < 1000000) : ∀ (n k : Nat), n ≤ l.length → n + 1 ≤ k → impl_limbs_trim.l0 k (l.take n) = some (l.take (trimN l n)) := by
  intro n
  induction n with
  | zero =>
    intro k hn hk
    obtain ⟨k, rfl⟩ : ∃ j, k = j + 1 := ⟨k - 1, by omega⟩
    rw [impl_limbs_trim.l0, if_neg (by simp)]
    rfl
  | succ n ih =>
    intro k hn hk
    obtain ⟨k, rfl⟩ : ∃ j, k = j + 1 := ⟨k - 1, by omega⟩
    have hlen : (l.take (n + 1)).length = n + 1 := by rw [List.length_take]; omega
    rw [impl_limbs_trim.l0, hlen, if_pos (by omega), w64 (by omega) (by omega), show (((n + 1 : Nat) : Int) - 1) = (n : Int) from by omega, if_pos (by omega), if_pos (by omega), rdn, Int.toNat_natCast, getD_take l (by omega)]
    unfold trimN
    by_cases h : l.getD n 0 = 0
    · rw [if_pos h, if_pos h, if_pos (by omega), List.take_take, Nat.min_eq_left (by omega)]; exact ih k (by omega) (by omega)
    · rw [if_neg h, if_neg h]
theorem iTrim_ge (l : List Int) (hl : l.length < 1000000) (k : Nat) (hk : l.length + 1 ≤ k) : impl_limbs_trim.f k l = some (trimL l) := by
  have e := iTrim_l0 l hl l.length k (Nat.le_refl _) hk
  rw [List.take_length] at e
  exact e
def bigR (x : Int) : Bool × List Int × Bool := if -pw 16 < x ∧ x < pw 16 then (mkN x, mkL x, true) else (false, [], false)
theorem bigR_of {neg : Bool} {l : List Int} (hd : Dig l) :
    (if ((rep (val l)).length : Int) > 16 then (false, ([] : List Int), false) else if neg = true then (decide (0 < (rep (val l)).length), rep (val l), true) else (false, rep (val l), true)) = bigR (bigv neg l) := by
  have h0 := val_nonneg hd
  have hr := rep_len h0 16
  have hp := pw_pos 16
  unfold bigR
  by_cases h : ((rep (val l)).length : Int) > 16
  · have hv : ¬ val l < pw 16 := fun hc => by have := hr.2 hc; omega
    rw [if_pos h, if_neg]
    unfold bigv
    split <;> omega
  · have hv : val l < pw 16 := hr.1 (by omega)
    have hin : -pw 16 < bigv neg l ∧ bigv neg l < pw 16 := by unfold bigv; split <;> omega
    rw [if_neg h, if_pos hin]
    cases neg
    · rw [if_neg (by decide)]
      unfold bigv mkN mkL
      rw [if_neg (by decide), if_neg (by omega), decide_eq_false (by omega)]
    · rw [if_pos rfl]
      unfold bigv mkN mkL
      rw [if_pos rfl]
      have hz := rep_nil h0
      by_cases hv0 : val l = 0
      · rw [hv0, rep_zero]; simp [rep_zero]
      · rw [if_pos (by omega), Int.neg_neg, decide_eq_true (show -val l < 0 by omega)]
        have : 0 < (rep (val l)).length := by
          apply Nat.pos_of_ne_zero
          intro hc
          exact hv0 (hz.1 (List.length_eq_zero_iff.1 hc))
        rw [decide_eq_true this]
theorem l1Big_ge {l : List Int} (hd : Dig l) (hl : l.length ≤ 1000) (neg : Bool) (k : Nat) (hk : 1010 ≤ k) : spec_l1Big.f k neg l = some (bigR (bigv neg l)) := by
  unfold spec_l1Big.f
  rw [sTrim_ge l (by omega) k (by omega), ← bigR_of hd, trimL_rep hd]
  simp only [Option.bind_some]
  (repeat' split) <;> simp_all
theorem big_ge {l : List Int} (hd : Dig l) (hl : l.length ≤ 1000) (neg : Bool) (k : Nat) (hk : 1010 ≤ k) : impl_big.f k neg l = some (bigR (bigv neg l)) := by
  unfold impl_big.f impl_clone_int.f clone99.f
  rw [iTrim_ge l (by omega) k (by omega), ← bigR_of hd]
  have := trimL_len l
  simp only [Option.bind_some]
  rw [if_pos (show (trimL l).length < 17592186044416 by omega), trimL_rep hd]
  simp only [Option.bind_some]
  (repeat' split) <;> simp_all
def sgn (x : Int) : Int := if x < 0 then -1 else if x = 0 then 0 else 1
theorem sgn_neg {x : Int} (h : x < 0) : sgn x = -1 := if_pos h
theorem sgn_zero : sgn 0 = 0 := rfl
theorem sgn_pos {x : Int} (h : 0 < x) : sgn x = 1 := by unfold sgn; rw [if_neg (by omega), if_neg (by omega)]
theorem drop_eq_of {a b : List Int} {i : Nat} (ha : i < a.length) (hb : i < b.length) (hd : a.drop (i + 1) = b.drop (i + 1)) (he : a.getD i 0 = b.getD i 0) : a.drop i = b.drop i := by
  rw [drop_cons ha, drop_cons hb, hd, he]
theorem sCmp_l0 {a b : List Int} (ha : Dig a) (hb : Dig b) (hl : a.length = b.length) (hb' : a.length < 1000000) : ∀ (i k : Nat), i ≤ a.length → a.drop i = b.drop i → i + 1 ≤ k →
    spec_l1CmpAbs.l0 k a b ((i : Int) - 1) = some (sgn (val a - val b)) := by
  intro i
  induction i with
  | zero =>
    intro k hi hd hk
    obtain ⟨k, rfl⟩ : ∃ j, k = j + 1 := ⟨k - 1, by omega⟩
    rw [List.drop_zero, List.drop_zero] at hd
    rw [spec_l1CmpAbs.l0, if_neg (by omega), hd, Int.sub_self, sgn_zero]
  | succ i ih =>
    intro k hi hd hk
    obtain ⟨k, rfl⟩ : ∃ j, k = j + 1 := ⟨k - 1, by omega⟩
    rw [spec_l1CmpAbs.l0, show (((i + 1 : Nat) : Int) - 1) = (i : Int) from by omega, if_pos (by omega), if_pos (by omega), if_pos (by omega), if_pos (by omega), rdn, rdn, Int.toNat_natCast]
    by_cases h1 : a.getD i 0 < b.getD i 0
    · have := val_lt_at ha hb (by omega) (by omega) hd h1
      rw [if_pos h1, sgn_neg (by omega)]
    · rw [if_neg h1]
      by_cases h2 : a.getD i 0 > b.getD i 0
      · have := val_lt_at hb ha (by omega) (by omega) hd.symm h2
        rw [if_pos h2, sgn_pos (by omega)]
      · rw [if_neg h2, w64 (by omega) (by omega)]
        exact ih k (by omega) (drop_eq_of (by omega) (by omega) hd (by omega)) (by omega)
theorem iCmp_l0 {a b : List Int} (ha : Dig a) (hb : Dig b) (hl : a.length = b.length) (hb' : a.length < 1000000) : ∀ (i k : Nat), i ≤ a.length → a.drop i = b.drop i → i + 1 ≤ k →
    impl_limbs_cmp.l0 k a b ((i : Int) - 1) = some (sgn (val a - val b)) := by
  intro i
  induction i with
  | zero =>
    intro k hi hd hk
    obtain ⟨k, rfl⟩ : ∃ j, k = j + 1 := ⟨k - 1, by omega⟩
    rw [List.drop_zero, List.drop_zero] at hd
    rw [impl_limbs_cmp.l0, if_neg (by omega), hd, Int.sub_self, sgn_zero]
  | succ i ih =>
    intro k hi hd hk
    obtain ⟨k, rfl⟩ : ∃ j, k = j + 1 := ⟨k - 1, by omega⟩
    rw [impl_limbs_cmp.l0, show (((i + 1 : Nat) : Int) - 1) = (i : Int) from by omega, if_pos (by omega), if_pos (by omega), if_pos (by omega), if_pos (by omega), rdn, rdn, Int.toNat_natCast]
    have b1 := ha.getD i
    have b2 := hb.getD i
    by_cases h1 : a.getD i 0 = b.getD i 0
    · rw [if_pos h1, w64 (by omega) (by omega)]
      exact ih k (by omega) (drop_eq_of (by omega) (by omega) hd h1) (by omega)
    · rw [if_neg h1, w64 (by omega) (by omega)]
      unfold mx mn
      by_cases h2 : a.getD i 0 < b.getD i 0
      · have := val_lt_at ha hb (by omega) (by omega) hd h2
        rw [sgn_neg (by omega), if_pos (show a.getD i 0 - b.getD i 0 < 1 by omega), if_neg (by omega)]
      · have := val_lt_at hb ha (by omega) (by omega) hd.symm (show b.getD i 0 < a.getD i 0 by omega)
        rw [sgn_pos (by omega), if_neg (show ¬ a.getD i 0 - b.getD i 0 < 1 by omega), if_pos (by omega)]
theorem sCmpAbs_ge {a b : List Int} (ha : Dig a) (hb : Dig b) (za : Nz a) (zb : Nz b) (la : a.length ≤ 1000) (lb : b.length ≤ 1000) (k : Nat) (hk : 1010 ≤ k) : spec_l1CmpAbs.f k a b = some (sgn (val a - val b)) := by
  unfold spec_l1CmpAbs.f
  by_cases h : (a.length : Int) = (b.length : Int)
  · rw [if_pos h, w64 (by omega) (by omega)]
    exact sCmp_l0 ha hb (by omega) (by omega) a.length k (Nat.le_refl _) (by rw [List.drop_length, List.drop_eq_nil_of_le (by omega)]) (by omega)
  · rw [if_neg h]
    by_cases h2 : (a.length : Int) < (b.length : Int)
    · have := val_lt_of_len ha hb zb (by omega)
      rw [if_pos h2, sgn_neg (by omega)]
    · have := val_lt_of_len hb ha za (by omega)
      rw [if_neg h2, sgn_pos (by omega)]
theorem iCmp_ge {a b : List Int} (ha : Dig a) (hb : Dig b) (za : Nz a) (zb : Nz b) (la : a.length ≤ 1000) (lb : b.length ≤ 1000) (k : Nat) (hk : 1010 ≤ k) : impl_limbs_cmp.f k a b = some (sgn (val a - val b)) := by
  unfold impl_limbs_cmp.f
  by_cases h : (a.length : Int) = (b.length : Int)
  · rw [if_pos h, w64 (by omega) (by omega)]
    exact iCmp_l0 ha hb (by omega) (by omega) a.length k (Nat.le_refl _) (by rw [List.drop_length, List.drop_eq_nil_of_le (by omega)]) (by omega)
  · rw [if_neg h, w64 (by omega) (by omega)]
    unfold mx mn
    by_cases h2 : (a.length : Int) < (b.length : Int)
    · have := val_lt_of_len ha hb zb (by omega)
      rw [sgn_neg (by omega), if_pos (show (a.length : Int) - (b.length : Int) < 1 by omega), if_neg (by omega)]
    · have := val_lt_of_len hb ha za (by omega)
      rw [sgn_pos (by omega), if_neg (show ¬ (a.length : Int) - (b.length : Int) < 1 by omega), if_pos (by omega)]
end Go.Proofs.Ytdemeoncjcbojaa.Val
end
section
namespace Go.Proofs.Ytdemeoncjcbojaa.Val
open Go.RowKit Go.Proofs.Ytdemeoncjcbojaa.Pr Go.Proofs.Ytdemeoncjcbojaa.Ext Go.Proofs.Ytdemeoncjcbojaa.Jt Go.Proofs.YtdemeoncjcbojaaW.PrintWords Go.Proofs.YtdemeoncjcbojaaW.PrintLast Go.Proofs.YtdemeoncjcbojaaW.PrintMore
set_option linter.unusedVariables false
set_option linter.unusedSimpArgs false
theorem rdN (l : List Int) (i : Nat) : rd l (i : Int) = l.getD i 0 := by unfold rd; rw [Int.toNat_natCast]
theorem getD_set_ne {l : List Int} {i j : Nat} (v : Int) (h : i < l.length) (hne : j ≠ i) : (l.set i v).getD j 0 = l.getD j 0 := by rw [getD_set l i j v h, if_neg hne]
theorem getD_set_eq {l : List Int} {i : Nat} (v : Int) (h : i < l.length) : (l.set i v).getD i 0 = v := by rw [getD_set l i i v h, if_pos rfl]
theorem val_drop (l : List Int) (i : Nat) : val (l.drop i) = l.getD i 0 + 10000 * val (l.drop (i + 1)) := by
  by_cases h : i < l.length
  · rw [drop_cons h]; rfl
  · rw [List.drop_eq_nil_of_le (by omega), List.drop_eq_nil_of_le (by omega), getD_ge (by omega)]; rfl
theorem iAdd_l1 {x : List Int} : ∀ (m k i : Nat) (x : List Int), i + m + 1 = x.length → x.length ≤ 1000 → m + 1100 ≤ k →
    (∀ j, j < i → 0 ≤ x.getD j 0 ∧ x.getD j 0 ≤ 9999) → (∀ j, i < j → 0 ≤ x.getD j 0 ∧ x.getD j 0 ≤ 19998) → (0 ≤ x.getD i 0 ∧ x.getD i 0 ≤ 19999) →
    (x.getD (x.length - 1) 0 ≤ if i = x.length - 1 then 1 else 0) →
    impl_limbs_add.l1 k x ((x.length : Int) - 1) (i : Int) = some (rep (val x)) := by
  intro m
  induction m with
  | zero =>
    intro k i x hi hl hk h1 h2 h3 h4
    obtain ⟨k, rfl⟩ : ∃ j, k = j + 1 := ⟨k - 1, by omega⟩
    have hd : Dig x := dig_of_getD fun j hj => by
      by_cases hji : j < i
      · exact h1 j hji
      · have : j = x.length - 1 := by omega
        have e : i = x.length - 1 := by omega
        rw [if_pos e] at h4
        rw [e] at h3
        subst this
        omega
    rw [impl_limbs_add.l1, if_neg (by omega), iTrim_ge x (by omega) k (by omega), trimL_rep hd]
    rfl
  | succ m ih =>
    intro k i x hi hl hk h1 h2 h3 h4
    obtain ⟨k, rfl⟩ : ∃ j, k = j + 1 := ⟨k - 1, by omega⟩
    have hlt : i < x.length := by omega
    have hlt1 : i + 1 < x.length := by omega
    have n1 := h2 (i + 1) (by omega)
    rw [if_neg (by omega)] at h4
    rw [impl_limbs_add.l1, if_pos (by omega), w64 (x := (i : Int) + 1) (by omega) (by omega), if_pos (by omega), if_pos (by omega), if_pos (by omega), if_pos (by omega)]
    simp only [Option.bind_some]
    simp only [rdn]
    rw [show ((i : Int) + 1).toNat = i + 1 from by omega, Int.toNat_natCast, Int.tdiv_eq_ediv_of_nonneg h3.1, w64 (x := x.getD i 0 / 10000) (by omega) (by omega), w64 (by omega) (by omega),
      getD_set_ne _ hlt1 (by omega), Int.tmod_eq_emod_of_nonneg h3.1]
    have hlen : ((x.set (i + 1) (x.getD (i + 1) 0 + x.getD i 0 / 10000)).set i (x.getD i 0 % 10000)).length = x.length := by simp
    have hv : val ((x.set (i + 1) (x.getD (i + 1) 0 + x.getD i 0 / 10000)).set i (x.getD i 0 % 10000)) = val x := by
      rw [val_set _ _ _ (by rw [List.length_set]; omega), val_set _ _ _ hlt1, getD_set_ne _ hlt1 (by omega), pw_succ]
      have e : x.getD i 0 = 10000 * (x.getD i 0 / 10000) + x.getD i 0 % 10000 := by omega
      generalize x.getD i 0 / 10000 = q at e
      generalize x.getD i 0 % 10000 = r at e
      rw [e]
      grind
    have e := ih k (i + 1) ((x.set (i + 1) (x.getD (i + 1) 0 + x.getD i 0 / 10000)).set i (x.getD i 0 % 10000)) (by rw [hlen]; omega) (by rw [hlen]; omega) (by omega) ?_ ?_ ?_ ?_
    · rw [hlen, hv] at e
      rw [show ((i : Int) + 1) = ((i + 1 : Nat) : Int) from by omega]
      exact e
    · intro j hj
      by_cases hji : j = i
      · rw [hji, getD_set_eq _ (by rw [List.length_set]; omega)]; omega
      · rw [getD_set_ne _ (by rw [List.length_set]; omega) hji, getD_set_ne _ hlt1 (by omega)]; exact h1 j (by omega)
    · intro j hj
      rw [getD_set_ne _ (by rw [List.length_set]; omega) (by omega), getD_set_ne _ hlt1 (by omega)]; exact h2 j (by omega)
    · rw [getD_set_ne _ (by rw [List.length_set]; omega) (by omega), getD_set_eq _ hlt1]; omega
    · rw [hlen]
      rw [getD_set_ne _ (by rw [List.length_set]; omega) (by omega)]
      by_cases he : i + 1 = x.length - 1
      · rw [if_pos he, ← he, getD_set_eq _ hlt1]
        rw [← he] at h4
        omega
      · rw [if_neg he, getD_set_ne _ hlt1 (by omega)]; exact h4
theorem iAdd_l0 {b : List Int} (hb : Dig b) : ∀ (m k i : Nat) (x : List Int), i + m = b.length → b.length + 1 ≤ x.length → x.length ≤ 1000 → m + 2200 ≤ k →
    (∀ j, j < i → 0 ≤ x.getD j 0 ∧ x.getD j 0 ≤ 19998) → (∀ j, i ≤ j → 0 ≤ x.getD j 0 ∧ x.getD j 0 ≤ 9999) → x.getD (x.length - 1) 0 = 0 →
    impl_limbs_add.l0 k x b (b.length : Int) (i : Int) = some (rep (val x + pw i * val (b.drop i))) := by
  intro m
  induction m with
  | zero =>
    intro k i x hi hx hl hk h1 h2 h3
    obtain ⟨k, rfl⟩ : ∃ j, k = j + 1 := ⟨k - 1, by omega⟩
    rw [impl_limbs_add.l0, if_neg (by omega), w64 (by omega) (by omega), List.drop_eq_nil_of_le (by omega), val_nil, Int.mul_zero, Int.add_zero]
    have hall : ∀ j, 0 ≤ x.getD j 0 ∧ x.getD j 0 ≤ 19998 := fun j => by
      by_cases hj : j < i
      · exact h1 j hj
      · have := h2 j (by omega); omega
    have e := iAdd_l1 (x := x) (x.length - 1) k 0 x (by omega) hl (by omega) (fun j hj => by omega) (fun j _ => hall j) (by have := hall 0; omega) (by rw [h3]; split <;> omega)
    exact e
  | succ m ih =>
    intro k i x hi hx hl hk h1 h2 h3
    obtain ⟨k, rfl⟩ : ∃ j, k = j + 1 := ⟨k - 1, by omega⟩
    have hlt : i < b.length := by omega
    have hltx : i < x.length := by omega
    have b1 := hb.getD i
    have b2 := h2 i (by omega)
    rw [impl_limbs_add.l0, if_pos (by omega), if_pos (by omega), if_pos (by omega), if_pos (by omega), w64 (x := (i : Int) + 1) (by omega) (by omega)]
    simp only [rdn]
    rw [Int.toNat_natCast, w64 (by omega) (by omega), show ((i : Int) + 1) = ((i + 1 : Nat) : Int) from by omega]
    have e := ih k (i + 1) (x.set i (x.getD i 0 + b.getD i 0)) (by omega) (by simp; omega) (by simp; omega) (by omega) ?_ ?_ ?_
    · rw [e, val_set _ _ _ hltx, val_drop b i, pw_succ]
      congr 2
      grind
    · intro j hj
      by_cases hji : j = i
      · rw [hji, getD_set_eq _ hltx]; omega
      · rw [getD_set_ne _ hltx hji]; exact h1 j (by omega)
    · intro j hj
      rw [getD_set_ne _ hltx (by omega)]; exact h2 j (by omega)
    · rw [List.length_set, getD_set_ne _ hltx (by omega)]; exact h3
theorem iAdd_ge {a b : List Int} (ha : Dig a) (hb : Dig b) (la : a.length ≤ 500) (lb : b.length ≤ 500) (k : Nat) (hk : 3000 ≤ k) : impl_limbs_add.f k a b = some (rep (val a + val b)) := by
  unfold impl_limbs_add.f
  have hm : mx (a.length : Int) (b.length : Int) = ((max a.length b.length : Nat) : Int) := by unfold mx; split <;> omega
  rw [hm, w64 (by omega) (by omega), if_pos (by omega), show (((max a.length b.length : Nat) : Int) + 1).toNat = max a.length b.length + 1 from by omega, if_pos (by omega)]
  have hc : cpy a (List.replicate (max a.length b.length + 1) 0) = a ++ List.replicate (max a.length b.length + 1 - a.length) 0 := by
    unfold cpy
    rw [List.length_replicate, Nat.min_eq_left (by omega), List.take_length, List.drop_replicate]
  rw [hc]
  have hr : ∀ j, (List.replicate (max a.length b.length + 1 - a.length) (0 : Int)).getD j 0 = 0 := fun j => by
    rw [List.getD_eq_getElem?_getD, List.getElem?_replicate]; split <;> rfl
  have hg : ∀ j, (a ++ List.replicate (max a.length b.length + 1 - a.length) 0).getD j 0 = a.getD j 0 := fun j => by
    by_cases hj : j < a.length
    · rw [List.getD_eq_getElem?_getD, List.getElem?_append_left hj, ← List.getD_eq_getElem?_getD]
    · rw [List.getD_eq_getElem?_getD, List.getElem?_append_right (by omega), ← List.getD_eq_getElem?_getD, hr, getD_ge (by omega)]
  have e := iAdd_l0 hb b.length k 0 (a ++ List.replicate (max a.length b.length + 1 - a.length) 0) (by omega) (by simp; omega) (by simp; omega) (by omega) (fun j hj => by omega) (fun j _ => by rw [hg]; exact ha.getD j)
    (by rw [hg]; apply getD_ge; simp; omega)
  rw [val_append, val_replicate, List.drop_zero, pw_zero] at e
  refine e.trans ?_
  congr 2
  omega
theorem limb_ge (l : List Int) (i : Nat) : spec_l1Limb.f l (i : Int) = some (l.getD i 0) := by
  unfold spec_l1Limb.f
  by_cases h : (i : Int) < (l.length : Int)
  · rw [if_pos h, if_pos (by omega), rdn, Int.toNat_natCast]
  · rw [if_neg h, getD_ge (by omega)]
theorem dig_push {l : List Int} (h : Dig l) {x : Int} (h0 : 0 ≤ x) (h1 : x ≤ 9999) : Dig (l ++ [x]) := h.append (Dig.cons h0 h1 Dig.nil)
theorem val_push (l : List Int) (x : Int) : val (l ++ [x]) = val l + pw l.length * x := by rw [val_append]; simp [val]
theorem sAdd_step {a b : List Int} (ha : Dig a) (hb : Dig b) (la : a.length ≤ 500) (lb : b.length ≤ 500) : ∀ (m k : Nat) (acc : List Int) (c : Int), Dig acc → acc.length + m = 502 → 0 ≤ c → c ≤ 1 → 2 * m + 1600 ≤ k →
    (acc.length = 502 → c = 0) → (max a.length b.length < acc.length → c = 0) →
    spec_l1AddAbs.l0 k a b acc c (acc.length : Int) = some (rep (val acc + pw acc.length * (c + val (a.drop acc.length) + val (b.drop acc.length)))) := by
  intro m
  induction m with
  | zero =>
    intro k acc c hd hm h0 h1 hk hc hc'
    obtain ⟨k, rfl⟩ : ∃ j, k = j + 2 := ⟨k - 2, by omega⟩
    rw [spec_l1AddAbs.l0, if_neg (by omega), if_neg (by omega), hc (by omega), spec_l1AddAbs.j1, if_neg (by decide), sTrim_ge acc (by omega) k (by omega), trimL_rep hd, List.drop_eq_nil_of_le (by omega), List.drop_eq_nil_of_le (by omega)]
    simp [val_nil]
  | succ m ih =>
    intro k acc c hd hm h0 h1 hk hc hc'
    obtain ⟨k, rfl⟩ : ∃ j, k = j + 2 := ⟨k - 2, by omega⟩
    have b1 := ha.getD acc.length
    have b2 := hb.getD acc.length
    have go : (spec_l1AddAbs.j1 (k + 1) a b acc c (acc.length : Int) true) = some (rep (val acc + pw acc.length * (c + val (a.drop acc.length) + val (b.drop acc.length)))) := by
      rw [spec_l1AddAbs.j1, if_pos rfl, limb_ge, limb_ge]
      simp only [Option.bind_some]
      rw [if_pos (by omega), w64 (x := a.getD acc.length 0 + b.getD acc.length 0) (by omega) (by omega), w64 (x := a.getD acc.length 0 + b.getD acc.length 0 + c) (by omega) (by omega), w64 (x := (acc.length : Int) + 1) (by omega) (by omega),
        Int.tdiv_eq_ediv_of_nonneg (by omega), Int.tmod_eq_emod_of_nonneg (by omega), w64 (by omega) (by omega)]
      have e := ih k (acc ++ [(a.getD acc.length 0 + b.getD acc.length 0 + c) % 10000]) ((a.getD acc.length 0 + b.getD acc.length 0 + c) / 10000) (dig_push hd (by omega) (by omega)) (by simp; omega) (by omega) (by omega) (by omega)
        (by
          intro hh
          rw [List.length_append] at hh
          simp at hh
          rw [getD_ge (l := a) (by omega), getD_ge (l := b) (by omega)]
          have := hc' (by omega)
          omega)
        (by
          intro hh
          rw [List.length_append] at hh
          simp at hh
          rw [getD_ge (l := a) (by omega), getD_ge (l := b) (by omega)]
          omega)
      rw [val_push, List.length_append, List.length_cons, List.length_nil, pw_succ] at e
      rw [show ((acc.length : Int) + 1) = ((acc.length + (0 + 1) : Nat) : Int) from by omega]
      refine e.trans ?_
      congr 2
      rw [val_drop a acc.length, val_drop b acc.length]
      have e3 : a.getD acc.length 0 + b.getD acc.length 0 + c = 10000 * ((a.getD acc.length 0 + b.getD acc.length 0 + c) / 10000) + (a.getD acc.length 0 + b.getD acc.length 0 + c) % 10000 := by omega
      generalize (a.getD acc.length 0 + b.getD acc.length 0 + c) / 10000 = q at e3 ⊢
      generalize (a.getD acc.length 0 + b.getD acc.length 0 + c) % 10000 = r at e3 ⊢
      simp only [Nat.zero_add]
      grind
    rw [spec_l1AddAbs.l0]
    by_cases h1' : (acc.length : Int) < (a.length : Int)
    · rw [if_pos h1']; exact go
    · rw [if_neg h1']
      by_cases h2' : (acc.length : Int) < (b.length : Int)
      · rw [if_pos h2']; exact go
      · rw [if_neg h2']
        by_cases h3' : c > 0
        · rw [decide_eq_true h3']; exact go
        · rw [decide_eq_false h3', spec_l1AddAbs.j1, if_neg (by decide), sTrim_ge acc (by omega) k (by omega), trimL_rep hd, List.drop_eq_nil_of_le (by omega), List.drop_eq_nil_of_le (by omega), show c = 0 from by omega]
          simp [val_nil]
theorem sAdd_ge {a b : List Int} (ha : Dig a) (hb : Dig b) (la : a.length ≤ 500) (lb : b.length ≤ 500) (k : Nat) (hk : 3000 ≤ k) : spec_l1AddAbs.f k a b = some (rep (val a + val b)) := by
  have e := sAdd_step ha hb la lb 502 k [] 0 Dig.nil (by simp) (by omega) (by omega) (by omega) (fun _ => rfl) (fun _ => rfl)
  rw [List.length_nil, List.drop_zero, List.drop_zero, pw_zero, val_nil] at e
  refine Eq.trans e ?_
  congr 2
  omega
theorem iSub_l1 (v : Int) (hv : 0 ≤ v) : ∀ (m k i : Nat) (x : List Int), i + m = x.length → x.length ≤ 1000 → m + 1100 ≤ k → val x = v →
    (∀ j, j < i → 0 ≤ x.getD j 0 ∧ x.getD j 0 ≤ 9999) → (∀ j, i < j → -9999 ≤ x.getD j 0 ∧ x.getD j 0 ≤ 9999) → (-10000 ≤ x.getD i 0 ∧ x.getD i 0 ≤ 9999) →
    impl_limbs_sub.l1 k x (x.length : Int) (i : Int) = some (rep v) := by
  intro m
  induction m with
  | zero =>
    intro k i x hi hl hk hx h1 h2 h3
    obtain ⟨k, rfl⟩ : ∃ j, k = j + 1 := ⟨k - 1, by omega⟩
    have hd : Dig x := dig_of_getD fun j hj => h1 j (by omega)
    rw [impl_limbs_sub.l1, if_neg (by omega), iTrim_ge x (by omega) k (by omega), trimL_rep hd, hx]
    rfl
  | succ m ih =>
    intro k i x hi hl hk hx h1 h2 h3
    obtain ⟨k, rfl⟩ : ∃ j, k = j + 1 := ⟨k - 1, by omega⟩
    have hlt : i < x.length := by omega
    have hdt : Dig (x.take i) := dig_of_getD fun j hj => by
      rw [List.length_take] at hj
      rw [getD_take x (by omega)]; exact h1 j (by omega)
    rw [impl_limbs_sub.l1, if_pos (by omega), if_pos (by omega), if_pos (by omega)]
    simp only [rdN]
    rw [Int.toNat_natCast, w64 (x := (i : Int) + 1) (by omega) (by omega)]
    by_cases hneg : x.getD i 0 < 0
    · have hlt1 : i + 1 < x.length := by
        apply Nat.lt_of_not_le
        intro hc
        have es := val_split x (n := i) (by omega)
        rw [val_drop x i, List.drop_eq_nil_of_le (show x.length ≤ i + 1 by omega), val_nil] at es
        have hlt2 := val_lt hdt
        rw [List.length_take, Nat.min_eq_left (by omega)] at hlt2
        have hp := pw_pos i
        have : pw i * (x.getD i 0 + 10000 * 0) ≤ pw i * (-1) := Int.mul_le_mul_of_nonneg_left (by omega) (by omega)
        omega
      have n1 := h2 (i + 1) (by omega)
      rw [if_pos hneg]
      simp only [Option.bind_some]
      rw [if_pos (by omega), if_pos (by omega), rdn, show ((i : Int) + 1).toNat = i + 1 from by omega, w64 (x := x.getD i 0 + 10000) (by omega) (by omega), getD_set_ne _ hlt (by omega), w64 (by omega) (by omega), show ((i : Int) + 1) = ((i + 1 : Nat) : Int) from by omega]
      have hlen : ((x.set i (x.getD i 0 + 10000)).set (i + 1) (x.getD (i + 1) 0 - 1)).length = x.length := by simp
      have e := ih k (i + 1) ((x.set i (x.getD i 0 + 10000)).set (i + 1) (x.getD (i + 1) 0 - 1)) (by rw [hlen]; omega) (by rw [hlen]; omega) (by omega) ?_ ?_ ?_ ?_
      · rw [hlen] at e; exact e
      · rw [val_set _ _ _ (by rw [List.length_set]; omega), val_set _ _ _ hlt, getD_set_ne _ hlt (by omega), pw_succ, hx]
        grind
      · intro j hj
        rw [getD_set_ne _ (by rw [List.length_set]; omega) (by omega)]
        by_cases hji : j = i
        · rw [hji, getD_set_eq _ hlt]; omega
        · rw [getD_set_ne _ hlt hji]; exact h1 j (by omega)
      · intro j hj
        rw [getD_set_ne _ (by rw [List.length_set]; omega) (by omega), getD_set_ne _ hlt (by omega)]; exact h2 j (by omega)
      · rw [getD_set_eq _ (by rw [List.length_set]; omega)]; omega
    · rw [if_neg hneg, show ((i : Int) + 1) = ((i + 1 : Nat) : Int) from by omega]
      exact ih k (i + 1) x (by omega) hl (by omega) hx (fun j hj => by
        by_cases hji : j = i
        · rw [hji]; omega
        · exact h1 j (by omega)) (fun j hj => h2 j (by omega)) (by have := h2 (i + 1) (by omega); omega)
theorem iSub_l0 {b : List Int} (hb : Dig b) : ∀ (m k i : Nat) (x : List Int), i + m = b.length → b.length ≤ x.length → x.length ≤ 1000 → m + 2200 ≤ k → 0 ≤ val x - pw i * val (b.drop i) →
    (∀ j, j < i → -9999 ≤ x.getD j 0 ∧ x.getD j 0 ≤ 9999) → (∀ j, i ≤ j → 0 ≤ x.getD j 0 ∧ x.getD j 0 ≤ 9999) →
    impl_limbs_sub.l0 k x b (b.length : Int) (i : Int) = some (rep (val x - pw i * val (b.drop i))) := by
  intro m
  induction m with
  | zero =>
    intro k i x hi hx hl hk hv h1 h2
    obtain ⟨k, rfl⟩ : ∃ j, k = j + 1 := ⟨k - 1, by omega⟩
    rw [List.drop_eq_nil_of_le (by omega), val_nil, Int.mul_zero, Int.sub_zero] at hv
    rw [impl_limbs_sub.l0, if_neg (by omega), List.drop_eq_nil_of_le (by omega), val_nil, Int.mul_zero, Int.sub_zero]
    have hall : ∀ j, -9999 ≤ x.getD j 0 ∧ x.getD j 0 ≤ 9999 := fun j => by
      by_cases hj : j < i
      · exact h1 j hj
      · have := h2 j (by omega); omega
    exact iSub_l1 (val x) hv x.length k 0 x (by omega) hl (by omega) rfl (fun j hj => by omega) (fun j _ => hall j) (by have := hall 0; omega)
  | succ m ih =>
    intro k i x hi hx hl hk hv h1 h2
    obtain ⟨k, rfl⟩ : ∃ j, k = j + 1 := ⟨k - 1, by omega⟩
    have hlt : i < b.length := by omega
    have hltx : i < x.length := by omega
    have b1 := hb.getD i
    have b2 := h2 i (by omega)
    rw [impl_limbs_sub.l0, if_pos (by omega), if_pos (by omega), if_pos (by omega), if_pos (by omega), w64 (x := (i : Int) + 1) (by omega) (by omega)]
    simp only [rdn]
    rw [Int.toNat_natCast, w64 (by omega) (by omega), show ((i : Int) + 1) = ((i + 1 : Nat) : Int) from by omega]
    have hval : val (x.set i (x.getD i 0 - b.getD i 0)) - pw (i + 1) * val (b.drop (i + 1)) = val x - pw i * val (b.drop i) := by
      rw [val_set _ _ _ hltx, val_drop b i, pw_succ]
      grind
    have e := ih k (i + 1) (x.set i (x.getD i 0 - b.getD i 0)) (by omega) (by simp; omega) (by simp; omega) (by omega) (by rw [hval]; exact hv) ?_ ?_
    · rw [e, hval]
    · intro j hj
      by_cases hji : j = i
      · rw [hji, getD_set_eq _ hltx]; omega
      · rw [getD_set_ne _ hltx hji]; exact h1 j (by omega)
    · intro j hj
      rw [getD_set_ne _ hltx (by omega)]; exact h2 j (by omega)
theorem len_le_of_val {a b : List Int} (ha : Dig a) (hb : Dig b) (zb : Nz b) (h : val b ≤ val a) : b.length ≤ a.length := by
  apply Nat.le_of_not_lt
  intro hc
  have := val_lt_of_len ha hb zb hc
  omega
theorem iSub_ge {a b : List Int} (ha : Dig a) (hb : Dig b) (zb : Nz b) (la : a.length ≤ 1000) (h : val b ≤ val a) (k : Nat) (hk : 4000 ≤ k) : impl_limbs_sub.f k a b = some (rep (val a - val b)) := by
  unfold impl_limbs_sub.f clone100.f
  have hlen := len_le_of_val ha hb zb h
  rw [if_pos (by omega)]
  simp only [Option.bind_some]
  have e := iSub_l0 hb b.length k 0 a (by omega) hlen la (by omega) (by rw [List.drop_zero, pw_zero]; omega) (fun j hj => by omega) (fun j _ => ha.getD j)
  rw [List.drop_zero, pw_zero, Int.one_mul] at e
  exact e
theorem sSub_step {a b : List Int} (ha : Dig a) (hb : Dig b) (hab : b.length ≤ a.length) (la : a.length ≤ 1000) (v : Int) (hv : 0 ≤ v) : ∀ (m k : Nat) (acc : List Int) (c : Int), Dig acc → acc.length + m = a.length → 0 ≤ c → c ≤ 1 → m + 1100 ≤ k →
    val acc + pw acc.length * (val (a.drop acc.length) - val (b.drop acc.length) - c) = v →
    spec_l1SubAbs.l0 k a b acc c (acc.length : Int) = some (rep v) := by
  intro m
  induction m with
  | zero =>
    intro k acc c hd hm h0 h1 hk he
    obtain ⟨k, rfl⟩ : ∃ j, k = j + 1 := ⟨k - 1, by omega⟩
    rw [List.drop_eq_nil_of_le (by omega), List.drop_eq_nil_of_le (by omega), val_nil] at he
    have hc : c = 0 := by
      have := val_lt hd
      have hc2 : c = 0 ∨ c = 1 := by omega
      rcases hc2 with h | h
      · exact h
      · subst h; omega
    subst hc
    rw [spec_l1SubAbs.l0, if_neg (by omega), sTrim_ge acc (by omega) k (by omega), trimL_rep hd, ← he]
    simp
  | succ m ih =>
    intro k acc c hd hm h0 h1 hk he
    obtain ⟨k, rfl⟩ : ∃ j, k = j + 1 := ⟨k - 1, by omega⟩
    have b1 := ha.getD acc.length
    have b2 := hb.getD acc.length
    rw [val_drop a acc.length, val_drop b acc.length] at he
    rw [spec_l1SubAbs.l0, if_pos (by omega), if_pos (by omega), limb_ge]
    simp only [Option.bind_some, rdN]
    rw [w64 (x := a.getD acc.length 0 - b.getD acc.length 0) (by omega) (by omega), w64 (x := a.getD acc.length 0 - b.getD acc.length 0 - c) (by omega) (by omega), w64 (x := (acc.length : Int) + 1) (by omega) (by omega)]
    by_cases hn : a.getD acc.length 0 - b.getD acc.length 0 - c < 0
    · rw [if_pos hn, if_pos (by omega), w64 (by omega) (by omega)]
      have e := ih k (acc ++ [a.getD acc.length 0 - b.getD acc.length 0 - c + 10000]) 1 (dig_push hd (by omega) (by omega)) (by simp; omega) (by omega) (by omega) (by omega)
        (by rw [val_push, List.length_append, List.length_cons, List.length_nil, Nat.zero_add, pw_succ, ← he]; grind)
      rw [List.length_append, List.length_cons, List.length_nil, Nat.zero_add] at e
      rw [show ((acc.length : Int) + 1) = ((acc.length + 1 : Nat) : Int) from by omega]
      exact e
    · rw [if_neg hn, if_pos (by omega)]
      have e := ih k (acc ++ [a.getD acc.length 0 - b.getD acc.length 0 - c]) 0 (dig_push hd (by omega) (by omega)) (by simp; omega) (by omega) (by omega) (by omega)
        (by rw [val_push, List.length_append, List.length_cons, List.length_nil, Nat.zero_add, pw_succ, ← he]; grind)
      rw [List.length_append, List.length_cons, List.length_nil, Nat.zero_add] at e
      rw [show ((acc.length : Int) + 1) = ((acc.length + 1 : Nat) : Int) from by omega]
      exact e
theorem sSub_ge {a b : List Int} (ha : Dig a) (hb : Dig b) (zb : Nz b) (la : a.length ≤ 1000) (h : val b ≤ val a) (k : Nat) (hk : 4000 ≤ k) : spec_l1SubAbs.f k a b = some (rep (val a - val b)) := by
  have hlen := len_le_of_val ha hb zb h
  exact sSub_step ha hb hlen la (val a - val b) (by omega) a.length k [] 0 Dig.nil (by simp) (by omega) (by omega) (by omega) (by rw [List.length_nil, List.drop_zero, List.drop_zero, pw_zero, val_nil]; omega)
end Go.Proofs.Ytdemeoncjcbojaa.Val
end
section
namespace Go.Proofs.Ytdemeoncjcbojaa.Val
open Go.RowKit Go.Proofs.Ytdemeoncjcbojaa.Pr Go.Proofs.Ytdemeoncjcbojaa.Ext Go.Proofs.Ytdemeoncjcbojaa.Jt Go.Proofs.YtdemeoncjcbojaaW.PrintWords Go.Proofs.YtdemeoncjcbojaaW.PrintLast Go.Proofs.YtdemeoncjcbojaaW.PrintMore
set_option linter.unusedVariables false
set_option linter.unusedSimpArgs false
def sv (q : Bool) (v : Int) : Int := if q = true then -v else v
theorem sv_rep {q : Bool} {v : Int} (h : 0 ≤ v) : bigv q (rep v) = sv q v := by unfold bigv sv; rw [rep_val h]
theorem bigv_sv (q : Bool) (l : List Int) : bigv q l = sv q (val l) := rfl
theorem sv_not (q : Bool) (v : Int) : sv (!q) v = -sv q v := by cases q <;> simp [sv]
theorem rep_len_le {v : Int} (h0 : 0 ≤ v) {n : Nat} (h : v < pw n) : (rep v).length ≤ n := (rep_len h0 n).2 h
theorem sgn_ge (x : Int) : sgn x ≥ 0 ↔ 0 ≤ x := by unfold sgn; split <;> (try split) <;> omega
theorem two_pw {n : Nat} {x y : Int} (hx : x < pw n) (hy : y < pw n) : x + y < pw (n + 1) := by rw [pw_succ]; have := pw_pos n; omega
theorem signed_add_ge {s s' : Bool} {a b : List Int} (ha : Dig a) (hb : Dig b) (za : Nz a) (zb : Nz b) (la : a.length ≤ 100) (lb : b.length ≤ 100) :
    ∃ q v, (∀ k, 5000 ≤ k → impl_signed_add.f k s a s' b = some (q, rep v)) ∧ 0 ≤ v ∧ (rep v).length ≤ 101 ∧ sv q v = bigv s a + bigv s' b := by
  have na := val_nonneg ha
  have nb := val_nonneg hb
  have ha2 := Int.lt_of_lt_of_le (val_lt ha) (pw_mono la)
  have hb2 := Int.lt_of_lt_of_le (val_lt hb) (pw_mono lb)
  have h2 : val a + val b < pw 101 := two_pw ha2 hb2
  rw [bigv_sv, bigv_sv]
  by_cases hs : s = s'
  · subst hs
    refine ⟨s, val a + val b, fun k hk => ?_, by omega, rep_len_le (by omega) h2, by cases s <;> simp [sv] <;> omega⟩
    unfold impl_signed_add.f
    rw [if_pos (by simp), iAdd_ge ha hb (by omega) (by omega) k (by omega)]; rfl
  · have hs' : (s == s') = false := by simp [hs]
    by_cases hc : val b ≤ val a
    · refine ⟨s, val a - val b, fun k hk => ?_, by omega, rep_len_le (by omega) (by omega), by cases s <;> cases s' <;> simp_all [sv] <;> omega⟩
      unfold impl_signed_add.f
      rw [if_neg (by rw [hs']; decide), iCmp_ge ha hb za zb (by omega) (by omega) k (by omega)]
      simp only [Option.bind_some]
      rw [if_pos ((sgn_ge _).2 (by omega)), iSub_ge ha hb zb (by omega) hc k (by omega)]; rfl
    · refine ⟨s', val b - val a, fun k hk => ?_, by omega, rep_len_le (by omega) (by omega), by cases s <;> cases s' <;> simp_all [sv] <;> omega⟩
      unfold impl_signed_add.f
      rw [if_neg (by rw [hs']; decide), iCmp_ge ha hb za zb (by omega) (by omega) k (by omega)]
      simp only [Option.bind_some]
      rw [if_neg (fun h => by have := (sgn_ge _).1 h; omega), iSub_ge hb ha za (by omega) (by omega) k (by omega)]; rfl
theorem l1Add_ge {s s' : Bool} {a b : List Int} (ha : Dig a) (hb : Dig b) (za : Nz a) (zb : Nz b) (la : a.length ≤ 100) (lb : b.length ≤ 100) :
    ∃ q v, (∀ k, 5000 ≤ k → spec_l1Add.f k s a s' b = some (q, rep v)) ∧ 0 ≤ v ∧ (rep v).length ≤ 101 ∧ sv q v = bigv s a + bigv s' b := by
  have na := val_nonneg ha
  have nb := val_nonneg hb
  have ha2 := Int.lt_of_lt_of_le (val_lt ha) (pw_mono la)
  have hb2 := Int.lt_of_lt_of_le (val_lt hb) (pw_mono lb)
  have h2 : val a + val b < pw 101 := two_pw ha2 hb2
  rw [bigv_sv, bigv_sv]
  by_cases hs : s = s'
  · subst hs
    refine ⟨s, val a + val b, fun k hk => ?_, by omega, rep_len_le (by omega) h2, by cases s <;> simp [sv] <;> omega⟩
    unfold spec_l1Add.f
    rw [if_pos (by simp), sAdd_ge ha hb (by omega) (by omega) k (by omega)]; rfl
  · have hs' : (s == s') = false := by simp [hs]
    by_cases hc : val b ≤ val a
    · refine ⟨s, val a - val b, fun k hk => ?_, by omega, rep_len_le (by omega) (by omega), by cases s <;> cases s' <;> simp_all [sv] <;> omega⟩
      unfold spec_l1Add.f
      rw [if_neg (by rw [hs']; decide), sCmpAbs_ge ha hb za zb (by omega) (by omega) k (by omega)]
      simp only [Option.bind_some]
      rw [if_pos ((sgn_ge _).2 (by omega)), sSub_ge ha hb zb (by omega) hc k (by omega)]; rfl
    · refine ⟨s', val b - val a, fun k hk => ?_, by omega, rep_len_le (by omega) (by omega), by cases s <;> cases s' <;> simp_all [sv] <;> omega⟩
      unfold spec_l1Add.f
      rw [if_neg (by rw [hs']; decide), sCmpAbs_ge ha hb za zb (by omega) (by omega) k (by omega)]
      simp only [Option.bind_some]
      rw [if_neg (fun h => by have := (sgn_ge _).1 h; omega), sSub_ge hb ha za (by omega) (by omega) k (by omega)]; rfl
abbrev No : Bool × List Int × Bool := (false, [], false)
def addR (n : Bool) (l : List Int) (n' : Bool) (l' : List Int) : Bool × List Int × Bool := if okB n l = true ∧ okB n' l' = true then bigR (bigv n l + bigv n' l') else No
def subR (n : Bool) (l : List Int) (n' : Bool) (l' : List Int) : Bool × List Int × Bool := if okB n l = true ∧ okB n' l' = true then bigR (bigv n l - bigv n' l') else No
theorem bigs_f (n : Bool) (l : List Int) (n' : Bool) (l' : List Int) : impl_bigs.f n l n' l' = some (okB n l && okB n' l') := by
  unfold impl_bigs.f
  rw [bigOk_f, bigOk_f]
  simp only [Option.bind_some]
  cases okB n l <;> simp
theorem iBigAdd_ge (n : Bool) (l : List Int) (n' : Bool) (l' : List Int) (k : Nat) (hk : 6000 ≤ k) : impl_BigAdd.f k n l n' l' = some (addR n l n' l') := by
  unfold impl_BigAdd.f addR
  rw [bigs_f]
  simp only [Option.bind_some]
  by_cases h : okB n l = true ∧ okB n' l' = true
  · rw [if_pos h, if_pos (by rw [h.1, h.2]; rfl)]
    obtain ⟨l1, d1, z1, _⟩ := (okB_iff n l).1 h.1
    obtain ⟨l2, d2, z2, _⟩ := (okB_iff n' l').1 h.2
    obtain ⟨q, v, hq, hv, hl, he⟩ := signed_add_ge (s := n) (s' := n') d1 d2 z1 z2 (by omega) (by omega)
    simp only [impl_Big_signed.f, Option.bind_some]
    rw [hq k (by omega)]
    simp only [Option.bind_some]
    rw [big_ge (rep_dig v) (by omega) q k (by omega), sv_rep hv, he]
    rfl
  · rw [if_neg h, if_neg (by simpa using h)]
theorem iBigSub_ge (n : Bool) (l : List Int) (n' : Bool) (l' : List Int) (k : Nat) (hk : 6000 ≤ k) : impl_BigSub.f k n l n' l' = some (subR n l n' l') := by
  unfold impl_BigSub.f subR
  rw [bigs_f]
  simp only [Option.bind_some]
  by_cases h : okB n l = true ∧ okB n' l' = true
  · rw [if_pos h, if_pos (by rw [h.1, h.2]; rfl)]
    obtain ⟨l1, d1, z1, _⟩ := (okB_iff n l).1 h.1
    obtain ⟨l2, d2, z2, _⟩ := (okB_iff n' l').1 h.2
    obtain ⟨q, v, hq, hv, hl, he⟩ := signed_add_ge (s := n) (s' := !n') d1 d2 z1 z2 (by omega) (by omega)
    simp only [impl_Big_signed.f, impl_signed_minus.f, Option.bind_some]
    rw [hq k (by omega)]
    simp only [Option.bind_some]
    rw [big_ge (rep_dig v) (by omega) q k (by omega), sv_rep hv, he, bigv_sv (!n'), sv_not, ← bigv_sv, ← Int.sub_eq_add_neg]
    rfl
  · rw [if_neg h, if_neg (by simpa using h)]
theorem sBigSub_ge (n : Bool) (l : List Int) (n' : Bool) (l' : List Int) (k : Nat) (hk : 6000 ≤ k) : spec_BigSub.f k n l n' l' = some (subR n l n' l') := by
  obtain ⟨k, rfl⟩ : ∃ j, k = j + 1 := ⟨k - 1, by omega⟩
  unfold spec_BigSub.f subR
  rw [l1Ok_ge n l (k + 1) (by omega), l1Ok_ge n' l' (k + 1) (by omega)]
  simp only [Option.bind_some, spec_BigSub.j0]
  by_cases h1 : okB n l = true
  · rw [if_pos h1]
    by_cases h2 : okB n' l' = true
    · rw [if_neg (show ¬ (!okB n' l') = true by rw [h2]; decide), if_pos (And.intro h1 h2)]
      obtain ⟨l1, d1, z1, _⟩ := (okB_iff n l).1 h1
      obtain ⟨l2, d2, z2, _⟩ := (okB_iff n' l').1 h2
      obtain ⟨q, v, hq, hv, hl, he⟩ := l1Add_ge (s := n) (s' := !n') d1 d2 z1 z2 (by omega) (by omega)
      rw [hq k (by omega)]
      simp only [Option.bind_some]
      rw [l1Big_ge (rep_dig v) (by omega) q k (by omega), sv_rep hv, he, bigv_sv (!n'), sv_not, ← bigv_sv, ← Int.sub_eq_add_neg]
      rfl
    · rw [if_neg (show ¬ (okB n l = true ∧ okB n' l' = true) from fun h => h2 h.2), if_pos (show (!okB n' l') = true by rw [Bool.eq_false_iff.mpr h2]; rfl)]
  · rw [if_neg (show ¬ (okB n l = true ∧ okB n' l' = true) from fun h => h1 h.1), if_neg h1, if_pos trivial]
theorem jtInts_l0 {a b : List Int} (hl : a.length = b.length) (hL : a.length < 1000000) : ∀ (m k i : Nat), i + m = a.length → m + 1 ≤ k → laws_jtInts.l0 k a b (i : Int) = some (decide (a.drop i = b.drop i)) := by
  intro m
  induction m with
  | zero =>
    intro k i hi hk
    obtain ⟨k, rfl⟩ : ∃ j, k = j + 1 := ⟨k - 1, by omega⟩
    rw [laws_jtInts.l0, if_neg (by omega), List.drop_eq_nil_of_le (by omega), List.drop_eq_nil_of_le (by omega)]
    simp
  | succ m ih =>
    intro k i hi hk
    obtain ⟨k, rfl⟩ : ∃ j, k = j + 1 := ⟨k - 1, by omega⟩
    rw [laws_jtInts.l0, if_pos (by omega), if_pos (by omega), if_pos (by omega), rdN, rdN, drop_cons (l := a) (by omega), drop_cons (l := b) (by omega)]
    by_cases h : a.getD i 0 = b.getD i 0
    · rw [if_pos h, w64 (by omega) (by omega), show ((i : Int) + 1) = ((i + 1 : Nat) : Int) from by omega, ih k (i + 1) (by omega) (by omega), h]
      simp
    · rw [if_neg h]
      simp only [List.cons.injEq, h, false_and, decide_false]
theorem jtBig_ge (n : Bool) (l : List Int) (n' : Bool) (l' : List Int) (hl : l.length ≤ 1000) (k : Nat) (hk : 1010 ≤ k) : laws_jtBig.f k n l n' l' = some (decide (n = n' ∧ l = l')) := by
  unfold laws_jtBig.f laws_jtInts.f
  by_cases hn : n = n'
  · rw [if_pos (by simp [hn])]
    by_cases h : (l.length : Int) = (l'.length : Int)
    · have e := jtInts_l0 (a := l) (b := l') (by omega) (by omega) l.length k 0 (by omega) (by omega)
      rw [List.drop_zero, List.drop_zero] at e
      rw [if_pos h]
      simp only [hn, true_and]
      rw [show (0 : Int) = ((0 : Nat) : Int) from rfl, e]
      rfl
    · rw [if_neg h]
      have : l ≠ l' := fun hc => h (by rw [hc])
      simp [this]
  · rw [if_neg (by simp [hn])]
    simp [hn]
theorem jtZero_f (n : Bool) (l : List Int) : laws_jtZero.f n l = some (!n && decide (l = [])) := by
  unfold laws_jtZero.f
  cases n
  · rw [if_neg (by decide)]
    cases l with
    | nil => rfl
    | cons x xs =>
      simp
      omega
  · rw [if_pos rfl]; rfl
theorem bigR_len (x : Int) : (bigR x).2.1.length ≤ 16 := by
  unfold bigR
  split
  · rename_i h
    exact (mk_ok h.1 h.2).1
  · simp
theorem subR_len (n l n' l') : (subR n l n' l').2.1.length ≤ 16 := by unfold subR; split; exact bigR_len _; simp
theorem bigR_yes {x : Int} (h : (bigR x).2.2 = true) : -pw 16 < x ∧ x < pw 16 := by
  unfold bigR at h
  split at h
  · assumption
  · cases h
theorem okB_mk {x : Int} (h : -pw 16 < x ∧ x < pw 16) : okB (mkN x) (mkL x) = true := (okB_iff _ _).2 (mk_ok h.1 h.2)
end Go.Proofs.Ytdemeoncjcbojaa.Val
end
section
namespace Go.Proofs.Ytdemeoncjcbojaa.Val
open Go.RowKit Go.Proofs.Ytdemeoncjcbojaa.Pr Go.Proofs.Ytdemeoncjcbojaa.Ext Go.Proofs.Ytdemeoncjcbojaa.Jt Go.Proofs.YtdemeoncjcbojaaW.PrintWords Go.Proofs.YtdemeoncjcbojaaW.PrintLast Go.Proofs.YtdemeoncjcbojaaW.PrintMore
set_option linter.unusedVariables false
set_option linter.unusedSimpArgs false
theorem wf8 {a : Int} (h : (Lit.int .u8 a).wf = true) : 0 ≤ a ∧ a ≤ 255 := by
  simp [Lit.wf, IntKind.min, IntKind.max, IntKind.signed, IntKind.bits] at h; omega
theorem rd_mem {l : List Int} {i : Int} (h0 : 0 ≤ i) (h : i < (l.length : Int)) : rd l i ∈ l := by
  have hi : i.toNat < l.length := by omega
  unfold rd
  rw [List.getD_eq_getElem?_getD, List.getElem?_eq_getElem hi]
  exact List.getElem_mem hi
theorem xor_nonneg {x y : Int} (hx : 0 ≤ x) (hx' : x < 4611686018427387904) (hy : 0 ≤ y) (hy' : y < 4611686018427387904) : 0 ≤ Go.bits .xor .i64 x y := by
  obtain ⟨a, rfl⟩ := Int.eq_ofNat_of_zero_le hx
  obtain ⟨b, rfl⟩ := Int.eq_ofNat_of_zero_le hy
  have ha : a < 2 ^ 62 := by omega
  have hb : b < 2 ^ 62 := by omega
  have hlt := Nat.xor_lt_two_pow ha hb
  have ha' : a % 2 ^ IntKind.i64.bits = a := Nat.mod_eq_of_lt (by show a < 2 ^ 64; omega)
  have hb' : b % 2 ^ IntKind.i64.bits = b := Nat.mod_eq_of_lt (by show b < 2 ^ 64; omega)
  have e : Go.bits .xor .i64 (a : Int) (b : Int) = ((a ^^^ b : Nat) : Int) := by
    simp only [Go.bits, BitVec.ofInt_natCast, BitVec.toNat_xor, BitVec.toNat_ofNat, ha', hb']
    rw [IntKind.wrap_i64]
    omega
  rw [e]
  omega
def BytesOk (b : List Int) : Prop := b.length ≤ 2000 ∧ ∀ x ∈ b, 0 ≤ x ∧ x ≤ 255
theorem pick_any {b : List Int} (hb : BytesOk b) {p n : Int} (hp : 0 ≤ p) (hp' : p ≤ 1000000) (hn : 1 ≤ n) :
    ∃ r, (∀ k, spec_l1Rd_pick.f (k + 1) b p n = some (r, p + 1)) ∧ 0 ≤ r ∧ r < n := by
  have e1 : wrap64 (p + 1) = p + 1 := w64 (by omega) (by omega)
  have e2 : wrap64 (p + 1 - 1) = p := by rw [w64 (by omega) (by omega)]; omega
  have hl := hb.1
  by_cases h0 : b.length = 0
  · refine ⟨0, fun k => ?_, by omega, by omega⟩
    have hz : ((b.length : Int) == 0) = true := by rw [h0]; rfl
    unfold spec_l1Rd_pick.f
    rw [if_neg (by omega), e1, hz]
    simp only [spec_l1Rd_pick.j0, if_true]
  · have hz : ((b.length : Int) == 0) = false := by rw [beq_eq_false_iff_ne]; omega
    by_cases hk : p < (b.length : Int)
    · have hm := hb.2 _ (rd_mem hp hk)
      refine ⟨Int.tmod (rd b p) n, fun k => ?_, Int.tmod_nonneg _ hm.1, Int.tmod_lt_of_pos _ (by omega)⟩
      unfold spec_l1Rd_pick.f
      rw [if_neg (by omega), e1, hz]
      simp only [spec_l1Rd_pick.j0]
      rw [if_neg (by decide), e2, if_pos hk, if_pos hp, if_neg (by omega), w64 (by omega) (by omega)]
    · have hL : (0 : Int) < (b.length : Int) := by omega
      have e7 : wrap64 (wrap64 (p * 7) + 3) = p * 7 + 3 := by
        rw [w64 (x := p * 7) (by omega) (by omega), w64 (by omega) (by omega)]
      have i1 := Int.tmod_nonneg (b.length : Int) hp
      have j1 := Int.tmod_lt_of_pos p hL
      have i2 := Int.tmod_nonneg (b.length : Int) (show 0 ≤ p * 7 + 3 by omega)
      have j2 := Int.tmod_lt_of_pos (p * 7 + 3) hL
      have hA := hb.2 _ (rd_mem i1 j1)
      have hB := hb.2 _ (rd_mem i2 j2)
      have hq0 : 0 ≤ Int.tdiv p (b.length : Int) := Int.tdiv_nonneg hp (by omega)
      have hq1 : Int.tdiv p (b.length : Int) ≤ p := by
        rw [Int.tdiv_eq_ediv_of_nonneg hp]; exact Int.ediv_le_self _ hp
      generalize hAe : rd b (Int.tmod p (b.length : Int)) = A at hA
      generalize hBe : rd b (Int.tmod (p * 7 + 3) (b.length : Int)) = B at hB
      generalize hQe : Int.tdiv p (b.length : Int) = Q at hq0 hq1
      have hX : 0 ≤ wrap64 (wrap64 (wrap64 (wrap64 (wrap64 A * 131) + wrap64 (wrap64 B * 1117)) + wrap64 (p * 29)) + wrap64 (wrap64 Q * 53)) ∧
          wrap64 (wrap64 (wrap64 (wrap64 (wrap64 A * 131) + wrap64 (wrap64 B * 1117)) + wrap64 (p * 29)) + wrap64 (wrap64 Q * 53)) < 1000000000 := by
        rw [w64 (x := A) (by omega) (by omega), w64 (x := B) (by omega) (by omega), w64 (x := Q) (by omega) (by omega), w64 (x := A * 131) (by omega) (by omega), w64 (x := B * 1117) (by omega) (by omega),
          w64 (x := p * 29) (by omega) (by omega), w64 (x := Q * 53) (by omega) (by omega), w64 (x := A * 131 + B * 1117) (by omega) (by omega), w64 (x := A * 131 + B * 1117 + p * 29) (by omega) (by omega),
          w64 (by omega) (by omega)]
        omega
      generalize hXe : wrap64 (wrap64 (wrap64 (wrap64 (wrap64 A * 131) + wrap64 (wrap64 B * 1117)) + wrap64 (p * 29)) + wrap64 (wrap64 Q * 53)) = X at hX
      have hY : 0 ≤ wrap64 (Int.tdiv X 64) ∧ wrap64 (Int.tdiv X 64) < 1000000000 := by
        rw [Int.tdiv_eq_ediv_of_nonneg hX.1, w64 (by omega) (by omega)]; omega
      refine ⟨Int.tmod (Go.bits .xor .i64 X (wrap64 (Int.tdiv X 64))) n, fun k => ?_, Int.tmod_nonneg _ (xor_nonneg hX.1 (by omega) hY.1 (by omega)), Int.tmod_lt_of_pos _ (by omega)⟩
      unfold spec_l1Rd_pick.f
      rw [if_neg (by omega), e1, hz]
      simp only [spec_l1Rd_pick.j0]
      rw [if_neg (by decide), e2, if_neg hk, if_neg (by omega), if_pos i1, if_pos j1, e7, if_pos i2, if_pos j2, if_neg (by omega), hAe, hBe, hQe, hXe]
theorem open_any {l : List Int} (hl : ∀ x ∈ l, (Lit.int .u8 x).wf = true) : ∃ b, spec_l1Open.f l = some (b, 0) ∧ BytesOk b := by
  unfold spec_l1Open.f
  by_cases h : (l.length : Int) > 2000
  · rw [if_pos h, if_pos (by omega)]
    exact ⟨_, rfl, by rw [List.length_take]; omega, fun x hx => wf8 (hl x (List.mem_of_mem_take hx))⟩
  · rw [if_neg h]
    exact ⟨_, rfl, by omega, fun x hx => wf8 (hl x hx)⟩
theorem one_any {b : List Int} (hb : BytesOk b) {p : Int} (hp : 0 ≤ p) (hp' : p ≤ 1000000) {l : List Int} (hl : 1 ≤ l.length) :
    ∃ r, (∀ k, spec_l1Rd_one.f (k + 1) b p l = some (r, p + 1)) ∧ r ∈ l := by
  obtain ⟨i, hi, h0, h1⟩ := pick_any hb hp hp' (n := (l.length : Int)) (by omega)
  refine ⟨rd l i, fun k => ?_, rd_mem h0 h1⟩
  unfold spec_l1Rd_one.f
  rw [hi k]
  simp only [Option.bind_some]
  rw [if_pos h0, if_pos h1]
theorem pick_ge {b : List Int} (hb : BytesOk b) {p n : Int} (hp : 0 ≤ p) (hp' : p ≤ 1000000) (hn : 1 ≤ n) :
    ∃ r, (∀ k, 1 ≤ k → spec_l1Rd_pick.f k b p n = some (r, p + 1)) ∧ 0 ≤ r ∧ r < n := by
  obtain ⟨r, h, h0, h1⟩ := pick_any hb hp hp' hn
  exact ⟨r, fun k hk => by obtain ⟨m, rfl⟩ : ∃ m, k = m + 1 := ⟨k - 1, by omega⟩; exact h m, h0, h1⟩
theorem one_ge {b : List Int} (hb : BytesOk b) {p : Int} (hp : 0 ≤ p) (hp' : p ≤ 1000000) {l : List Int} (hl : 1 ≤ l.length) :
    ∃ r, (∀ k, 1 ≤ k → spec_l1Rd_one.f k b p l = some (r, p + 1)) ∧ r ∈ l := by
  obtain ⟨r, h, h0⟩ := one_any hb hp hp' hl
  exact ⟨r, fun k hk => by obtain ⟨m, rfl⟩ : ∃ m, k = m + 1 := ⟨k - 1, by omega⟩; exact h m, h0⟩
theorem size_of (xs : List Int) : (strOfNums xs).size = xs.length := by unfold strOfNums; simp [ByteArray.size]
theorem size_app (a b : ByteArray) : (a ++ b).size = a.size + b.size := ByteArray.size_append
theorem figs_l0 {b : List Int} (hb : BytesOk b) (n : Int) (hn : n ≤ 100) : ∀ (m : Nat) (s : ByteArray) (p : Int), 0 ≤ p → p + 2 * m ≤ 900000 → (s.size : Int) + m = n →
    ∃ r p', (∀ k, m + 2 ≤ k → spec_l14Figs.l0 k n s b p = some (r, p')) ∧ (r.size : Int) = n ∧ p ≤ p' ∧ p' ≤ p + 2 * m := by
  intro m
  induction m with
  | zero =>
    intro s p hp hp' hs
    refine ⟨s, p, fun k hk => ?_, by omega, by omega, by omega⟩
    obtain ⟨k, rfl⟩ : ∃ j, k = j + 1 := ⟨k - 1, by omega⟩
    rw [spec_l14Figs.l0, if_neg (by omega)]
  | succ m ih =>
    intro s p hp hp' hs
    obtain ⟨x, hx, _, _⟩ := pick_ge hb hp (by omega) (n := 10) (by omega)
    obtain ⟨y, hy, _⟩ := one_ge hb (p := p + 1) (by omega) (by omega) (l := [0, 0, 9, 9, 5, 1, x]) (by simp)
    obtain ⟨r, p', hr, h1, h2, h3⟩ := ih (s ++ strOfNums [(wrap64 (48 + y)) % 256]) (p + 1 + 1) (by omega) (by omega) (by rw [size_app, size_of]; simp; omega)
    refine ⟨r, p', fun k hk => ?_, h1, by omega, by omega⟩
    obtain ⟨k, rfl⟩ : ∃ j, k = j + 1 := ⟨k - 1, by omega⟩
    rw [spec_l14Figs.l0, if_pos (by omega), hx k (by omega)]
    simp only [Option.bind_some]
    rw [hy k (by omega)]
    simp only [Option.bind_some]
    rw [if_pos (by rw [size_of]; simp; omega)]
    exact hr k (by omega)
theorem figs_any {b : List Int} (hb : BytesOk b) {p : Int} (hp : 0 ≤ p) (hp' : p ≤ 500000) {n : Int} (hn : n ≤ 100) :
    ∃ r p', (∀ k, 200 ≤ k → spec_l14Figs.f k b p n = some (r, p')) ∧ r.size ≤ 101 ∧ p ≤ p' ∧ p' ≤ p + 300 := by
  by_cases h1 : n < 1
  · refine ⟨⟨#[48]⟩, p, fun k hk => ?_, by decide, by omega, by omega⟩
    unfold spec_l14Figs.f
    rw [if_pos h1]
  · obtain ⟨x, hx, _, _⟩ := pick_ge hb hp (by omega) (n := 9) (by omega)
    obtain ⟨r, p', hr, q1, q2, q3⟩ := figs_l0 hb n hn (n.toNat - 1) (strOfNums [(wrap64 (49 + x)) % 256]) (p + 1) (by omega) (by omega) (by rw [size_of]; simp; omega)
    refine ⟨r, p', fun k hk => ?_, by omega, by omega, by omega⟩
    unfold spec_l14Figs.f
    rw [if_neg h1, hx k (by omega)]
    simp only [Option.bind_some]
    exact hr k (by omega)
theorem many_l0 (s : ByteArray) (hs : s.size = 1) : ∀ (m : Nat) (a : ByteArray), a.size + m ≤ 1000 → ∃ r, (∀ k, m + 1 ≤ k → spec_l1Many.l0 k s (m : Int) a = some r) ∧ r.size = a.size + m := by
  intro m
  induction m with
  | zero =>
    intro a ha
    refine ⟨a, fun k hk => ?_, by omega⟩
    obtain ⟨k, rfl⟩ : ∃ j, k = j + 1 := ⟨k - 1, by omega⟩
    rw [spec_l1Many.l0, if_neg (by omega)]
  | succ m ih =>
    intro a ha
    obtain ⟨r, hr, h⟩ := ih (a ++ s) (by rw [size_app]; omega)
    refine ⟨r, fun k hk => ?_, by rw [size_app] at h; omega⟩
    obtain ⟨k, rfl⟩ : ∃ j, k = j + 1 := ⟨k - 1, by omega⟩
    rw [spec_l1Many.l0, if_pos (by omega), if_pos (by omega), w64 (by omega) (by omega), show (((m + 1 : Nat) : Int) - 1) = (m : Int) from by omega]
    exact hr k (by omega)
theorem many_any (s : ByteArray) (hs : s.size = 1) (n : Int) (hn : n ≤ 100) : ∃ r, (∀ k, 200 ≤ k → spec_l1Many.f k s n = some r) ∧ r.size ≤ 100 := by
  by_cases h0 : n ≤ 0
  · refine ⟨⟨#[]⟩, fun k hk => ?_, by decide⟩
    obtain ⟨k, rfl⟩ : ∃ j, k = j + 1 := ⟨k - 1, by omega⟩
    unfold spec_l1Many.f
    rw [spec_l1Many.l0, if_neg (by omega)]
  · obtain ⟨r, hr, h⟩ := many_l0 s hs n.toNat ⟨#[]⟩ (by show 0 + n.toNat ≤ 1000; omega)
    refine ⟨r, fun k hk => ?_, by rw [h]; show 0 + n.toNat ≤ 100; omega⟩
    unfold spec_l1Many.f
    have e := hr k (by omega)
    rw [show ((n.toNat : Nat) : Int) = n from by omega] at e
    exact e
theorem fromFig_l1 (s : ByteArray) (hs : s.size ≤ 200) (acc : List Int) (ha : acc.length ≤ 1000) (x4 : Nat) (h4 : x4 ≤ s.size) (K : Nat) (R : List Int → Prop)
    (hnext : ∀ y, ∃ r, (∀ k, K ≤ k → spec_l1FromFigures.l0 k (s.extract 0 x4) (acc ++ [y]) = some r) ∧ R r) :
    ∀ (m i : Nat) (x5 : Int), i + m = s.size → ∃ r, (∀ k, m + 1 + K ≤ k → spec_l1FromFigures.l1 k s acc (x4 : Int) x5 (i : Int) = some r) ∧ R r := by
  intro m
  induction m with
  | zero =>
    intro i x5 hi
    obtain ⟨r, hr, h⟩ := hnext x5
    refine ⟨r, fun k hk => ?_, h⟩
    obtain ⟨k, rfl⟩ : ∃ j, k = j + 1 := ⟨k - 1, by omega⟩
    rw [spec_l1FromFigures.l1, if_neg (by omega), if_pos (by omega), if_pos (by omega), if_pos (by omega), Int.toNat_natCast]
    exact hr k (by omega)
  | succ m ih =>
    intro i x5 hi
    obtain ⟨r, hr, h⟩ := ih (i + 1) (wrap64 ((wrap64 (x5 * 10)) + (((bt s (i : Int)) - 48) % 256))) (by omega)
    refine ⟨r, fun k hk => ?_, h⟩
    obtain ⟨k, rfl⟩ : ∃ j, k = j + 1 := ⟨k - 1, by omega⟩
    rw [spec_l1FromFigures.l1, if_pos (by omega), if_pos (by omega), w64 (x := (i : Int) + 1) (by omega) (by omega), show ((i : Int) + 1) = ((i + 1 : Nat) : Int) from by omega]
    exact hr k (by omega)
set_option maxRecDepth 20000 in
theorem fromFig_l0 : ∀ (n : Nat) (s : ByteArray) (acc : List Int), s.size = n → n ≤ 200 → acc.length + n ≤ 1000 → ∃ r, (∀ k, 10 * n + 1200 ≤ k → spec_l1FromFigures.l0 k s acc = some r) ∧ r.length ≤ 1000 := by
  intro n
  induction n using Nat.strongRecOn with
  | ind n ih =>
    intro s acc hs hn hl
    by_cases h0 : s.size = 0
    · refine ⟨trimL acc, fun k hk => ?_, by have := trimL_len acc; omega⟩
      obtain ⟨k, rfl⟩ : ∃ j, k = j + 1 := ⟨k - 1, by omega⟩
      rw [spec_l1FromFigures.l0, if_neg (by omega), sTrim_ge acc (by omega) k (by omega)]; rfl
    · have hx : ∃ x4 : Nat, x4 + 1 ≤ s.size ∧ s.size ≤ x4 + 4 ∧ ∀ k, spec_l1FromFigures.l0 (k + 1) s acc = spec_l1FromFigures.j1 k s acc (x4 : Int) := by
        by_cases h4 : (s.size : Int) - 4 < 0
        · refine ⟨0, by omega, by omega, fun k => ?_⟩
          rw [spec_l1FromFigures.l0, if_pos (by omega), w64 (by omega) (by omega), if_pos h4]; rfl
        · refine ⟨s.size - 4, by omega, by omega, fun k => ?_⟩
          rw [spec_l1FromFigures.l0, if_pos (by omega), w64 (by omega) (by omega), if_neg h4, show ((s.size : Int) - 4) = ((s.size - 4 : Nat) : Int) from by omega]
      obtain ⟨x4, a1, a2, hk0⟩ := hx
      have hsz : (s.extract 0 x4).size = x4 := by rw [ByteArray.size_extract]; omega
      obtain ⟨r, hr, h⟩ := fromFig_l1 s (by omega) acc (by omega) x4 (by omega) (10 * x4 + 1200) (fun r => r.length ≤ 1000)
        (fun y => ih x4 (by omega) (s.extract 0 x4) (acc ++ [y]) hsz (by omega) (by simp; omega)) (s.size - x4) x4 0 (by omega)
      refine ⟨r, fun k hk => ?_, h⟩
      obtain ⟨k, rfl⟩ : ∃ j, k = j + 2 := ⟨k - 2, by omega⟩
      rw [hk0, spec_l1FromFigures.j1]
      exact hr k (by omega)
theorem fromFig_any (s : ByteArray) (hs : s.size ≤ 150) : ∃ r, (∀ k, 2800 ≤ k → spec_l1FromFigures.f k s = some r) ∧ r.length ≤ 1000 := by
  obtain ⟨r, hr, h⟩ := fromFig_l0 s.size s [] rfl (by omega) (by simp; omega)
  exact ⟨r, fun k hk => hr k (by omega), h⟩
theorem l1Big_any (neg : Bool) (l : List Int) (hl : l.length ≤ 1000) : ∃ n r ok, (∀ k, 1010 ≤ k → spec_l1Big.f k neg l = some (n, r, ok)) ∧ r.length ≤ 16 := by
  by_cases h : ((trimL l).length : Int) > 16
  · refine ⟨false, [], false, fun k hk => ?_, by simp⟩
    unfold spec_l1Big.f
    rw [sTrim_ge l (by omega) k (by omega)]
    simp only [Option.bind_some]
    rw [if_pos h]
  · cases neg
    · refine ⟨false, trimL l, true, fun k hk => ?_, by omega⟩
      unfold spec_l1Big.f
      rw [sTrim_ge l (by omega) k (by omega)]
      simp only [Option.bind_some]
      rw [if_neg h, if_neg (by decide)]
    · refine ⟨decide (0 < (trimL l).length), trimL l, true, fun k hk => ?_, by omega⟩
      unfold spec_l1Big.f
      rw [sTrim_ge l (by omega) k (by omega)]
      simp only [Option.bind_some]
      rw [if_neg h, if_pos trivial]
theorem bigJ1_any {b : List Int} (hb : BytesOk b) {p : Int} (hp : 0 ≤ p) (hp' : p ≤ 500000) {n : Int} (hn : n ≤ 100) (s : ByteArray) (hs : s.size ≤ 150) :
    ∃ g r p', (∀ k, 3000 ≤ k → spec_l14Big.j1 k n s b p = some (g, r, p')) ∧ r.length ≤ 16 ∧ p ≤ p' ∧ p' ≤ p + 10 := by
  obtain ⟨x, hx, _, _⟩ := pick_ge hb hp (by omega) (n := 6) (by omega)
  obtain ⟨y, hy, _, _⟩ := pick_ge hb (p := p + 1) (by omega) (by omega) (n := 3) (by omega)
  by_cases h0 : x = 0
  · obtain ⟨t, ht, hts⟩ := many_any (⟨#[57]⟩ : ByteArray) rfl n hn
    obtain ⟨f, hf, hfl⟩ := fromFig_any t (by omega)
    obtain ⟨g, r, ok, hg, hr⟩ := l1Big_any (y == 0) f hfl
    refine ⟨g, r, p + 1 + 1, fun k hk => ?_, hr, by omega, by omega⟩
    obtain ⟨k, rfl⟩ : ∃ j, k = j + 1 := ⟨k - 1, by omega⟩
    rw [spec_l14Big.j1, hx k (by omega)]; simp only [Option.bind_some]
    rw [if_pos h0, ht k (by omega)]; simp only [Option.bind_some]
    rw [hy k (by omega)]; simp only [Option.bind_some]
    rw [hf k (by omega)]; simp only [Option.bind_some]
    rw [hg k (by omega)]; rfl
  · obtain ⟨f, hf, hfl⟩ := fromFig_any s hs
    obtain ⟨g, r, ok, hg, hr⟩ := l1Big_any (y == 0) f hfl
    refine ⟨g, r, p + 1 + 1, fun k hk => ?_, hr, by omega, by omega⟩
    obtain ⟨k, rfl⟩ : ∃ j, k = j + 1 := ⟨k - 1, by omega⟩
    rw [spec_l14Big.j1, hx k (by omega)]; simp only [Option.bind_some]
    rw [if_neg h0, hy k (by omega)]; simp only [Option.bind_some]
    rw [hf k (by omega)]; simp only [Option.bind_some]
    rw [hg k (by omega)]; rfl
theorem bigJ0_any {b : List Int} (hb : BytesOk b) {p : Int} (hp : 0 ≤ p) (hp' : p ≤ 400000) {n : Int} (hn0 : 0 ≤ n) (hn : n ≤ 100) :
    ∃ g r p', (∀ k, 3010 ≤ k → spec_l14Big.j0 k n b p = some (g, r, p')) ∧ r.length ≤ 16 ∧ p ≤ p' ∧ p' ≤ p + 400 := by
  obtain ⟨f, q, hf, hfs, q1, q2⟩ := figs_any hb hp (by omega) hn
  obtain ⟨x, hx, _, _⟩ := pick_ge hb (p := q) (by omega) (by omega) (n := 6) (by omega)
  by_cases h0 : x = 0
  · obtain ⟨t, ht, hts⟩ := many_any (⟨#[48]⟩ : ByteArray) rfl (wrap64 (n - 1)) (by rw [w64 (by omega) (by omega)]; omega)
    obtain ⟨g, r, p', hj, hr, z1, z2⟩ := bigJ1_any hb (p := q + 1) (by omega) (by omega) hn ((⟨#[49]⟩ : ByteArray) ++ t) (by rw [size_app]; show 1 + t.size ≤ 150; omega)
    refine ⟨g, r, p', fun k hk => ?_, hr, by omega, by omega⟩
    obtain ⟨k, rfl⟩ : ∃ j, k = j + 1 := ⟨k - 1, by omega⟩
    rw [spec_l14Big.j0, hf k (by omega)]; simp only [Option.bind_some]
    rw [hx k (by omega)]; simp only [Option.bind_some]
    rw [if_pos h0, ht k (by omega)]; simp only [Option.bind_some]
    rw [if_pos (by omega)]
    exact hj k (by omega)
  · obtain ⟨g, r, p', hj, hr, z1, z2⟩ := bigJ1_any hb (p := q + 1) (by omega) (by omega) hn f (by omega)
    refine ⟨g, r, p', fun k hk => ?_, hr, by omega, by omega⟩
    obtain ⟨k, rfl⟩ : ∃ j, k = j + 1 := ⟨k - 1, by omega⟩
    rw [spec_l14Big.j0, hf k (by omega)]; simp only [Option.bind_some]
    rw [hx k (by omega)]; simp only [Option.bind_some]
    rw [if_neg h0]
    exact hj k (by omega)
theorem big_any {b : List Int} (hb : BytesOk b) {p : Int} (hp : 0 ≤ p) (hp' : p ≤ 300000) {n : Int} (hn : 1 ≤ n) (hn' : n ≤ 64) :
    ∃ g r p', (∀ k, 3020 ≤ k → spec_l14Big.f k b p n = some (g, r, p')) ∧ r.length ≤ 16 ∧ p ≤ p' ∧ p' ≤ p + 500 := by
  obtain ⟨x, hx, x0, x1⟩ := pick_ge hb hp (by omega) (n := 64) (by omega)
  obtain ⟨y, hy, hym⟩ := one_ge hb (p := p + 1) (by omega) (by omega) (l := [0, 1, 1, 2, 3, 4, 5, 8, 9, 12, 17, 29, 30, 31, 33, 63, 64, wrap64 (1 + x)]) (by simp)
  have hy64 : 0 ≤ y ∧ y ≤ 64 := by
    rw [w64 (by omega) (by omega)] at hym
    simp only [List.mem_cons, List.not_mem_nil, or_false] at hym
    omega
  by_cases hc : y > n
  · obtain ⟨z, hz, z0, z1⟩ := pick_ge hb (p := p + 1 + 1) (by omega) (by omega) hn
    obtain ⟨g, r, p', hj, hr, w1, w2⟩ := bigJ0_any hb (p := p + 1 + 1 + 1) (by omega) (by omega) (n := wrap64 (1 + z)) (by rw [w64 (by omega) (by omega)]; omega) (by rw [w64 (by omega) (by omega)]; omega)
    refine ⟨g, r, p', fun k hk => ?_, hr, by omega, by omega⟩
    unfold spec_l14Big.f
    rw [hx k (by omega)]; simp only [Option.bind_some]
    rw [hy k (by omega)]; simp only [Option.bind_some]
    rw [if_pos hc, hz k (by omega)]; simp only [Option.bind_some]
    exact hj k (by omega)
  · obtain ⟨g, r, p', hj, hr, w1, w2⟩ := bigJ0_any hb (p := p + 1 + 1) (by omega) (by omega) (n := y) (by omega) (by omega)
    refine ⟨g, r, p', fun k hk => ?_, hr, by omega, by omega⟩
    unfold spec_l14Big.f
    rw [hx k (by omega)]; simp only [Option.bind_some]
    rw [hy k (by omega)]; simp only [Option.bind_some]
    rw [if_neg hc]
    exact hj k (by omega)
theorem anyBig_l0 {b : List Int} {p : Int} (g : Bool) : ∀ (m : Nat) (l : List Int), l.length ≤ 100 → 17 ≤ l.length + m → ∃ r, (∀ k, m + 1 ≤ k → spec_l14AnyBig.l0 k b p g l = some (g, r, p)) ∧ r.length ≤ 100 + m := by
  intro m
  induction m with
  | zero =>
    intro l h1 h2
    refine ⟨l, fun k hk => ?_, by omega⟩
    obtain ⟨k, rfl⟩ : ∃ j, k = j + 1 := ⟨k - 1, by omega⟩
    rw [spec_l14AnyBig.l0, if_neg (by omega)]
  | succ m ih =>
    intro l h1 h2
    by_cases h : (l.length : Int) < 17
    · obtain ⟨r, hr, hl⟩ := ih (l ++ [1]) (by simp; omega) (by simp; omega)
      refine ⟨r, fun k hk => ?_, by omega⟩
      obtain ⟨k, rfl⟩ : ∃ j, k = j + 1 := ⟨k - 1, by omega⟩
      rw [spec_l14AnyBig.l0, if_pos h, if_pos (by omega)]
      exact hr k (by omega)
    · refine ⟨l, fun k hk => ?_, by omega⟩
      obtain ⟨k, rfl⟩ : ∃ j, k = j + 1 := ⟨k - 1, by omega⟩
      rw [spec_l14AnyBig.l0, if_neg h]
theorem anyBig_any {b : List Int} (hb : BytesOk b) {p : Int} (hp : 0 ≤ p) (hp' : p ≤ 200000) :
    ∃ g r p', (∀ k, 3030 ≤ k → spec_l14AnyBig.f k b p = some (g, r, p')) ∧ r.length ≤ 200 ∧ p ≤ p' ∧ p' ≤ p + 600 := by
  obtain ⟨g, l, q, hg, hl, q1, q2⟩ := big_any hb hp (by omega) (n := 64) (by omega) (by omega)
  obtain ⟨x, hx, _, _⟩ := pick_ge hb (p := q) (by omega) (by omega) (n := 30) (by omega)
  by_cases h0 : x = 0
  · refine ⟨g, l ++ [0], q + 1, fun k hk => ?_, by simp; omega, by omega, by omega⟩
    unfold spec_l14AnyBig.f
    rw [hg k (by omega)]; simp only [Option.bind_some]
    rw [hx k (by omega)]; simp only [Option.bind_some]
    rw [if_pos h0, if_pos (by omega)]
  · by_cases h1 : x = 1
    · obtain ⟨y, hy, _⟩ := one_ge hb (p := q + 1) (by omega) (by omega) (l := [10000, (-1)]) (by decide)
      refine ⟨g, l ++ [y], q + 1 + 1, fun k hk => ?_, by simp; omega, by omega, by omega⟩
      unfold spec_l14AnyBig.f
      rw [hg k (by omega)]; simp only [Option.bind_some]
      rw [hx k (by omega)]; simp only [Option.bind_some]
      rw [if_neg h0, if_pos h1, hy k (by omega)]; simp only [Option.bind_some]
      rw [if_pos (by omega)]
    · by_cases h2 : x = 2
      · refine ⟨true, [], q + 1, fun k hk => ?_, by simp, by omega, by omega⟩
        unfold spec_l14AnyBig.f
        rw [hg k (by omega)]; simp only [Option.bind_some]
        rw [hx k (by omega)]; simp only [Option.bind_some]
        rw [if_neg h0, if_neg h1, if_pos h2]
      · by_cases h3 : x = 3
        · obtain ⟨r, hr, hrl⟩ := anyBig_l0 (b := b) (p := q + 1) g 17 l (by omega) (by omega)
          refine ⟨g, r, q + 1, fun k hk => ?_, by omega, by omega, by omega⟩
          unfold spec_l14AnyBig.f
          rw [hg k (by omega)]; simp only [Option.bind_some]
          rw [hx k (by omega)]; simp only [Option.bind_some]
          rw [if_neg h0, if_neg h1, if_neg h2, if_pos h3]
          exact hr k (by omega)
        · refine ⟨g, l, q + 1, fun k hk => ?_, by omega, by omega, by omega⟩
          unfold spec_l14AnyBig.f
          rw [hg k (by omega)]; simp only [Option.bind_some]
          rw [hx k (by omega)]; simp only [Option.bind_some]
          rw [if_neg h0, if_neg h1, if_neg h2, if_neg h3]
theorem two_any {l : List Int} (hl : ∀ x ∈ l, (Lit.int .u8 x).wf = true) : ∃ g r g' r', (∀ k, 3100 ≤ k → spec_l14TwoBigs.f k l = some (g, r, g', r')) ∧ r.length ≤ 200 ∧ r'.length ≤ 200 := by
  obtain ⟨b, hb, hB⟩ := open_any hl
  obtain ⟨g, r, p, hg, hr, p1, p2⟩ := anyBig_any hB (p := 0) (by omega) (by omega)
  obtain ⟨g', r', p', hg', hr', p1', p2'⟩ := anyBig_any hB (p := p) (by omega) (by omega)
  obtain ⟨x, hx, _, _⟩ := pick_ge hB (p := p') (by omega) (by omega) (n := 6) (by omega)
  by_cases h0 : x = 0
  · cases g
    · refine ⟨false, r, decide (0 < r.length), r, fun k hk => ?_, hr, hr⟩
      unfold spec_l14TwoBigs.f
      rw [hb]; simp only [Option.bind_some]
      rw [hg k (by omega)]; simp only [Option.bind_some]
      rw [hg' k (by omega)]; simp only [Option.bind_some]
      rw [hx k (by omega)]; simp only [Option.bind_some]
      rw [if_pos h0, if_neg (by decide), if_pos (by simp; omega)]
      simp
    · refine ⟨true, r, false, r, fun k hk => ?_, hr, hr⟩
      unfold spec_l14TwoBigs.f
      rw [hb]; simp only [Option.bind_some]
      rw [hg k (by omega)]; simp only [Option.bind_some]
      rw [hg' k (by omega)]; simp only [Option.bind_some]
      rw [hx k (by omega)]; simp only [Option.bind_some]
      rw [if_pos h0, if_pos trivial, if_pos (by simp; omega)]
      simp
  · refine ⟨g, r, g', r', fun k hk => ?_, hr, hr'⟩
    unfold spec_l14TwoBigs.f
    rw [hb]; simp only [Option.bind_some]
    rw [hg k (by omega)]; simp only [Option.bind_some]
    rw [hg' k (by omega)]; simp only [Option.bind_some]
    rw [hx k (by omega)]; simp only [Option.bind_some]
    rw [if_neg h0]
theorem drawSub_any {l : List Int} (hl : ∀ x ∈ l, (Lit.int .u8 x).wf = true) : ∃ g r g' r', (∀ k, 3100 ≤ k → spec_DrawBigSub.f k l = some (g, r, g', r')) ∧ r.length ≤ 200 ∧ r'.length ≤ 200 := by
  obtain ⟨g, r, g', r', h, h1, h2⟩ := two_any hl
  refine ⟨g, r, g', r', fun k hk => ?_, h1, h2⟩
  unfold spec_DrawBigSub.f; rw [h k hk]; rfl
end Go.Proofs.Ytdemeoncjcbojaa.Val
end
section
namespace Go.Proofs.Ytdemeoncjcbojaa.Pure
open Go.RowKit Go.Proofs.Ytdemeoncjcbojaa.Pr Go.Proofs.Ytdemeoncjcbojaa.Ext Go.Proofs.Ytdemeoncjcbojaa.Jt Go.Proofs.Ytdemeoncjcbojaa.Val Go.Proofs.YtdemeoncjcbojaaW.PrintWords Go.Proofs.YtdemeoncjcbojaaW.PrintLast Go.Proofs.YtdemeoncjcbojaaW.PrintMore
set_option linter.unusedVariables false
set_option linter.unusedSimpArgs false
namespace BFnBigSub
theorem subR_yes {n n' : Bool} {a b : List Int} (h : (subR n a n' b).2.2 = true) :
    okB n a = true ∧ okB n' b = true ∧ (-pw 16 < bigv n a - bigv n' b ∧ bigv n a - bigv n' b < pw 16) ∧ subR n a n' b = (mkN (bigv n a - bigv n' b), mkL (bigv n a - bigv n' b), true) := by
  unfold subR at h ⊢
  split at h
  · rename_i hc
    have hr := bigR_yes h
    rw [if_pos hc]
    exact ⟨hc.1, hc.2, hr, by unfold bigR; rw [if_pos hr]⟩
  · cases h
theorem bigR_zero : bigR 0 = (false, [], true) := by
  unfold bigR
  have := pw_pos 16
  rw [if_pos (by omega)]
  unfold mkN mkL
  rw [if_neg (by decide), rep_zero]; rfl
end BFnBigSub
open BFnBigSub
theorem FnBigSub : laws_FnBigSub.Pure := by
  intro l _ _ hl
  refine ⟨8000, ?_⟩
  unfold laws_FnBigSub.f
  by_cases hlen : (l.length : Int) > 1048576
  · rw [if_pos hlen]
  · rw [if_neg hlen]
    obtain ⟨n, a, n', b, hd, ha, hb⟩ := drawSub_any hl
    rw [hd 8000 (by omega)]; simp only [Option.bind_some]
    rw [iBigSub_ge n a n' b 8000 (by omega), sBigSub_ge n a n' b 8000 (by omega)]; simp only [Option.bind_some]
    have hxl := subR_len n a n' b
    rw [if_neg (by simp), jtBig_ge _ _ _ _ (by omega) 8000 (by omega)]; simp only [Option.bind_some]
    rw [if_pos (by simp)]
    by_cases hok : (subR n a n' b).2.2 = true
    · obtain ⟨o1, o2, hr, he⟩ := subR_yes hok
      rw [he]
      have ho := okB_mk hr
      have hr' : -pw 16 < bigv n' b - bigv n a ∧ bigv n' b - bigv n a < pw 16 := by omega
      have ho' := okB_mk hr'
      have hs : subR n' b n a = (mkN (bigv n' b - bigv n a), mkL (bigv n' b - bigv n a), true) := by
        unfold subR bigR
        rw [if_pos ⟨o2, o1⟩, if_pos hr']
      have ht : addR (mkN (bigv n a - bigv n' b)) (mkL (bigv n a - bigv n' b)) (mkN (bigv n' b - bigv n a)) (mkL (bigv n' b - bigv n a)) = (false, [], true) := by
        unfold addR
        rw [if_pos ⟨ho, ho'⟩, mk_v, mk_v, show bigv n a - bigv n' b + (bigv n' b - bigv n a) = 0 from by omega, bigR_zero]
      have hu : subR n a n a = (false, [], true) := by
        unfold subR
        rw [if_pos ⟨o1, o1⟩, Int.sub_self, bigR_zero]
      rw [if_pos (by rfl), iBigSub_ge _ _ _ _ 8000 (by omega), iBigSub_ge _ _ _ _ 8000 (by omega), hs]
      simp only [Option.bind_some]
      rw [iBigAdd_ge _ _ _ _ 8000 (by omega), ht, hu]
      simp only [Option.bind_some]
      rw [if_pos trivial, if_pos trivial, if_pos trivial, jtZero_f]
      rfl
    · rw [if_neg hok, if_pos (by simp)]
      simp
end Go.Proofs.Ytdemeoncjcbojaa.Pure
end
