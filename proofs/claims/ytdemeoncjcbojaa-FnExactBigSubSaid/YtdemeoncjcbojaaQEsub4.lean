/- What the claim's row needs of the contracts and words below it, and no more. -/
import Derived.Test.YtdemeoncjcbojaaQEsub3
section
namespace Go.Proofs.Ytdemeoncjcbojaa.Jt
def pw (n : Nat) : Int := 10000 ^ n
theorem pw_zero : pw 0 = 1 := rfl
theorem pw_succ (n : Nat) : pw (n + 1) = 10000 * pw n := by unfold pw; rw [Int.pow_succ]; omega
theorem pw_pos (n : Nat) : 1 ≤ pw n := by
  induction n with
  | zero => decide
  | succ n ih => rw [pw_succ]; omega
theorem pw_mono {m n : Nat} (h : m ≤ n) : pw m ≤ pw n := by
  obtain ⟨d, rfl⟩ := Nat.exists_eq_add_of_le h
  induction d with
  | zero => exact Int.le_refl _
  | succ d ih =>
    have h1 := ih (by omega)
    have h2 := pw_pos (m + d)
    rw [show m + (d + 1) = (m + d) + 1 from rfl, pw_succ]
    omega
def val : List Int → Int
  | [] => 0
  | x :: xs => x + 10000 * val xs
def Dig (l : List Int) : Prop := ∀ x ∈ l, 0 ≤ x ∧ x ≤ 9999
def Nz (l : List Int) : Prop := l.length = 0 ∨ l.getD (l.length - 1) 0 ≠ 0
theorem getD_lt {l : List Int} {i : Nat} (h : i < l.length) : l.getD i 0 = l[i] := by rw [List.getD_eq_getElem?_getD, List.getElem?_eq_getElem h]; rfl
theorem getD_ge {l : List Int} {i : Nat} (h : l.length ≤ i) : l.getD i 0 = 0 := by rw [List.getD_eq_getElem?_getD, List.getElem?_eq_none h]; rfl
theorem val_nil : val [] = 0 := rfl
theorem val_append (a b : List Int) : val (a ++ b) = val a + pw a.length * val b := by
  induction a with
  | nil => simp [val, pw_zero]
  | cons x xs ih => simp only [List.cons_append, val, ih, List.length_cons, pw_succ]; rw [Int.mul_add, Int.mul_assoc]; omega
theorem Dig.nil : Dig [] := fun x h => by cases h
theorem Dig.cons {x : Int} {xs : List Int} (h0 : 0 ≤ x) (h1 : x ≤ 9999) (h : Dig xs) : Dig (x :: xs) := by
  intro y hy
  rcases List.mem_cons.1 hy with rfl | hy
  · exact ⟨h0, h1⟩
  · exact h y hy
theorem Dig.head {x : Int} {xs : List Int} (h : Dig (x :: xs)) : 0 ≤ x ∧ x ≤ 9999 := h x (by simp)
theorem Dig.tail {x : Int} {xs : List Int} (h : Dig (x :: xs)) : Dig xs := fun y hy => h y (by simp [hy])
theorem Dig.take {l : List Int} (h : Dig l) (n : Nat) : Dig (l.take n) := fun x hx => h x (List.mem_of_mem_take hx)
theorem Dig.append {a b : List Int} (ha : Dig a) (hb : Dig b) : Dig (a ++ b) := by
  intro x hx
  rcases List.mem_append.1 hx with h | h
  · exact ha x h
  · exact hb x h
theorem Dig.getD {l : List Int} (h : Dig l) (i : Nat) : 0 ≤ l.getD i 0 ∧ l.getD i 0 ≤ 9999 := by
  by_cases hi : i < l.length
  · rw [getD_lt hi]; exact h _ (List.getElem_mem hi)
  · rw [getD_ge (by omega)]; omega
theorem dig_of_getD {l : List Int} (h : ∀ i, i < l.length → 0 ≤ l.getD i 0 ∧ l.getD i 0 ≤ 9999) : Dig l := by
  intro x hx
  obtain ⟨i, hi, rfl⟩ := List.getElem_of_mem hx
  have := h i hi
  rwa [getD_lt hi] at this
theorem val_nonneg {l : List Int} (h : Dig l) : 0 ≤ val l := by
  induction l with
  | nil => exact Int.le_refl _
  | cons x xs ih =>
    have h1 := ih h.tail
    have h2 := h.head
    simp only [val]; omega
theorem val_lt {l : List Int} (h : Dig l) : val l < pw l.length := by
  induction l with
  | nil => decide
  | cons x xs ih =>
    have h1 := ih h.tail
    have h2 := h.head
    simp only [val, List.length_cons, pw_succ]; omega
theorem val_set (l : List Int) : ∀ (i : Nat) (v : Int), i < l.length → val (l.set i v) = val l + pw i * (v - l.getD i 0) := by
  induction l with
  | nil => intro i v h; simp at h
  | cons x xs ih =>
    intro i v h
    cases i with
    | zero => simp only [List.set_cons_zero, val, List.getD_cons_zero, pw_zero]; omega
    | succ i =>
      simp only [List.set_cons_succ, val, List.getD_cons_succ, pw_succ]
      rw [ih i v (by simpa using h), Int.mul_add, Int.mul_assoc]
      omega
theorem getD_set (l : List Int) (i j : Nat) (v : Int) (h : i < l.length) : (l.set i v).getD j 0 = if j = i then v else l.getD j 0 := by
  by_cases hj : j = i
  · subst hj
    rw [if_pos rfl, List.getD_eq_getElem?_getD, List.getElem?_set_self h]; rfl
  · rw [if_neg hj, List.getD_eq_getElem?_getD, List.getElem?_set_ne (Ne.symm hj), List.getD_eq_getElem?_getD]
theorem val_split (l : List Int) {n : Nat} (h : n ≤ l.length) : val l = val (l.take n) + pw n * val (l.drop n) := by
  have := val_append (l.take n) (l.drop n)
  rw [List.take_append_drop, List.length_take, Nat.min_eq_left h] at this
  exact this
theorem drop_cons {l : List Int} {n : Nat} (h : n < l.length) : l.drop n = l.getD n 0 :: l.drop (n + 1) := by
  rw [List.drop_eq_getElem_cons h, getD_lt h]
theorem val_zeros {l : List Int} (h : ∀ i, i < l.length → l.getD i 0 = 0) : val l = 0 := by
  induction l with
  | nil => rfl
  | cons x xs ih =>
    have h0 := h 0 (by simp)
    have h1 := ih (fun i hi => by have := h (i + 1) (by simpa using hi); simpa using this)
    simp at h0
    simp only [val, h0, h1]; decide
theorem val_replicate (n : Nat) : val (List.replicate n 0) = 0 := val_zeros fun i hi => by
  rw [List.length_replicate] at hi
  rw [getD_lt (by simpa using hi), List.getElem_replicate]
theorem val_ge {l : List Int} (h : Dig l) (hz : Nz l) (hne : 0 < l.length) : pw (l.length - 1) ≤ val l := by
  have hs := val_split l (n := l.length - 1) (by omega)
  rw [drop_cons (by omega), show l.length - 1 + 1 = l.length from by omega, List.drop_length] at hs
  have h1 := val_nonneg (h.take (l.length - 1))
  have h2 := h.getD (l.length - 1)
  have h3 : l.getD (l.length - 1) 0 ≠ 0 := hz.resolve_left (by omega)
  have hp := pw_pos (l.length - 1)
  simp only [val] at hs
  have h4 : pw (l.length - 1) * 1 ≤ pw (l.length - 1) * (l.getD (l.length - 1) 0 + 10000 * 0) := Int.mul_le_mul_of_nonneg_left (by omega) (by omega)
  omega
theorem uniq {a : List Int} : ∀ {b : List Int}, Dig a → Dig b → Nz a → Nz b → val a = val b → a = b := by
  induction a with
  | nil =>
    intro b _ hb _ zb e
    cases b with
    | nil => rfl
    | cons y ys =>
      have := val_ge hb zb (by simp)
      have := pw_pos ((y :: ys).length - 1)
      rw [val_nil] at e
      omega
  | cons x xs ih =>
    intro b ha hb za zb e
    cases b with
    | nil =>
      have := val_ge ha za (by simp)
      have := pw_pos ((x :: xs).length - 1)
      rw [val_nil] at e
      omega
    | cons y ys =>
      have hx := ha.head
      have hy := hb.head
      simp only [val] at e
      have e1 : x = y := by omega
      have e2 : val xs = val ys := by omega
      have zt : ∀ {z : Int} {zs : List Int}, Nz (z :: zs) → Nz zs := by
        intro z zs h
        cases zs with
        | nil => left; rfl
        | cons u us =>
          right
          have h' := h.resolve_left (by simp)
          simpa using h'
      rw [e1, ih ha.tail hb.tail (zt za) (zt zb) e2]
def repN (n : Nat) : List Int := if h : n = 0 then [] else ((n % 10000 : Nat) : Int) :: repN (n / 10000)
termination_by n
decreasing_by omega
def rep (v : Int) : List Int := repN v.toNat
theorem repN_zero : repN 0 = [] := by rw [repN]; simp
theorem repN_pos {n : Nat} (h : n ≠ 0) : repN n = ((n % 10000 : Nat) : Int) :: repN (n / 10000) := by rw [repN]; simp [h]
theorem repN_ok (n : Nat) : Dig (repN n) ∧ val (repN n) = n ∧ Nz (repN n) := by
  induction n using Nat.strongRecOn with
  | ind n ih =>
    by_cases h : n = 0
    · subst h; rw [repN_zero]; exact ⟨Dig.nil, rfl, .inl rfl⟩
    · obtain ⟨h1, h2, h3⟩ := ih (n / 10000) (by omega)
      rw [repN_pos h]
      refine ⟨Dig.cons (by omega) (by omega) h1, by simp only [val, h2]; omega, .inr ?_⟩
      by_cases hq : n / 10000 = 0
      · rw [hq, repN_zero]; simp; omega
      · have hne : (repN (n / 10000)).length ≠ 0 := by rw [repN_pos hq]; simp
        have := h3.resolve_left hne
        rw [List.length_cons, show (repN (n / 10000)).length + 1 - 1 = ((repN (n / 10000)).length - 1) + 1 from by omega, List.getD_cons_succ]
        exact this
theorem rep_dig (v : Int) : Dig (rep v) := (repN_ok _).1
theorem rep_nz (v : Int) : Nz (rep v) := (repN_ok _).2.2
theorem rep_val {v : Int} (h : 0 ≤ v) : val (rep v) = v := by unfold rep; rw [(repN_ok _).2.1]; omega
theorem rep_of {l : List Int} (hd : Dig l) (hz : Nz l) : rep (val l) = l := uniq (rep_dig _) hd (rep_nz _) hz (rep_val (val_nonneg hd))
theorem is_rep {l : List Int} {v : Int} (hd : Dig l) (hz : Nz l) (hv : val l = v) : l = rep v := by rw [← hv, rep_of hd hz]
theorem rep_zero : rep 0 = [] := repN_zero
theorem rep_nil {v : Int} (h : 0 ≤ v) : rep v = [] ↔ v = 0 := by
  constructor
  · intro e
    have := rep_val h
    rw [e] at this
    exact this.symm
  · rintro rfl; exact rep_zero
theorem rep_len {v : Int} (h : 0 ≤ v) (n : Nat) : (rep v).length ≤ n ↔ v < pw n := by
  have hv := rep_val h
  have hl := val_lt (rep_dig v)
  constructor
  · intro hle
    have := pw_mono hle
    omega
  · intro hlt
    apply Nat.le_of_not_lt
    intro hgt
    have hg := val_ge (rep_dig v) (rep_nz v) (by omega)
    have := pw_mono (show n ≤ (rep v).length - 1 by omega)
    omega
def TrimOf (l r : List Int) : Prop := ∃ n, n ≤ l.length ∧ r = l.take n ∧ (∀ j, n ≤ j → j < l.length → l.getD j 0 = 0) ∧ (0 < n → l.getD (n - 1) 0 ≠ 0)
theorem TrimOf.dig {l r : List Int} (h : TrimOf l r) (hd : Dig l) : Dig r := by obtain ⟨n, _, rfl, _, _⟩ := h; exact hd.take n
theorem TrimOf.val {l r : List Int} (h : TrimOf l r) : Jt.val r = Jt.val l := by
  obtain ⟨n, hn, rfl, hz, _⟩ := h
  have hs := val_split l hn
  have : Jt.val (l.drop n) = 0 := val_zeros fun i hi => by
    rw [List.length_drop] at hi
    have := hz (n + i) (by omega) (by omega)
    rw [List.getD_eq_getElem?_getD] at this ⊢
    rw [List.getElem?_drop]; exact this
  rw [this] at hs
  omega
theorem getD_take (l : List Int) {i n : Nat} (h : i < n) : (l.take n).getD i 0 = l.getD i 0 := by
  rw [List.getD_eq_getElem?_getD, List.getD_eq_getElem?_getD, List.getElem?_take_of_lt h]
theorem TrimOf.nz {l r : List Int} (h : TrimOf l r) : Nz r := by
  obtain ⟨n, hn, rfl, _, hlast⟩ := h
  by_cases h0 : n = 0
  · left; simp [h0]
  · right
    rw [List.length_take, Nat.min_eq_left hn, getD_take l (by omega)]
    exact hlast (by omega)
theorem TrimOf.rep {l r : List Int} (h : TrimOf l r) (hd : Dig l) {v : Int} (hv : Jt.val l = v) : r = Jt.rep v := is_rep (h.dig hd) h.nz (h.val.trans hv)
theorem TrimOf.len {l r : List Int} (h : TrimOf l r) : r.length ≤ l.length := by obtain ⟨n, hn, rfl, _, _⟩ := h; rw [List.length_take]; omega
theorem val_lt_of_len {a b : List Int} (ha : Dig a) (hb : Dig b) (zb : Nz b) (h : a.length < b.length) : val a < val b := by
  have h1 := val_lt ha
  have h2 := val_ge hb zb (by omega)
  have := pw_mono (show a.length ≤ b.length - 1 by omega)
  omega
theorem val_lt_at {a b : List Int} (ha : Dig a) (hb : Dig b) {i : Nat} (h1 : i < a.length) (h2 : i < b.length) (hd : a.drop (i + 1) = b.drop (i + 1)) (hlt : a.getD i 0 < b.getD i 0) : val a < val b := by
  have ea := val_split a (n := i) (by omega)
  have eb := val_split b (n := i) (by omega)
  rw [drop_cons h1] at ea
  rw [drop_cons h2, ← hd] at eb
  simp only [val] at ea eb
  have la := val_lt (ha.take i)
  have nb := val_nonneg (hb.take i)
  rw [List.length_take, Nat.min_eq_left (by omega)] at la
  have hp := pw_pos i
  have hm : pw i * (a.getD i 0 + 1) ≤ pw i * b.getD i 0 := Int.mul_le_mul_of_nonneg_left (by omega) (by omega)
  rw [Int.mul_add] at ea eb hm
  omega
def bigv (neg : Bool) (l : List Int) : Int := if neg = true then -val l else val l
def BOk (neg : Bool) (l : List Int) : Prop := l.length ≤ 16 ∧ Dig l ∧ Nz l ∧ (neg = true → l.length ≠ 0)
def mkN (x : Int) : Bool := decide (x < 0)
def mkL (x : Int) : List Int := rep (if x < 0 then -x else x)
theorem mk_ok {x : Int} (h1 : -pw 16 < x) (h2 : x < pw 16) : BOk (mkN x) (mkL x) := by
  have h0 : 0 ≤ (if x < 0 then -x else x) := by split <;> omega
  refine ⟨(rep_len h0 16).2 (by split <;> omega), rep_dig _, rep_nz _, ?_⟩
  intro hn hl
  have := of_decide_eq_true hn
  have e := rep_val h0
  unfold mkL at hl
  rw [List.length_eq_zero_iff.1 hl, val_nil] at e
  split at e <;> omega
end Go.Proofs.Ytdemeoncjcbojaa.Jt
end
section
namespace Go.Proofs.Ytdemeoncjcbojaa.Val
open Go.RowKit Go.Proofs.Ytdemeoncjcbojaa.Pr Go.Proofs.Ytdemeoncjcbojaa.Ext Go.Proofs.Ytdemeoncjcbojaa.Jt Go.Proofs.YtdemeoncjcbojaaW.PrintWords Go.Proofs.YtdemeoncjcbojaaW.PrintLast Go.Proofs.YtdemeoncjcbojaaW.PrintMore
set_option linter.unusedVariables false
set_option linter.unusedSimpArgs false
theorem w64 {x : Int} (h : -9223372036854775808 ≤ x) (h' : x ≤ 9223372036854775807) : wrap64 x = x := by unfold wrap64; omega
theorem rdn (l : List Int) (i : Int) : rd l i = l.getD i.toNat 0 := rfl
def okD (x : Int) : Bool := decide (0 ≤ x) && decide (x ≤ 9999)
def okB (neg : Bool) (l : List Int) : Bool := decide (l.length ≤ 16) && l.all okD && (decide (l.length = 0) || decide (l.getD (l.length - 1) 0 ≠ 0)) && (!neg || decide (l.length ≠ 0))
theorem okB_iff (neg : Bool) (l : List Int) : okB neg l = true ↔ BOk neg l := by
  unfold okB BOk Dig Nz
  simp only [Bool.and_eq_true, decide_eq_true_eq, List.all_eq_true, okD, Bool.or_eq_true, Bool.not_eq_true']
  constructor
  · rintro ⟨⟨⟨a, b⟩, c⟩, d⟩
    exact ⟨a, b, c, fun h => d.resolve_left (by simp [h])⟩
  · rintro ⟨a, b, c, d⟩
    refine ⟨⟨⟨a, b⟩, c⟩, ?_⟩
    cases neg
    · exact .inl rfl
    · exact .inr (d rfl)
theorem in_ge (x : Int) : spec_l1In.f x 0 9999 = some (okD x) := by
  unfold spec_l1In.f okD
  by_cases h : x ≥ 0
  · rw [if_pos h, decide_eq_true h, Bool.true_and]
  · rw [if_neg h, decide_eq_false h, Bool.false_and]
theorem bne_d (x : Int) : (x != 0) = decide (x ≠ 0) := by by_cases h : x = 0 <;> simp [h]
theorem l1Ok_l0 (neg : Bool) (l : List Int) (hl : l.length ≤ 16) : ∀ (m k i : Nat), i + m = l.length → m + 1 ≤ k →
    spec_l1Ok.l0 k (i : Int) neg l = some ((l.drop i).all okD && (decide (l.length = 0) || decide (l.getD (l.length - 1) 0 ≠ 0))) := by
  intro m
  induction m with
  | zero =>
    intro k i hi hk
    obtain ⟨k, rfl⟩ : ∃ j, k = j + 1 := ⟨k - 1, by omega⟩
    rw [spec_l1Ok.l0, if_neg (by omega), List.drop_eq_nil_of_le (by omega)]
    by_cases h0 : l.length = 0
    · rw [if_pos (by omega)]; simp [h0]
    · rw [if_neg (by omega), w64 (by omega) (by omega), if_pos (by omega), if_pos (by omega), rdn, show ((l.length : Int) - 1).toNat = l.length - 1 from by omega, bne_d, decide_eq_false h0]
      rfl
  | succ m ih =>
    intro k i hi hk
    obtain ⟨k, rfl⟩ : ∃ j, k = j + 1 := ⟨k - 1, by omega⟩
    have hlt : i < l.length := by omega
    rw [spec_l1Ok.l0, if_pos (by omega), if_pos (by omega), in_ge]
    simp only [Option.bind_some]
    rw [rdn, Int.toNat_natCast, drop_cons hlt, List.all_cons]
    by_cases hb : okD (l.getD i 0) = true
    · rw [if_pos hb, w64 (by omega) (by omega), show ((i : Int) + 1) = ((i + 1 : Nat) : Int) from by omega, ih k (i + 1) (by omega) (by omega), hb, Bool.true_and]
    · rw [if_neg hb, Bool.eq_false_iff.mpr hb]; simp
theorem l1Ok_ge (neg : Bool) (l : List Int) (k : Nat) (hk : 30 ≤ k) : spec_l1Ok.f k neg l = some (okB neg l) := by
  obtain ⟨k, rfl⟩ : ∃ j, k = j + 1 := ⟨k - 1, by omega⟩
  unfold spec_l1Ok.f okB
  by_cases h16 : (l.length : Int) > 16
  · rw [if_pos h16, spec_l1Ok.j0, if_pos rfl, decide_eq_false (show ¬ l.length ≤ 16 by omega)]; simp
  · have e := l1Ok_l0 neg l (by omega) l.length k 0 (by omega) (by omega)
    rw [List.drop_zero] at e
    rw [if_neg h16, decide_eq_true (show l.length ≤ 16 by omega), Bool.true_and]
    cases neg
    · rw [if_neg (by decide), spec_l1Ok.j0, if_neg (by decide)]
      refine e.trans ?_
      simp
    · rw [if_pos rfl, spec_l1Ok.j0]
      by_cases h0 : l.length = 0
      · rw [if_pos (by simp [h0])]; simp [h0]
      · rw [if_neg (by simp; intro hn; simp [hn] at h0)]
        refine e.trans ?_
        rw [decide_eq_true (show l.length ≠ 0 from h0)]
        simp
theorem any_bad (l : List Int) : l.any bad = !(l.all okD) := by
  induction l with
  | nil => rfl
  | cons x xs ih => rw [List.any_cons, List.all_cons, ih, Bool.not_and]; rfl
theorem bigOk_f (neg : Bool) (l : List Int) : impl_BigOk.f neg l = some (okB neg l) := by
  unfold impl_BigOk.f okB containsBad.f
  simp only [any_bad, Option.bind_some, Bool.not_not]
  by_cases h16 : (l.length : Int) ≤ 16
  · rw [if_pos h16, decide_eq_true (show l.length ≤ 16 by omega), Bool.true_and]
    by_cases h0 : (l.length : Int) = 0
    · rw [if_pos h0]
      have h0' : l.length = 0 := by omega
      cases neg
      · rw [if_neg (by decide)]; simp [h0']
      · rw [if_pos rfl, if_neg (by omega)]; simp [h0']
    · have h0' : l.length ≠ 0 := by omega
      rw [if_neg h0, if_pos (by omega), w64 (by omega) (by omega), if_pos (by omega), if_pos (by omega), rdn, show ((l.length : Int) - 1).toNat = l.length - 1 from by omega, decide_eq_false h0', decide_eq_true (show l.length ≠ 0 from h0'), Bool.false_or, Bool.or_true, Bool.and_true]
      by_cases hz : l.getD (l.length - 1) 0 = 0
      · rw [if_pos hz, decide_eq_false (by simpa using hz)]; simp
      · rw [if_neg hz, decide_eq_true hz]; simp
  · rw [if_neg h16, decide_eq_false (show ¬ l.length ≤ 16 by omega)]; simp
def trimN (l : List Int) : Nat → Nat
  | 0 => 0
  | n + 1 => if l.getD n 0 = 0 then trimN l n else n + 1
def trimL (l : List Int) : List Int := l.take (trimN l l.length)
theorem trimN_le (l : List Int) (n : Nat) : trimN l n ≤ n := by
  induction n with
  | zero => exact Nat.le_refl _
  | succ n ih => unfold trimN; split <;> omega
theorem trimN_hi (l : List Int) (n : Nat) : ∀ j, trimN l n ≤ j → j < n → l.getD j 0 = 0 := by
  induction n with
  | zero => intro j _ h; omega
  | succ n ih =>
    intro j h1 h2
    unfold trimN at h1
    split at h1
    · rename_i h
      by_cases hj : j = n
      · rw [hj]; exact h
      · exact ih j h1 (by omega)
    · omega
theorem trimN_nz (l : List Int) (n : Nat) : 0 < trimN l n → l.getD (trimN l n - 1) 0 ≠ 0 := by
  induction n with
  | zero => intro h; simp [trimN] at h
  | succ n ih =>
    unfold trimN
    split
    · exact ih
    · rename_i h; intro _; rw [Nat.add_sub_cancel]; exact h
theorem trimL_of (l : List Int) : TrimOf l (trimL l) := ⟨trimN l l.length, trimN_le _ _, rfl, trimN_hi _ _, trimN_nz _ _⟩
theorem trimL_len (l : List Int) : (trimL l).length ≤ l.length := (trimL_of l).len
theorem trimL_rep {l : List Int} (hd : Dig l) : trimL l = rep (val l) := (trimL_of l).rep hd rfl
theorem sTrim_l0 (l : List Int) (hl : l.length < 1000000) : ∀ (n k : Nat), n ≤ l.length → n + 1 ≤ k → spec_l1Trim.l0 k l (n : Int) = some (l.take (trimN l n)) := by
  intro n
  induction n with
  | zero =>
    intro k hn hk
    obtain ⟨k, rfl⟩ : ∃ j, k = j + 1 := ⟨k - 1, by omega⟩
    rw [spec_l1Trim.l0, if_neg (by omega)]
    simp only [Option.bind_some]
    rw [if_pos (by omega), if_pos (by omega), if_pos (by simp)]
    simp [trimN]
  | succ n ih =>
    intro k hn hk
    obtain ⟨k, rfl⟩ : ∃ j, k = j + 1 := ⟨k - 1, by omega⟩
    rw [spec_l1Trim.l0, if_pos (by omega), w64 (by omega) (by omega), show (((n + 1 : Nat) : Int) - 1) = (n : Int) from by omega, if_pos (by omega), if_pos (by omega), rdn, Int.toNat_natCast]
    unfold trimN
    by_cases h : l.getD n 0 = 0
    · rw [if_pos h, if_pos h]; exact ih k (by omega) (by omega)
    · rw [if_neg h, if_neg h]
      simp only [Option.bind_some]
      rw [if_pos (by omega), if_pos (by omega), Int.toNat_natCast, if_pos (by rw [List.length_take]; simp; omega)]
      simp
theorem sTrim_ge (l : List Int) (hl : l.length < 1000000) (k : Nat) (hk : l.length + 1 ≤ k) : spec_l1Trim.f k l = some (trimL l) := sTrim_l0 l hl l.length k (Nat.le_refl _) hk
theorem iTrim_l0 (l : List Int) (hl : l.length < 1000000) : ∀ (n k : Nat), n ≤ l.length → n + 1 ≤ k → impl_limbs_trim.l0 k (l.take n) = some (l.take (trimN l n)) := by
  intro n
  induction n with
  | zero =>
    intro k hn hk
    obtain ⟨k, rfl⟩ : ∃ j, k = j + 1 := ⟨k - 1, by omega⟩
    rw [impl_limbs_trim.l0, if_neg (by simp)]
    rfl
  | succ n ih =>
    intro k hn hk
    obtain ⟨k, rfl⟩ : ∃ j, k = j + 1 := ⟨k - 1, by omega⟩
    have hlen : (l.take (n + 1)).length = n + 1 := by rw [List.length_take]; omega
    rw [impl_limbs_trim.l0, hlen, if_pos (by omega), w64 (by omega) (by omega), show (((n + 1 : Nat) : Int) - 1) = (n : Int) from by omega, if_pos (by omega), if_pos (by omega), rdn, Int.toNat_natCast, getD_take l (by omega)]
    unfold trimN
    by_cases h : l.getD n 0 = 0
    · rw [if_pos h, if_pos h, if_pos (by omega), List.take_take, Nat.min_eq_left (by omega)]; exact ih k (by omega) (by omega)
    · rw [if_neg h, if_neg h]
theorem iTrim_ge (l : List Int) (hl : l.length < 1000000) (k : Nat) (hk : l.length + 1 ≤ k) : impl_limbs_trim.f k l = some (trimL l) := by
  have e := iTrim_l0 l hl l.length k (Nat.le_refl _) hk
  rw [List.take_length] at e
  exact e
def bigR (x : Int) : Bool × List Int × Bool := if -pw 16 < x ∧ x < pw 16 then (mkN x, mkL x, true) else (false, [], false)
theorem bigR_of {neg : Bool} {l : List Int} (hd : Dig l) :
    (if ((rep (val l)).length : Int) > 16 then (false, ([] : List Int), false) else if neg = true then (decide (0 < (rep (val l)).length), rep (val l), true) else (false, rep (val l), true)) = bigR (bigv neg l) := by
  have h0 := val_nonneg hd
  have hr := rep_len h0 16
  have hp := pw_pos 16
  unfold bigR
  by_cases h : ((rep (val l)).length : Int) > 16
  · have hv : ¬ val l < pw 16 := fun hc => by have := hr.2 hc; omega
    rw [if_pos h, if_neg]
    unfold bigv
    split <;> omega
  · have hv : val l < pw 16 := hr.1 (by omega)
    have hin : -pw 16 < bigv neg l ∧ bigv neg l < pw 16 := by unfold bigv; split <;> omega
    rw [if_neg h, if_pos hin]
    cases neg
    · rw [if_neg (by decide)]
      unfold bigv mkN mkL
      rw [if_neg (by decide), if_neg (by omega), decide_eq_false (by omega)]
    · rw [if_pos rfl]
      unfold bigv mkN mkL
      rw [if_pos rfl]
      have hz := rep_nil h0
      by_cases hv0 : val l = 0
      · rw [hv0, rep_zero]; simp [rep_zero]
      · rw [if_pos (by omega), Int.neg_neg, decide_eq_true (show -val l < 0 by omega)]
        have : 0 < (rep (val l)).length := by
          apply Nat.pos_of_ne_zero
          intro hc
          exact hv0 (hz.1 (List.length_eq_zero_iff.1 hc))
        rw [decide_eq_true this]
theorem l1Big_ge {l : List Int} (hd : Dig l) (hl : l.length ≤ 1000) (neg : Bool) (k : Nat) (hk : 1010 ≤ k) : spec_l1Big.f k neg l = some (bigR (bigv neg l)) := by
  unfold spec_l1Big.f
  rw [sTrim_ge l (by omega) k (by omega), ← bigR_of hd, trimL_rep hd]
  simp only [Option.bind_some]
  (repeat' split) <;> simp_all
theorem big_ge {l : List Int} (hd : Dig l) (hl : l.length ≤ 1000) (neg : Bool) (k : Nat) (hk : 1010 ≤ k) : impl_big.f k neg l = some (bigR (bigv neg l)) := by
  unfold impl_big.f impl_clone_int.f clone99.f
  rw [iTrim_ge l (by omega) k (by omega), ← bigR_of hd]
  have := trimL_len l
  simp only [Option.bind_some]
  rw [if_pos (show (trimL l).length < 17592186044416 by omega), trimL_rep hd]
  simp only [Option.bind_some]
  (repeat' split) <;> simp_all
def sgn (x : Int) : Int := if x < 0 then -1 else if x = 0 then 0 else 1
theorem sgn_neg {x : Int} (h : x < 0) : sgn x = -1 := if_pos h
theorem sgn_zero : sgn 0 = 0 := rfl
theorem sgn_pos {x : Int} (h : 0 < x) : sgn x = 1 := by unfold sgn; rw [if_neg (by omega), if_neg (by omega)]
theorem drop_eq_of {a b : List Int} {i : Nat} (ha : i < a.length) (hb : i < b.length) (hd : a.drop (i + 1) = b.drop (i + 1)) (he : a.getD i 0 = b.getD i 0) : a.drop i = b.drop i := by
  rw [drop_cons ha, drop_cons hb, hd, he]
theorem sCmp_l0 {a b : List Int} (ha : Dig a) (hb : Dig b) (hl : a.length = b.length) (hb' : a.length < 1000000) : ∀ (i k : Nat), i ≤ a.length → a.drop i = b.drop i → i + 1 ≤ k →
    spec_l1CmpAbs.l0 k a b ((i : Int) - 1) = some (sgn (val a - val b)) := by
  intro i
  induction i with
  | zero =>
    intro k hi hd hk
    obtain ⟨k, rfl⟩ : ∃ j, k = j + 1 := ⟨k - 1, by omega⟩
    rw [List.drop_zero, List.drop_zero] at hd
    rw [spec_l1CmpAbs.l0, if_neg (by omega), hd, Int.sub_self, sgn_zero]
  | succ i ih =>
    intro k hi hd hk
    obtain ⟨k, rfl⟩ : ∃ j, k = j + 1 := ⟨k - 1, by omega⟩
    rw [spec_l1CmpAbs.l0, show (((i + 1 : Nat) : Int) - 1) = (i : Int) from by omega, if_pos (by omega), if_pos (by omega), if_pos (by omega), if_pos (by omega), rdn, rdn, Int.toNat_natCast]
    by_cases h1 : a.getD i 0 < b.getD i 0
    · have := val_lt_at ha hb (by omega) (by omega) hd h1
      rw [if_pos h1, sgn_neg (by omega)]
    · rw [if_neg h1]
      by_cases h2 : a.getD i 0 > b.getD i 0
      · have := val_lt_at hb ha (by omega) (by omega) hd.symm h2
        rw [if_pos h2, sgn_pos (by omega)]
      · rw [if_neg h2, w64 (by omega) (by omega)]
        exact ih k (by omega) (drop_eq_of (by omega) (by omega) hd (by omega)) (by omega)
theorem iCmp_l0 {a b : List Int} (ha : Dig a) (hb : Dig b) (hl : a.length = b.length) (hb' : a.length < 1000000) : ∀ (i k : Nat), i ≤ a.length → a.drop i = b.drop i → i + 1 ≤ k →
    impl_limbs_cmp.l0 k a b ((i : Int) - 1) = some (sgn (val a - val b)) := by
  intro i
  induction i with
  | zero =>
    intro k hi hd hk
    obtain ⟨k, rfl⟩ : ∃ j, k = j + 1 := ⟨k - 1, by omega⟩
    rw [List.drop_zero, List.drop_zero] at hd
    rw [impl_limbs_cmp.l0, if_neg (by omega), hd, Int.sub_self, sgn_zero]
  | succ i ih =>
    intro k hi hd hk
    obtain ⟨k, rfl⟩ : ∃ j, k = j + 1 := ⟨k - 1, by omega⟩
    rw [impl_limbs_cmp.l0, show (((i + 1 : Nat) : Int) - 1) = (i : Int) from by omega, if_pos (by omega), if_pos (by omega), if_pos (by omega), if_pos (by omega), rdn, rdn, Int.toNat_natCast]
    have b1 := ha.getD i
    have b2 := hb.getD i
    by_cases h1 : a.getD i 0 = b.getD i 0
    · rw [if_pos h1, w64 (by omega) (by omega)]
      exact ih k (by omega) (drop_eq_of (by omega) (by omega) hd h1) (by omega)
    · rw [if_neg h1, w64 (by omega) (by omega)]
      unfold mx mn
      by_cases h2 : a.getD i 0 < b.getD i 0
      · have := val_lt_at ha hb (by omega) (by omega) hd h2
        rw [sgn_neg (by omega), if_pos (show a.getD i 0 - b.getD i 0 < 1 by omega), if_neg (by omega)]
      · have := val_lt_at hb ha (by omega) (by omega) hd.symm (show b.getD i 0 < a.getD i 0 by omega)
        rw [sgn_pos (by omega), if_neg (show ¬ a.getD i 0 - b.getD i 0 < 1 by omega), if_pos (by omega)]
theorem sCmpAbs_ge {a b : List Int} (ha : Dig a) (hb : Dig b) (za : Nz a) (zb : Nz b) (la : a.length ≤ 1000) (lb : b.length ≤ 1000) (k : Nat) (hk : 1010 ≤ k) : spec_l1CmpAbs.f k a b = some (sgn (val a - val b)) := by
  unfold spec_l1CmpAbs.f
  by_cases h : (a.length : Int) = (b.length : Int)
  · rw [if_pos h, w64 (by omega) (by omega)]
    exact sCmp_l0 ha hb (by omega) (by omega) a.length k (Nat.le_refl _) (by rw [List.drop_length, List.drop_eq_nil_of_le (by omega)]) (by omega)
  · rw [if_neg h]
    by_cases h2 : (a.length : Int) < (b.length : Int)
    · have := val_lt_of_len ha hb zb (by omega)
      rw [if_pos h2, sgn_neg (by omega)]
    · have := val_lt_of_len hb ha za (by omega)
      rw [if_neg h2, sgn_pos (by omega)]
theorem iCmp_ge {a b : List Int} (ha : Dig a) (hb : Dig b) (za : Nz a) (zb : Nz b) (la : a.length ≤ 1000) (lb : b.length ≤ 1000) (k : Nat) (hk : 1010 ≤ k) : impl_limbs_cmp.f k a b = some (sgn (val a - val b)) := by
  unfold impl_limbs_cmp.f
  by_cases h : (a.length : Int) = (b.length : Int)
  · rw [if_pos h, w64 (by omega) (by omega)]
    exact iCmp_l0 ha hb (by omega) (by omega) a.length k (Nat.le_refl _) (by rw [List.drop_length, List.drop_eq_nil_of_le (by omega)]) (by omega)
  · rw [if_neg h, w64 (by omega) (by omega)]
    unfold mx mn
    by_cases h2 : (a.length : Int) < (b.length : Int)
    · have := val_lt_of_len ha hb zb (by omega)
      rw [sgn_neg (by omega), if_pos (show (a.length : Int) - (b.length : Int) < 1 by omega), if_neg (by omega)]
    · have := val_lt_of_len hb ha za (by omega)
      rw [sgn_pos (by omega), if_neg (show ¬ (a.length : Int) - (b.length : Int) < 1 by omega), if_pos (by omega)]
end Go.Proofs.Ytdemeoncjcbojaa.Val
end
section
namespace Go.Proofs.Ytdemeoncjcbojaa.Val
open Go.RowKit Go.Proofs.Ytdemeoncjcbojaa.Pr Go.Proofs.Ytdemeoncjcbojaa.Ext Go.Proofs.Ytdemeoncjcbojaa.Jt Go.Proofs.YtdemeoncjcbojaaW.PrintWords Go.Proofs.YtdemeoncjcbojaaW.PrintLast Go.Proofs.YtdemeoncjcbojaaW.PrintMore
set_option linter.unusedVariables false
set_option linter.unusedSimpArgs false
theorem rdN (l : List Int) (i : Nat) : rd l (i : Int) = l.getD i 0 := by unfold rd; rw [Int.toNat_natCast]
theorem getD_set_ne {l : List Int} {i j : Nat} (v : Int) (h : i < l.length) (hne : j ≠ i) : (l.set i v).getD j 0 = l.getD j 0 := by rw [getD_set l i j v h, if_neg hne]
theorem getD_set_eq {l : List Int} {i : Nat} (v : Int) (h : i < l.length) : (l.set i v).getD i 0 = v := by rw [getD_set l i i v h, if_pos rfl]
theorem val_drop (l : List Int) (i : Nat) : val (l.drop i) = l.getD i 0 + 10000 * val (l.drop (i + 1)) := by
  by_cases h : i < l.length
  · rw [drop_cons h]; rfl
  · rw [List.drop_eq_nil_of_le (by omega), List.drop_eq_nil_of_le (by omega), getD_ge (by omega)]; rfl
theorem iAdd_l1 {x : List Int} : ∀ (m k i : Nat) (x : List Int), i + m + 1 = x.length → x.length ≤ 1000 → m + 1100 ≤ k →
    (∀ j, j < i → 0 ≤ x.getD j 0 ∧ x.getD j 0 ≤ 9999) → (∀ j, i < j → 0 ≤ x.getD j 0 ∧ x.getD j 0 ≤ 19998) → (0 ≤ x.getD i 0 ∧ x.getD i 0 ≤ 19999) →
    (x.getD (x.length - 1) 0 ≤ if i = x.length - 1 then 1 else 0) →
    impl_limbs_add.l1 k x ((x.length : Int) - 1) (i : Int) = some (rep (val x)) := by
  intro m
  induction m with
  | zero =>
    intro k i x hi hl hk h1 h2 h3 h4
    obtain ⟨k, rfl⟩ : ∃ j, k = j + 1 := ⟨k - 1, by omega⟩
    have hd : Dig x := dig_of_getD fun j hj => by
      by_cases hji : j < i
      · exact h1 j hji
      · have : j = x.length - 1 := by omega
        have e : i = x.length - 1 := by omega
        rw [if_pos e] at h4
        rw [e] at h3
        subst this
        omega
    rw [impl_limbs_add.l1, if_neg (by omega), iTrim_ge x (by omega) k (by omega), trimL_rep hd]
    rfl
  | succ m ih =>
    intro k i x hi hl hk h1 h2 h3 h4
    obtain ⟨k, rfl⟩ : ∃ j, k = j + 1 := ⟨k - 1, by omega⟩
    have hlt : i < x.length := by omega
    have hlt1 : i + 1 < x.length := by omega
    have n1 := h2 (i + 1) (by omega)
    rw [if_neg (by omega)] at h4
    rw [impl_limbs_add.l1, if_pos (by omega), w64 (x := (i : Int) + 1) (by omega) (by omega), if_pos (by omega), if_pos (by omega), if_pos (by omega), if_pos (by omega)]
    simp only [Option.bind_some]
    simp only [rdn]
    rw [show ((i : Int) + 1).toNat = i + 1 from by omega, Int.toNat_natCast, Int.tdiv_eq_ediv_of_nonneg h3.1, w64 (x := x.getD i 0 / 10000) (by omega) (by omega), w64 (by omega) (by omega),
      getD_set_ne _ hlt1 (by omega), Int.tmod_eq_emod_of_nonneg h3.1]
    have hlen : ((x.set (i + 1) (x.getD (i + 1) 0 + x.getD i 0 / 10000)).set i (x.getD i 0 % 10000)).length = x.length := by simp
    have hv : val ((x.set (i + 1) (x.getD (i + 1) 0 + x.getD i 0 / 10000)).set i (x.getD i 0 % 10000)) = val x := by
      rw [val_set _ _ _ (by rw [List.length_set]; omega), val_set _ _ _ hlt1, getD_set_ne _ hlt1 (by omega), pw_succ]
      have e : x.getD i 0 = 10000 * (x.getD i 0 / 10000) + x.getD i 0 % 10000 := by omega
      generalize x.getD i 0 / 10000 = q at e
      generalize x.getD i 0 % 10000 = r at e
      rw [e]
      grind
    have e := ih k (i + 1) ((x.set (i + 1) (x.getD (i + 1) 0 + x.getD i 0 / 10000)).set i (x.getD i 0 % 10000)) (by rw [hlen]; omega) (by rw [hlen]; omega) (by omega) ?_ ?_ ?_ ?_
    · rw [hlen, hv] at e
      rw [show ((i : Int) + 1) = ((i + 1 : Nat) : Int) from by omega]
      exact e
    · intro j hj
      by_cases hji : j = i
      · rw [hji, getD_set_eq _ (by rw [List.length_set]; omega)]; omega
      · rw [getD_set_ne _ (by rw [List.length_set]; omega) hji, getD_set_ne _ hlt1 (by omega)]; exact h1 j (by omega)
    · intro j hj
      rw [getD_set_ne _ (by rw [List.length_set]; omega) (by omega), getD_set_ne _ hlt1 (by omega)]; exact h2 j (by omega)
    · rw [getD_set_ne _ (by rw [List.length_set]; omega) (by omega), getD_set_eq _ hlt1]; omega
    · rw [hlen]
      rw [getD_set_ne _ (by rw [List.length_set]; omega) (by omega)]
      by_cases he : i + 1 = x.length - 1
      · rw [if_pos he, ← he, getD_set_eq _ hlt1]
        rw [← he] at h4
        omega
      · rw [if_neg he, getD_set_ne _ hlt1 (by omega)]; exact h4
theorem iAdd_l0 {b : List Int} (hb : Dig b) : ∀ (m k i : Nat) (x : List Int), i + m = b.length → b.length + 1 ≤ x.length → x.length ≤ 1000 → m + 2200 ≤ k →
    (∀ j, j < i → 0 ≤ x.getD j 0 ∧ x.getD j 0 ≤ 19998) → (∀ j, i ≤ j → 0 ≤ x.getD j 0 ∧ x.getD j 0 ≤ 9999) → x.getD (x.length - 1) 0 = 0 →
    impl_limbs_add.l0 k x b (b.length : Int) (i : Int) = some (rep (val x + pw i * val (b.drop i))) := by
  intro m
  induction m with
  | zero =>
    intro k i x hi hx hl hk h1 h2 h3
    obtain ⟨k, rfl⟩ : ∃ j, k = j + 1 := ⟨k - 1, by omega⟩
    rw [impl_limbs_add.l0, if_neg (by omega), w64 (by omega) (by omega), List.drop_eq_nil_of_le (by omega), val_nil, Int.mul_zero, Int.add_zero]
    have hall : ∀ j, 0 ≤ x.getD j 0 ∧ x.getD j 0 ≤ 19998 := fun j => by
      by_cases hj : j < i
      · exact h1 j hj
      · have := h2 j (by omega); omega
    have e := iAdd_l1 (x := x) (x.length - 1) k 0 x (by omega) hl (by omega) (fun j hj => by omega) (fun j _ => hall j) (by have := hall 0; omega) (by rw [h3]; split <;> omega)
    exact e
  | succ m ih =>
    intro k i x hi hx hl hk h1 h2 h3
    obtain ⟨k, rfl⟩ : ∃ j, k = j + 1 := ⟨k - 1, by omega⟩
    have hlt : i < b.length := by omega
    have hltx : i < x.length := by omega
    have b1 := hb.getD i
    have b2 := h2 i (by omega)
    rw [impl_limbs_add.l0, if_pos (by omega), if_pos (by omega), if_pos (by omega), if_pos (by omega), w64 (x := (i : Int) + 1) (by omega) (by omega)]
    simp only [rdn]
    rw [Int.toNat_natCast, w64 (by omega) (by omega), show ((i : Int) + 1) = ((i + 1 : Nat) : Int) from by omega]
    have e := ih k (i + 1) (x.set i (x.getD i 0 + b.getD i 0)) (by omega) (by simp; omega) (by simp; omega) (by omega) ?_ ?_ ?_
    · rw [e, val_set _ _ _ hltx, val_drop b i, pw_succ]
      congr 2
      grind
    · intro j hj
      by_cases hji : j = i
      · rw [hji, getD_set_eq _ hltx]; omega
      · rw [getD_set_ne _ hltx hji]; exact h1 j (by omega)
    · intro j hj
      rw [getD_set_ne _ hltx (by omega)]; exact h2 j (by omega)
    · rw [List.length_set, getD_set_ne _ hltx (by omega)]; exact h3
theorem iAdd_ge {a b : List Int} (ha : Dig a) (hb : Dig b) (la : a.length ≤ 500) (lb : b.length ≤ 500) (k : Nat) (hk : 3000 ≤ k) : impl_limbs_add.f k a b = some (rep (val a + val b)) := by
  unfold impl_limbs_add.f
  have hm : mx (a.length : Int) (b.length : Int) = ((max a.length b.length : Nat) : Int) := by unfold mx; split <;> omega
  rw [hm, w64 (by omega) (by omega), if_pos (by omega), show (((max a.length b.length : Nat) : Int) + 1).toNat = max a.length b.length + 1 from by omega, if_pos (by omega)]
  have hc : cpy a (List.replicate (max a.length b.length + 1) 0) = a ++ List.replicate (max a.length b.length + 1 - a.length) 0 := by
    unfold cpy
    rw [List.length_replicate, Nat.min_eq_left (by omega), List.take_length, List.drop_replicate]
  rw [hc]
  have hr : ∀ j, (List.replicate (max a.length b.length + 1 - a.length) (0 : Int)).getD j 0 = 0 := fun j => by
    rw [List.getD_eq_getElem?_getD, List.getElem?_replicate]; split <;> rfl
  have hg : ∀ j, (a ++ List.replicate (max a.length b.length + 1 - a.length) 0).getD j 0 = a.getD j 0 := fun j => by
    by_cases hj : j < a.length
    · rw [List.getD_eq_getElem?_getD, List.getElem?_append_left hj, ← List.getD_eq_getElem?_getD]
    · rw [List.getD_eq_getElem?_getD, List.getElem?_append_right (by omega), ← List.getD_eq_getElem?_getD, hr, getD_ge (by omega)]
  have e := iAdd_l0 hb b.length k 0 (a ++ List.replicate (max a.length b.length + 1 - a.length) 0) (by omega) (by simp; omega) (by simp; omega) (by omega) (fun j hj => by omega) (fun j _ => by rw [hg]; exact ha.getD j)
    (by rw [hg]; apply getD_ge; simp; omega)
  rw [val_append, val_replicate, List.drop_zero, pw_zero] at e
  refine e.trans ?_
  congr 2
  omega
theorem limb_ge (l : List Int) (i : Nat) : spec_l1Limb.f l (i : Int) = some (l.getD i 0) := by
  unfold spec_l1Limb.f
  by_cases h : (i : Int) < (l.length : Int)
  · rw [if_pos h, if_pos (by omega), rdn, Int.toNat_natCast]
  · rw [if_neg h, getD_ge (by omega)]
theorem dig_push {l : List Int} (h : Dig l) {x : Int} (h0 : 0 ≤ x) (h1 : x ≤ 9999) : Dig (l ++ [x]) := h.append (Dig.cons h0 h1 Dig.nil)
theorem val_push (l : List Int) (x : Int) : val (l ++ [x]) = val l + pw l.length * x := by rw [val_append]; simp [val]
theorem sAdd_step {a b : List Int} (ha : Dig a) (hb : Dig b) (la : a.length ≤ 500) (lb : b.length ≤ 500) : ∀ (m k : Nat) (acc : List Int) (c : Int), Dig acc → acc.length + m = 502 → 0 ≤ c → c ≤ 1 → 2 * m + 1600 ≤ k →
    (acc.length = 502 → c = 0) → (max a.length b.length < acc.length → c = 0) →
    spec_l1AddAbs.l0 k a b acc c (acc.length : Int) = some (rep (val acc + pw acc.length * (c + val (a.drop acc.length) + val (b.drop acc.length)))) := by
  intro m
  induction m with
  | zero =>
    intro k acc c hd hm h0 h1 hk hc hc'
    obtain ⟨k, rfl⟩ : ∃ j, k = j + 2 := ⟨k - 2, by omega⟩
    rw [spec_l1AddAbs.l0, if_neg (by omega), if_neg (by omega), hc (by omega), spec_l1AddAbs.j1, if_neg (by decide), sTrim_ge acc (by omega) k (by omega), trimL_rep hd, List.drop_eq_nil_of_le (by omega), List.drop_eq_nil_of_le (by omega)]
    simp [val_nil]
  | succ m ih =>
    intro k acc c hd hm h0 h1 hk hc hc'
    obtain ⟨k, rfl⟩ : ∃ j, k = j + 2 := ⟨k - 2, by omega⟩
    have b1 := ha.getD acc.length
    have b2 := hb.getD acc.length
    have go : (spec_l1AddAbs.j1 (k + 1) a b acc c (acc.length : Int) true) = some (rep (val acc + pw acc.length * (c + val (a.drop acc.length) + val (b.drop acc.length)))) := by
      rw [spec_l1AddAbs.j1, if_pos rfl, limb_ge, limb_ge]
      simp only [Option.bind_some]
      rw [if_pos (by omega), w64 (x := a.getD acc.length 0 + b.getD acc.length 0) (by omega) (by omega), w64 (x := a.getD acc.length 0 + b.getD acc.length 0 + c) (by omega) (by omega), w64 (x := (acc.length : Int) + 1) (by omega) (by omega),
        Int.tdiv_eq_ediv_of_nonneg (by omega), Int.tmod_eq_emod_of_nonneg (by omega), w64 (by omega) (by omega)]
      have e := ih k (acc ++ [(a.getD acc.length 0 + b.getD acc.length 0 + c) % 10000]) ((a.getD acc.length 0 + b.getD acc.length 0 + c) / 10000) (dig_push hd (by omega) (by omega)) (by simp; omega) (by omega) (by omega) (by omega)
        (by
          intro hh
          rw [List.length_append] at hh
          simp at hh
          rw [getD_ge (l := a) (by omega), getD_ge (l := b) (by omega)]
          have := hc' (by omega)
          omega)
        (by
          intro hh
          rw [List.length_append] at hh
          simp at hh
          rw [getD_ge (l := a) (by omega), getD_ge (l := b) (by omega)]
          omega)
      rw [val_push, List.length_append, List.length_cons, List.length_nil, pw_succ] at e
      rw [show ((acc.length : Int) + 1) = ((acc.length + (0 + 1) : Nat) : Int) from by omega]
      refine e.trans ?_
      congr 2
      rw [val_drop a acc.length, val_drop b acc.length]
      have e3 : a.getD acc.length 0 + b.getD acc.length 0 + c = 10000 * ((a.getD acc.length 0 + b.getD acc.length 0 + c) / 10000) + (a.getD acc.length 0 + b.getD acc.length 0 + c) % 10000 := by omega
      generalize (a.getD acc.length 0 + b.getD acc.length 0 + c) / 10000 = q at e3 ⊢
      generalize (a.getD acc.length 0 + b.getD acc.length 0 + c) % 10000 = r at e3 ⊢
      simp only [Nat.zero_add]
      grind
    rw [spec_l1AddAbs.l0]
    by_cases h1' : (acc.length : Int) < (a.length : Int)
    · rw [if_pos h1']; exact go
    · rw [if_neg h1']
      by_cases h2' : (acc.length : Int) < (b.length : Int)
      · rw [if_pos h2']; exact go
      · rw [if_neg h2']
        by_cases h3' : c > 0
        · rw [decide_eq_true h3']; exact go
        · rw [decide_eq_false h3', spec_l1AddAbs.j1, if_neg (by decide), sTrim_ge acc (by omega) k (by omega), trimL_rep hd, List.drop_eq_nil_of_le (by omega), List.drop_eq_nil_of_le (by omega), show c = 0 from by omega]
          simp [val_nil]
theorem sAdd_ge {a b : List Int} (ha : Dig a) (hb : Dig b) (la : a.length ≤ 500) (lb : b.length ≤ 500) (k : Nat) (hk : 3000 ≤ k) : spec_l1AddAbs.f k a b = some (rep (val a + val b)) := by
  have e := sAdd_step ha hb la lb 502 k [] 0 Dig.nil (by simp) (by omega) (by omega) (by omega) (fun _ => rfl) (fun _ => rfl)
  rw [List.length_nil, List.drop_zero, List.drop_zero, pw_zero, val_nil] at e
  refine Eq.trans e ?_
  congr 2
  omega
theorem iSub_l1 (v : Int) (hv : 0 ≤ v) : ∀ (m k i : Nat) (x : List Int), i + m = x.length → x.length ≤ 1000 → m + 1100 ≤ k → val x = v →
    (∀ j, j < i → 0 ≤ x.getD j 0 ∧ x.getD j 0 ≤ 9999) → (∀ j, i < j → -9999 ≤ x.getD j 0 ∧ x.getD j 0 ≤ 9999) → (-10000 ≤ x.getD i 0 ∧ x.getD i 0 ≤ 9999) →
    impl_limbs_sub.l1 k x (x.length : Int) (i : Int) = some (rep v) := by
  intro m
  induction m with
  | zero =>
    intro k i x hi hl hk hx h1 h2 h3
    obtain ⟨k, rfl⟩ : ∃ j, k = j + 1 := ⟨k - 1, by omega⟩
    have hd : Dig x := dig_of_getD fun j hj => h1 j (by omega)
    rw [impl_limbs_sub.l1, if_neg (by omega), iTrim_ge x (by omega) k (by omega), trimL_rep hd, hx]
    rfl
  | succ m ih =>
    intro k i x hi hl hk hx h1 h2 h3
    obtain ⟨k, rfl⟩ : ∃ j, k = j + 1 := ⟨k - 1, by omega⟩
    have hlt : i < x.length := by omega
    have hdt : Dig (x.take i) := dig_of_getD fun j hj => by
      rw [List.length_take] at hj
      rw [getD_take x (by omega)]; exact h1 j (by omega)
    rw [impl_limbs_sub.l1, if_pos (by omega), if_pos (by omega), if_pos (by omega)]
    simp only [rdN]
    rw [Int.toNat_natCast, w64 (x := (i : Int) + 1) (by omega) (by omega)]
    by_cases hneg : x.getD i 0 < 0
    · have hlt1 : i + 1 < x.length := by
        apply Nat.lt_of_not_le
        intro hc
        have es := val_split x (n := i) (by omega)
        rw [val_drop x i, List.drop_eq_nil_of_le (show x.length ≤ i + 1 by omega), val_nil] at es
        have hlt2 := val_lt hdt
        rw [List.length_take, Nat.min_eq_left (by omega)] at hlt2
        have hp := pw_pos i
        have : pw i * (x.getD i 0 + 10000 * 0) ≤ pw i * (-1) := Int.mul_le_mul_of_nonneg_left (by omega) (by omega)
        omega
      have n1 := h2 (i + 1) (by omega)
      rw [if_pos hneg]
      simp only [Option.bind_some]
      rw [if_pos (by omega), if_pos (by omega), rdn, show ((i : Int) + 1).toNat = i + 1 from by omega, w64 (x := x.getD i 0 + 10000) (by omega) (by omega), getD_set_ne _ hlt (by omega), w64 (by omega) (by omega), show ((i : Int) + 1) = ((i + 1 : Nat) : Int) from by omega]
      have hlen : ((x.set i (x.getD i 0 + 10000)).set (i + 1) (x.getD (i + 1) 0 - 1)).length = x.length := by simp
      have e := ih k (i + 1) ((x.set i (x.getD i 0 + 10000)).set (i + 1) (x.getD (i + 1) 0 - 1)) (by rw [hlen]; omega) (by rw [hlen]; omega) (by omega) ?_ ?_ ?_ ?_
      · rw [hlen] at e; exact e
      · rw [val_set _ _ _ (by rw [List.length_set]; omega), val_set _ _ _ hlt, getD_set_ne _ hlt (by omega), pw_succ, hx]
        grind
      · intro j hj
        rw [getD_set_ne _ (by rw [List.length_set]; omega) (by omega)]
        by_cases hji : j = i
        · rw [hji, getD_set_eq _ hlt]; omega
        · rw [getD_set_ne _ hlt hji]; exact h1 j (by omega)
      · intro j hj
        rw [getD_set_ne _ (by rw [List.length_set]; omega) (by omega), getD_set_ne _ hlt (by omega)]; exact h2 j (by omega)
      · rw [getD_set_eq _ (by rw [List.length_set]; omega)]; omega
    · rw [if_neg hneg, show ((i : Int) + 1) = ((i + 1 : Nat) : Int) from by omega]
      exact ih k (i + 1) x (by omega) hl (by omega) hx (fun j hj => by
        by_cases hji : j = i
        · rw [hji]; omega
        · exact h1 j (by omega)) (fun j hj => h2 j (by omega)) (by have := h2 (i + 1) (by omega); omega)
theorem iSub_l0 {b : List Int} (hb : Dig b) : ∀ (m k i : Nat) (x : List Int), i + m = b.length → b.length ≤ x.length → x.length ≤ 1000 → m + 2200 ≤ k → 0 ≤ val x - pw i * val (b.drop i) →
    (∀ j, j < i → -9999 ≤ x.getD j 0 ∧ x.getD j 0 ≤ 9999) → (∀ j, i ≤ j → 0 ≤ x.getD j 0 ∧ x.getD j 0 ≤ 9999) →
    impl_limbs_sub.l0 k x b (b.length : Int) (i : Int) = some (rep (val x - pw i * val (b.drop i))) := by
  intro m
  induction m with
  | zero =>
    intro k i x hi hx hl hk hv h1 h2
    obtain ⟨k, rfl⟩ : ∃ j, k = j + 1 := ⟨k - 1, by omega⟩
    rw [List.drop_eq_nil_of_le (by omega), val_nil, Int.mul_zero, Int.sub_zero] at hv
    rw [impl_limbs_sub.l0, if_neg (by omega), List.drop_eq_nil_of_le (by omega), val_nil, Int.mul_zero, Int.sub_zero]
    have hall : ∀ j, -9999 ≤ x.getD j 0 ∧ x.getD j 0 ≤ 9999 := fun j => by
      by_cases hj : j < i
      · exact h1 j hj
      · have := h2 j (by omega); omega
    exact iSub_l1 (val x) hv x.length k 0 x (by omega) hl (by omega) rfl (fun j hj => by omega) (fun j _ => hall j) (by have := hall 0; omega)
  | succ m ih =>
    intro k i x hi hx hl hk hv h1 h2
    obtain ⟨k, rfl⟩ : ∃ j, k = j + 1 := ⟨k - 1, by omega⟩
    have hlt : i < b.length := by omega
    have hltx : i < x.length := by omega
    have b1 := hb.getD i
    have b2 := h2 i (by omega)
    rw [impl_limbs_sub.l0, if_pos (by omega), if_pos (by omega), if_pos (by omega), if_pos (by omega), w64 (x := (i : Int) + 1) (by omega) (by omega)]
    simp only [rdn]
    rw [Int.toNat_natCast, w64 (by omega) (by omega), show ((i : Int) + 1) = ((i + 1 : Nat) : Int) from by omega]
    have hval : val (x.set i (x.getD i 0 - b.getD i 0)) - pw (i + 1) * val (b.drop (i + 1)) = val x - pw i * val (b.drop i) := by
      rw [val_set _ _ _ hltx, val_drop b i, pw_succ]
      grind
    have e := ih k (i + 1) (x.set i (x.getD i 0 - b.getD i 0)) (by omega) (by simp; omega) (by simp; omega) (by omega) (by rw [hval]; exact hv) ?_ ?_
    · rw [e, hval]
    · intro j hj
      by_cases hji : j = i
      · rw [hji, getD_set_eq _ hltx]; omega
      · rw [getD_set_ne _ hltx hji]; exact h1 j (by omega)
    · intro j hj
      rw [getD_set_ne _ hltx (by omega)]; exact h2 j (by omega)
theorem len_le_of_val {a b : List Int} (ha : Dig a) (hb : Dig b) (zb : Nz b) (h : val b ≤ val a) : b.length ≤ a.length := by
  apply Nat.le_of_not_lt
  intro hc
  have := val_lt_of_len ha hb zb hc
  omega
theorem iSub_ge {a b : List Int} (ha : Dig a) (hb : Dig b) (zb : Nz b) (la : a.length ≤ 1000) (h : val b ≤ val a) (k : Nat) (hk : 4000 ≤ k) : impl_limbs_sub.f k a b = some (rep (val a - val b)) := by
  unfold impl_limbs_sub.f clone100.f
  have hlen := len_le_of_val ha hb zb h
  rw [if_pos (by omega)]
  simp only [Option.bind_some]
  have e := iSub_l0 hb b.length k 0 a (by omega) hlen la (by omega) (by rw [List.drop_zero, pw_zero]; omega) (fun j hj => by omega) (fun j _ => ha.getD j)
  rw [List.drop_zero, pw_zero, Int.one_mul] at e
  exact e
theorem sSub_step {a b : List Int} (ha : Dig a) (hb : Dig b) (hab : b.length ≤ a.length) (la : a.length ≤ 1000) (v : Int) (hv : 0 ≤ v) : ∀ (m k : Nat) (acc : List Int) (c : Int), Dig acc → acc.length + m = a.length → 0 ≤ c → c ≤ 1 → m + 1100 ≤ k →
    val acc + pw acc.length * (val (a.drop acc.length) - val (b.drop acc.length) - c) = v →
    spec_l1SubAbs.l0 k a b acc c (acc.length : Int) = some (rep v) := by
  intro m
  induction m with
  | zero =>
    intro k acc c hd hm h0 h1 hk he
    obtain ⟨k, rfl⟩ : ∃ j, k = j + 1 := ⟨k - 1, by omega⟩
    rw [List.drop_eq_nil_of_le (by omega), List.drop_eq_nil_of_le (by omega), val_nil] at he
    have hc : c = 0 := by
      have := val_lt hd
      have hc2 : c = 0 ∨ c = 1 := by omega
      rcases hc2 with h | h
      · exact h
      · subst h; omega
    subst hc
    rw [spec_l1SubAbs.l0, if_neg (by omega), sTrim_ge acc (by omega) k (by omega), trimL_rep hd, ← he]
    simp
  | succ m ih =>
    intro k acc c hd hm h0 h1 hk he
    obtain ⟨k, rfl⟩ : ∃ j, k = j + 1 := ⟨k - 1, by omega⟩
    have b1 := ha.getD acc.length
    have b2 := hb.getD acc.length
    rw [val_drop a acc.length, val_drop b acc.length] at he
    rw [spec_l1SubAbs.l0, if_pos (by omega), if_pos (by omega), limb_ge]
    simp only [Option.bind_some, rdN]
    rw [w64 (x := a.getD acc.length 0 - b.getD acc.length 0) (by omega) (by omega), w64 (x := a.getD acc.length 0 - b.getD acc.length 0 - c) (by omega) (by omega), w64 (x := (acc.length : Int) + 1) (by omega) (by omega)]
    by_cases hn : a.getD acc.length 0 - b.getD acc.length 0 - c < 0
    · rw [if_pos hn, if_pos (by omega), w64 (by omega) (by omega)]
      have e := ih k (acc ++ [a.getD acc.length 0 - b.getD acc.length 0 - c + 10000]) 1 (dig_push hd (by omega) (by omega)) (by simp; omega) (by omega) (by omega) (by omega)
        (by rw [val_push, List.length_append, List.length_cons, List.length_nil, Nat.zero_add, pw_succ, ← he]; grind)
      rw [List.length_append, List.length_cons, List.length_nil, Nat.zero_add] at e
      rw [show ((acc.length : Int) + 1) = ((acc.length + 1 : Nat) : Int) from by omega]
      exact e
    · rw [if_neg hn, if_pos (by omega)]
      have e := ih k (acc ++ [a.getD acc.length 0 - b.getD acc.length 0 - c]) 0 (dig_push hd (by omega) (by omega)) (by simp; omega) (by omega) (by omega) (by omega)
        (by rw [val_push, List.length_append, List.length_cons, List.length_nil, Nat.zero_add, pw_succ, ← he]; grind)
      rw [List.length_append, List.length_cons, List.length_nil, Nat.zero_add] at e
      rw [show ((acc.length : Int) + 1) = ((acc.length + 1 : Nat) : Int) from by omega]
      exact e
theorem sSub_ge {a b : List Int} (ha : Dig a) (hb : Dig b) (zb : Nz b) (la : a.length ≤ 1000) (h : val b ≤ val a) (k : Nat) (hk : 4000 ≤ k) : spec_l1SubAbs.f k a b = some (rep (val a - val b)) := by
  have hlen := len_le_of_val ha hb zb h
  exact sSub_step ha hb hlen la (val a - val b) (by omega) a.length k [] 0 Dig.nil (by simp) (by omega) (by omega) (by omega) (by rw [List.length_nil, List.drop_zero, List.drop_zero, pw_zero, val_nil]; omega)
end Go.Proofs.Ytdemeoncjcbojaa.Val
end
section
namespace Go.Proofs.Ytdemeoncjcbojaa.Val
open Go.RowKit Go.Proofs.Ytdemeoncjcbojaa.Pr Go.Proofs.Ytdemeoncjcbojaa.Ext Go.Proofs.Ytdemeoncjcbojaa.Jt Go.Proofs.YtdemeoncjcbojaaW.PrintWords Go.Proofs.YtdemeoncjcbojaaW.PrintLast Go.Proofs.YtdemeoncjcbojaaW.PrintMore
set_option linter.unusedVariables false
set_option linter.unusedSimpArgs false
def sv (q : Bool) (v : Int) : Int := if q = true then -v else v
theorem sv_rep {q : Bool} {v : Int} (h : 0 ≤ v) : bigv q (rep v) = sv q v := by unfold bigv sv; rw [rep_val h]
theorem bigv_sv (q : Bool) (l : List Int) : bigv q l = sv q (val l) := rfl
theorem sv_not (q : Bool) (v : Int) : sv (!q) v = -sv q v := by cases q <;> simp [sv]
theorem rep_len_le {v : Int} (h0 : 0 ≤ v) {n : Nat} (h : v < pw n) : (rep v).length ≤ n := (rep_len h0 n).2 h
theorem sgn_ge (x : Int) : sgn x ≥ 0 ↔ 0 ≤ x := by unfold sgn; split <;> (try split) <;> omega
theorem two_pw {n : Nat} {x y : Int} (hx : x < pw n) (hy : y < pw n) : x + y < pw (n + 1) := by rw [pw_succ]; have := pw_pos n; omega
theorem signed_add_ge {s s' : Bool} {a b : List Int} (ha : Dig a) (hb : Dig b) (za : Nz a) (zb : Nz b) (la : a.length ≤ 100) (lb : b.length ≤ 100) :
    ∃ q v, (∀ k, 5000 ≤ k → impl_signed_add.f k s a s' b = some (q, rep v)) ∧ 0 ≤ v ∧ (rep v).length ≤ 101 ∧ sv q v = bigv s a + bigv s' b := by
  have na := val_nonneg ha
  have nb := val_nonneg hb
  have ha2 := Int.lt_of_lt_of_le (val_lt ha) (pw_mono la)
  have hb2 := Int.lt_of_lt_of_le (val_lt hb) (pw_mono lb)
  have h2 : val a + val b < pw 101 := two_pw ha2 hb2
  rw [bigv_sv, bigv_sv]
  by_cases hs : s = s'
  · subst hs
    refine ⟨s, val a + val b, fun k hk => ?_, by omega, rep_len_le (by omega) h2, by cases s <;> simp [sv] <;> omega⟩
    unfold impl_signed_add.f
    rw [if_pos (by simp), iAdd_ge ha hb (by omega) (by omega) k (by omega)]; rfl
  · have hs' : (s == s') = false := by simp [hs]
    by_cases hc : val b ≤ val a
    · refine ⟨s, val a - val b, fun k hk => ?_, by omega, rep_len_le (by omega) (by omega), by cases s <;> cases s' <;> simp_all [sv] <;> omega⟩
      unfold impl_signed_add.f
      rw [if_neg (by rw [hs']; decide), iCmp_ge ha hb za zb (by omega) (by omega) k (by omega)]
      simp only [Option.bind_some]
      rw [if_pos ((sgn_ge _).2 (by omega)), iSub_ge ha hb zb (by omega) hc k (by omega)]; rfl
    · refine ⟨s', val b - val a, fun k hk => ?_, by omega, rep_len_le (by omega) (by omega), by cases s <;> cases s' <;> simp_all [sv] <;> omega⟩
      unfold impl_signed_add.f
      rw [if_neg (by rw [hs']; decide), iCmp_ge ha hb za zb (by omega) (by omega) k (by omega)]
      simp only [Option.bind_some]
      rw [if_neg (fun h => by have := (sgn_ge _).1 h; omega), iSub_ge hb ha za (by omega) (by omega) k (by omega)]; rfl
theorem l1Add_ge {s s' : Bool} {a b : List Int} (ha : Dig a) (hb : Dig b) (za : Nz a) (zb : Nz b) (la : a.length ≤ 100) (lb : b.length ≤ 100) :
    ∃ q v, (∀ k, 5000 ≤ k → spec_l1Add.f k s a s' b = some (q, rep v)) ∧ 0 ≤ v ∧ (rep v).length ≤ 101 ∧ sv q v = bigv s a + bigv s' b := by
  have na := val_nonneg ha
  have nb := val_nonneg hb
  have ha2 := Int.lt_of_lt_of_le (val_lt ha) (pw_mono la)
  have hb2 := Int.lt_of_lt_of_le (val_lt hb) (pw_mono lb)
  have h2 : val a + val b < pw 101 := two_pw ha2 hb2
  rw [bigv_sv, bigv_sv]
  by_cases hs : s = s'
  · subst hs
    refine ⟨s, val a + val b, fun k hk => ?_, by omega, rep_len_le (by omega) h2, by cases s <;> simp [sv] <;> omega⟩
    unfold spec_l1Add.f
    rw [if_pos (by simp), sAdd_ge ha hb (by omega) (by omega) k (by omega)]; rfl
  · have hs' : (s == s') = false := by simp [hs]
    by_cases hc : val b ≤ val a
    · refine ⟨s, val a - val b, fun k hk => ?_, by omega, rep_len_le (by omega) (by omega), by cases s <;> cases s' <;> simp_all [sv] <;> omega⟩
      unfold spec_l1Add.f
      rw [if_neg (by rw [hs']; decide), sCmpAbs_ge ha hb za zb (by omega) (by omega) k (by omega)]
      simp only [Option.bind_some]
      rw [if_pos ((sgn_ge _).2 (by omega)), sSub_ge ha hb zb (by omega) hc k (by omega)]; rfl
    · refine ⟨s', val b - val a, fun k hk => ?_, by omega, rep_len_le (by omega) (by omega), by cases s <;> cases s' <;> simp_all [sv] <;> omega⟩
      unfold spec_l1Add.f
      rw [if_neg (by rw [hs']; decide), sCmpAbs_ge ha hb za zb (by omega) (by omega) k (by omega)]
      simp only [Option.bind_some]
      rw [if_neg (fun h => by have := (sgn_ge _).1 h; omega), sSub_ge hb ha za (by omega) (by omega) k (by omega)]; rfl
abbrev No : Bool × List Int × Bool := (false, [], false)
def subR (n : Bool) (l : List Int) (n' : Bool) (l' : List Int) : Bool × List Int × Bool := if okB n l = true ∧ okB n' l' = true then bigR (bigv n l - bigv n' l') else No
theorem bigs_f (n : Bool) (l : List Int) (n' : Bool) (l' : List Int) : impl_bigs.f n l n' l' = some (okB n l && okB n' l') := by
  unfold impl_bigs.f
  rw [bigOk_f, bigOk_f]
  simp only [Option.bind_some]
  cases okB n l <;> simp
theorem iBigSub_ge (n : Bool) (l : List Int) (n' : Bool) (l' : List Int) (k : Nat) (hk : 6000 ≤ k) : impl_BigSub.f k n l n' l' = some (subR n l n' l') := by
  unfold impl_BigSub.f subR
  rw [bigs_f]
  simp only [Option.bind_some]
  by_cases h : okB n l = true ∧ okB n' l' = true
  · rw [if_pos h, if_pos (by rw [h.1, h.2]; rfl)]
    obtain ⟨l1, d1, z1, _⟩ := (okB_iff n l).1 h.1
    obtain ⟨l2, d2, z2, _⟩ := (okB_iff n' l').1 h.2
    obtain ⟨q, v, hq, hv, hl, he⟩ := signed_add_ge (s := n) (s' := !n') d1 d2 z1 z2 (by omega) (by omega)
    simp only [impl_Big_signed.f, impl_signed_minus.f, Option.bind_some]
    rw [hq k (by omega)]
    simp only [Option.bind_some]
    rw [big_ge (rep_dig v) (by omega) q k (by omega), sv_rep hv, he, bigv_sv (!n'), sv_not, ← bigv_sv, ← Int.sub_eq_add_neg]
    rfl
  · rw [if_neg h, if_neg (by simpa using h)]
theorem sBigSub_ge (n : Bool) (l : List Int) (n' : Bool) (l' : List Int) (k : Nat) (hk : 6000 ≤ k) : spec_BigSub.f k n l n' l' = some (subR n l n' l') := by
  obtain ⟨k, rfl⟩ : ∃ j, k = j + 1 := ⟨k - 1, by omega⟩
  unfold spec_BigSub.f subR
  rw [l1Ok_ge n l (k + 1) (by omega), l1Ok_ge n' l' (k + 1) (by omega)]
  simp only [Option.bind_some, spec_BigSub.j0]
  by_cases h1 : okB n l = true
  · rw [if_pos h1]
    by_cases h2 : okB n' l' = true
    · rw [if_neg (show ¬ (!okB n' l') = true by rw [h2]; decide), if_pos (And.intro h1 h2)]
      obtain ⟨l1, d1, z1, _⟩ := (okB_iff n l).1 h1
      obtain ⟨l2, d2, z2, _⟩ := (okB_iff n' l').1 h2
      obtain ⟨q, v, hq, hv, hl, he⟩ := l1Add_ge (s := n) (s' := !n') d1 d2 z1 z2 (by omega) (by omega)
      rw [hq k (by omega)]
      simp only [Option.bind_some]
      rw [l1Big_ge (rep_dig v) (by omega) q k (by omega), sv_rep hv, he, bigv_sv (!n'), sv_not, ← bigv_sv, ← Int.sub_eq_add_neg]
      rfl
    · rw [if_neg (show ¬ (okB n l = true ∧ okB n' l' = true) from fun h => h2 h.2), if_pos (show (!okB n' l') = true by rw [Bool.eq_false_iff.mpr h2]; rfl)]
  · rw [if_neg (show ¬ (okB n l = true ∧ okB n' l' = true) from fun h => h1 h.1), if_neg h1, if_pos trivial]
theorem bigR_len (x : Int) : (bigR x).2.1.length ≤ 16 := by
  unfold bigR
  split
  · rename_i h
    exact (mk_ok h.1 h.2).1
  · simp
theorem subR_len (n l n' l') : (subR n l n' l').2.1.length ≤ 16 := by unfold subR; split; exact bigR_len _; simp
end Go.Proofs.Ytdemeoncjcbojaa.Val
end
section
namespace Go.Proofs.Ytdemeoncjcbojaa.Val
open Go.RowKit Go.Proofs.Ytdemeoncjcbojaa.Pr Go.Proofs.Ytdemeoncjcbojaa.Ext Go.Proofs.Ytdemeoncjcbojaa.Jt Go.Proofs.YtdemeoncjcbojaaW.PrintWords Go.Proofs.YtdemeoncjcbojaaW.PrintLast Go.Proofs.YtdemeoncjcbojaaW.PrintMore
set_option linter.unusedVariables false
set_option linter.unusedSimpArgs false
theorem bS {α β : Type} (a : α) (f : α → Option β) : (some a).bind f = f a := by have h := Option.bind_some a f; rw [h]
end Go.Proofs.Ytdemeoncjcbojaa.Val
end
section
namespace Go.Proofs.Ytdemeoncjcbojaa.Val
open Go.RowKit Go.Proofs.Ytdemeoncjcbojaa.Pr Go.Proofs.Ytdemeoncjcbojaa.Ext Go.Proofs.Ytdemeoncjcbojaa.Jt Go.Proofs.YtdemeoncjcbojaaW.PrintWords Go.Proofs.YtdemeoncjcbojaaW.PrintLast Go.Proofs.YtdemeoncjcbojaaW.PrintMore
set_option linter.unusedVariables false
set_option linter.unusedSimpArgs false
theorem ext_getD {x l : List Int} (h : x.length = l.length) (hg : ∀ j, j < l.length → x.getD j 0 = l.getD j 0) : x = l := by
  apply List.ext_getElem h
  intro j h1 h2
  have := hg j h2
  rw [getD_lt h1, getD_lt h2] at this
  exact this
theorem toIntS_l0 {l : List Int} (hl : l.length < 100000000) : ∀ (m k i : Nat) (x : List Int), i + m = l.length → x.length = l.length → (∀ j, j < i → x.getD j 0 = l.getD j 0) → m + 1 ≤ k → laws_toIntS.l0 k l x (i : Int) = some l := by
  intro m
  induction m with
  | zero =>
    intro k i x hi hx hj hk
    obtain ⟨k, rfl⟩ : ∃ j, k = j + 1 := ⟨k - 1, by omega⟩
    rw [laws_toIntS.l0, if_neg (by omega), ext_getD hx (fun j h => hj j (by omega))]
  | succ m ih =>
    intro k i x hi hx hj hk
    obtain ⟨k, rfl⟩ : ∃ j, k = j + 1 := ⟨k - 1, by omega⟩
    rw [laws_toIntS.l0, if_pos (by omega), if_pos (by omega), if_pos (by omega), rdN, Int.toNat_natCast, w64 (by omega) (by omega), show ((i : Int) + 1) = ((i + 1 : Nat) : Int) from by omega]
    refine ih k (i + 1) _ (by omega) (by rw [List.length_set]; exact hx) (fun j h => ?_) (by omega)
    by_cases hji : j = i
    · rw [hji, getD_set_eq _ (by omega)]
    · rw [getD_set_ne _ (by omega) hji]; exact hj j (by omega)
theorem toIntS_ge {l : List Int} (hl : l.length < 100000000) (k : Nat) (hk : l.length + 1 ≤ k) : laws_toIntS.f k l = some l := by
  unfold laws_toIntS.f
  rw [if_pos (by omega), if_pos (by omega)]
  exact toIntS_l0 hl l.length k 0 _ (by omega) (by simp) (fun j h => by omega) hk
theorem toBig_ge (n : Bool) {l : List Int} (hl : l.length < 100000000) (k : Nat) (hk : l.length + 1 ≤ k) : laws_toBig.f k n l = some (n, l) := by
  unfold laws_toBig.f
  rw [toIntS_ge hl k hk]; rfl
theorem eqIntS_l0 {a : List Int} (hL : a.length < 100000000) : ∀ (m k i : Nat), i + m = a.length → m + 1 ≤ k → laws_eqIntS.l0 k a a (i : Int) = some true := by
  intro m
  induction m with
  | zero =>
    intro k i hi hk
    obtain ⟨k, rfl⟩ : ∃ j, k = j + 1 := ⟨k - 1, by omega⟩
    rw [laws_eqIntS.l0, if_neg (by omega)]
  | succ m ih =>
    intro k i hi hk
    obtain ⟨k, rfl⟩ : ∃ j, k = j + 1 := ⟨k - 1, by omega⟩
    rw [laws_eqIntS.l0, if_pos (by omega), if_pos (by omega), if_pos (by omega), if_pos rfl, w64 (by omega) (by omega), show ((i : Int) + 1) = ((i + 1 : Nat) : Int) from by omega]
    exact ih k (i + 1) (by omega) (by omega)
theorem eqBig_ge (n : Bool) {l : List Int} (hl : l.length < 100000000) (k : Nat) (hk : l.length + 1 ≤ k) : laws_eqBig.f k n l n l = some true := by
  unfold laws_eqBig.f laws_eqIntS.f
  rw [if_neg (by simp), if_pos rfl]
  rw [show (0 : Int) = ((0 : Nat) : Int) from rfl, eqIntS_l0 hl l.length k 0 (by omega) hk]
  rfl
theorem szBig_f (n : Bool) {l : List Int} (hl : l.length ≤ 9223372036854775807) {a : Int} (h0 : 0 ≤ a) (h1 : a ≤ 1048576) : laws_szBig.f n l a = some (if a - (l.length : Int) < 0 then -1 else a - (l.length : Int)) := by
  unfold laws_szBig.f laws_szIntS.f
  rw [w64 (by omega) (by omega)]
  by_cases h : a - (l.length : Int) < 0
  · rw [if_pos h, if_pos h]; rfl
  · rw [if_neg h, if_neg h, Option.bind_some, if_neg h]
end Go.Proofs.Ytdemeoncjcbojaa.Val
end
section
namespace Go.Proofs.Ytdemeoncjcbojaa.Val
open Go.RowKit Go.Proofs.Ytdemeoncjcbojaa.Pr Go.Proofs.Ytdemeoncjcbojaa.Ext Go.Proofs.Ytdemeoncjcbojaa.Jt Go.Proofs.YtdemeoncjcbojaaW.PrintWords Go.Proofs.YtdemeoncjcbojaaW.PrintLast Go.Proofs.YtdemeoncjcbojaaW.PrintMore
set_option linter.unusedVariables false
set_option linter.unusedSimpArgs false
theorem mark_l0 : ∀ (m i : Nat) (x : List Int) (a : Int), i + m = x.length → x.length ≤ 1000 → 0 ≤ a → a + m ≤ 1000000 →
    ∃ r, (∀ k, m + 1 ≤ k → laws_markIntS.l0 k x a (i : Int) = some (a + m, r)) ∧ r.length = x.length ∧ (∀ j, j < i → r.getD j 0 = x.getD j 0) ∧ (∀ j, i ≤ j → j < x.length → r.getD j 0 = a + ((j - i : Nat) : Int)) := by
  intro m
  induction m with
  | zero =>
    intro i x a hi hl h0 h1
    refine ⟨x, fun k hk => ?_, rfl, fun j _ => rfl, fun j h2 h3 => by omega⟩
    obtain ⟨k, rfl⟩ : ∃ j, k = j + 1 := ⟨k - 1, by omega⟩
    rw [laws_markIntS.l0, if_neg (by omega)]
    simp
  | succ m ih =>
    intro i x a hi hl h0 h1
    have hlt : i < x.length := by omega
    · obtain ⟨r, hr, h2, h3, h4⟩ := ih (i + 1) (x.set i a) (a + 1) (by rw [List.length_set]; omega) (by rw [List.length_set]; omega) (by omega) (by omega)
      refine ⟨r, fun k hk => ?_, by rw [h2, List.length_set], fun j hj => by rw [h3 j (by omega), getD_set_ne _ hlt (by omega)], fun j hj hj2 => ?_⟩
      · obtain ⟨k, rfl⟩ : ∃ j, k = j + 1 := ⟨k - 1, by omega⟩
        rw [laws_markIntS.l0, if_pos (by omega), if_pos (by omega), Int.toNat_natCast, w64 (by omega) (by omega), w64 (by omega) (by omega), show ((i : Int) + 1) = ((i + 1 : Nat) : Int) from by omega, hr k (by omega)]
        rw [show a + 1 + (m : Int) = a + ((m + 1 : Nat) : Int) from by omega]
      · by_cases hji : j = i
        · rw [hji, h3 i (by omega), getD_set_eq _ hlt]; omega
        · rw [h4 j (by omega) (by rw [List.length_set]; exact hj2)]; omega
theorem held_l0 : ∀ (m k i : Nat) (x : List Int) (a : Int), i + m = x.length → x.length ≤ 1000 → 0 ≤ a → a + m ≤ 1000000 → (∀ j, i ≤ j → j < x.length → x.getD j 0 = a + ((j - i : Nat) : Int)) → m + 1 ≤ k →
    laws_heldIntS.l0 k x a (i : Int) = some (a + m) := by
  intro m
  induction m with
  | zero =>
    intro k i x a hi hl h0 h1 hx hk
    obtain ⟨k, rfl⟩ : ∃ j, k = j + 1 := ⟨k - 1, by omega⟩
    rw [laws_heldIntS.l0, if_neg (by omega)]
    simp
  | succ m ih =>
    intro k i x a hi hl h0 h1 hx hk
    obtain ⟨k, rfl⟩ : ∃ j, k = j + 1 := ⟨k - 1, by omega⟩
    have e := hx i (Nat.le_refl _) (by omega)
    rw [laws_heldIntS.l0, if_pos (by omega), if_pos (by omega), rdN, if_pos (by rw [e]; simp), w64 (by omega) (by omega), w64 (by omega) (by omega), show ((i : Int) + 1) = ((i + 1 : Nat) : Int) from by omega,
      ih k (i + 1) x (a + 1) (by omega) hl (by omega) (by omega) (fun j h2 h3 => by rw [hx j (by omega) h3]; omega) (by omega)]
    rw [show a + 1 + (m : Int) = a + ((m + 1 : Nat) : Int) from by omega]
theorem mark_ge (n : Bool) (l : List Int) (hl : l.length ≤ 1000) (a : Int) (h0 : 0 ≤ a) (h1 : a ≤ 900000) : ∃ r, (∀ k, 1010 ≤ k → laws_markBig.f k n l a = some (a + l.length, r)) ∧ r.length = l.length ∧ (∀ n' k, 1010 ≤ k → laws_heldBig.f k n' r a = some (a + l.length)) := by
  obtain ⟨r, hr, h2, _, h4⟩ := mark_l0 l.length 0 l a (by omega) hl h0 (by omega)
  refine ⟨r, fun k hk => ?_, h2, fun n' k hk => ?_⟩
  · unfold laws_markBig.f laws_markIntS.f
    rw [show (0 : Int) = ((0 : Nat) : Int) from rfl, hr k (by omega)]; rfl
  · unfold laws_heldBig.f laws_heldIntS.f
    rw [show (0 : Int) = ((0 : Nat) : Int) from rfl, held_l0 r.length k 0 r a (by omega) (by omega) h0 (by omega) (fun j h5 h6 => h4 j h5 (by omega)) (by omega), Option.bind_some, h2, if_neg (by omega)]
theorem mark_l0' : ∀ (m i : Nat) (x : List Int) (a : Int), i + m = x.length → x.length ≤ 1100000 → 0 ≤ a → a + m ≤ 10000000 →
    ∃ r, ∀ k, m + 1 ≤ k → laws_markIntS.l0 k x a (i : Int) = some (a + m, r) := by
  intro m
  induction m with
  | zero =>
    intro i x a hi hl h0 h1
    refine ⟨x, fun k hk => ?_⟩
    obtain ⟨k, rfl⟩ : ∃ j, k = j + 1 := ⟨k - 1, by omega⟩
    rw [laws_markIntS.l0, if_neg (by omega)]
    simp
  | succ m ih =>
    intro i x a hi hl h0 h1
    obtain ⟨r, hr⟩ := ih (i + 1) (x.set i a) (a + 1) (by rw [List.length_set]; omega) (by rw [List.length_set]; omega) (by omega) (by omega)
    refine ⟨r, fun k hk => ?_⟩
    obtain ⟨k, rfl⟩ : ∃ j, k = j + 1 := ⟨k - 1, by omega⟩
    rw [laws_markIntS.l0, if_pos (by omega), if_pos (by omega), Int.toNat_natCast, w64 (by omega) (by omega), w64 (by omega) (by omega), show ((i : Int) + 1) = ((i + 1 : Nat) : Int) from by omega, hr k (by omega)]
    rw [show a + 1 + (m : Int) = a + ((m + 1 : Nat) : Int) from by omega]
theorem mark_big (n : Bool) (l : List Int) (hl : l.length ≤ 1100000) (a : Int) (h0 : 0 ≤ a) (h1 : a ≤ 8000000) : ∃ r, (∀ k, l.length + 1 ≤ k → laws_markBig.f k n l a = some (a + l.length, r)) ∧ True ∧ True := by
  obtain ⟨r, hr⟩ := mark_l0' l.length 0 l a (by omega) hl h0 (by omega)
  refine ⟨r, fun k hk => ?_, trivial, trivial⟩
  unfold laws_markBig.f laws_markIntS.f
  rw [show (0 : Int) = ((0 : Nat) : Int) from rfl, hr k (by omega)]; rfl
end Go.Proofs.Ytdemeoncjcbojaa.Val
end
section
namespace Go.Proofs.Ytdemeoncjcbojaa.Pure
open Go.RowKit Go.Proofs.Ytdemeoncjcbojaa.Pr Go.Proofs.Ytdemeoncjcbojaa.Pw Go.Proofs.Ytdemeoncjcbojaa.Ext Go.Proofs.Ytdemeoncjcbojaa.Jt Go.Proofs.Ytdemeoncjcbojaa.Val Go.Proofs.YtdemeoncjcbojaaW.PrintWords Go.Proofs.YtdemeoncjcbojaaW.PrintLast Go.Proofs.YtdemeoncjcbojaaW.PrintMore
set_option linter.unusedVariables false
set_option linter.unusedSimpArgs false
theorem FnExactBigSub (n : Bool) (l : List Int) (n' : Bool) (l' : List Int) (hm : l.length ≤ maxLen) (hm2 : l'.length ≤ maxLen) : ∃ k, laws_FnExactBigSub.f k n l n' l' = some true := by
  have hm' : l.length ≤ 9223372036854775807 := Nat.le_trans hm (by unfold maxLen; decide)
  have hm2' : l'.length ≤ 9223372036854775807 := Nat.le_trans hm2 (by unfold maxLen; decide)
  refine ⟨l.length + l'.length + 8000, ?_⟩
  unfold laws_FnExactBigSub.f
  rw [szBig_f n hm' (by omega) (by omega)]; simp only [bS]
  by_cases h : (1048576 : Int) - (l.length : Int) < 0
  · rw [if_pos h, if_pos (by decide)]
  · rw [if_neg h, if_neg h, szBig_f n' hm2' (by omega) (by omega)]; simp only [bS]
    by_cases h2 : (1048576 : Int) - (l.length : Int) - (l'.length : Int) < 0
    · rw [if_pos h2, if_pos (by decide)]
    · have hx := subR_len n l n' l'
      obtain ⟨r, hr, q2, q3⟩ := mark_big n l (by omega) 1 (by omega) (by omega)
      obtain ⟨r', hr', q2', q3'⟩ := mark_big n' l' (by omega) (1 + l.length) (by omega) (by omega)
      obtain ⟨s, hs, p2, p3⟩ := mark_ge (subR n l n' l').1 (subR n l n' l').2.1 (by omega) 1 (by omega) (by omega)
      have h0 : ¬ (1 + ((subR n l n' l').2.1.length : Int) < 0) := by omega
      have h00 : ¬ (1 + (l.length : Int) + (l'.length : Int) < 0) := by omega
      rw [if_neg h2, if_neg h2]
      simp only [toBig_ge n (show l.length < 100000000 by omega) _ (show l.length + 1 ≤ l.length + l'.length + 8000 by omega), toBig_ge n' (show l'.length < 100000000 by omega) _ (show l'.length + 1 ≤ l.length + l'.length + 8000 by omega), bS]
      rw [sBigSub_ge n l n' l' _ (by omega)]; simp only [bS]
      rw [iBigSub_ge n l n' l' _ (by omega)]; simp only [bS]
      rw [eqBig_ge _ (by omega) _ (by omega)]; simp only [bS]
      rw [if_pos trivial, if_neg (by simp), eqBig_ge n (by omega) _ (by omega)]; simp only [bS]
      rw [if_pos trivial, eqBig_ge n' (by omega) _ (by omega)]; simp only [bS]
      rw [if_pos trivial, hr _ (by omega)]; simp only [bS]
      rw [hr' _ (by omega)]; simp only [bS]
      rw [if_neg h00, if_pos trivial, hs _ (by omega)]; simp only [bS]
      rw [p3 _ _ (by omega)]; simp only [bS]
      simp only [if_neg h0, if_true]
      simp
end Go.Proofs.Ytdemeoncjcbojaa.Pure
end
