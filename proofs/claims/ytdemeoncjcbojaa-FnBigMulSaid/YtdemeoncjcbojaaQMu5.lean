/- What the claim's row needs of the contracts and words below it, and no more. -/
import Derived.Test.YtdemeoncjcbojaaQMu4
section
namespace Go.Proofs.Ytdemeoncjcbojaa.Val
open Go.RowKit Go.Proofs.Ytdemeoncjcbojaa.Pr Go.Proofs.Ytdemeoncjcbojaa.Ext Go.Proofs.Ytdemeoncjcbojaa.Jt Go.Proofs.YtdemeoncjcbojaaW.PrintWords Go.Proofs.YtdemeoncjcbojaaW.PrintLast Go.Proofs.YtdemeoncjcbojaaW.PrintMore
set_option linter.unusedVariables false
set_option linter.unusedSimpArgs false
theorem wf8 {a : Int} (h : (Lit.int .u8 a).wf = true) : 0 ≤ a ∧ a ≤ 255 := by
  simp [Lit.wf, IntKind.min, IntKind.max, IntKind.signed, IntKind.bits] at h; omega
theorem rd_mem {l : List Int} {i : Int} (h0 : 0 ≤ i) (h : i < (l.length : Int)) : rd l i ∈ l := by
  have hi : i.toNat < l.length := by omega
  unfold rd
  rw [List.getD_eq_getElem?_getD, List.getElem?_eq_getElem hi]
  exact List.getElem_mem hi
theorem xor_nonneg {x y : Int} (hx : 0 ≤ x) (hx' : x < 4611686018427387904) (hy : 0 ≤ y) (hy' : y < 4611686018427387904) : 0 ≤ Go.bits .xor .i64 x y := by
  obtain ⟨a, rfl⟩ := Int.eq_ofNat_of_zero_le hx
  obtain ⟨b, rfl⟩ := Int.eq_ofNat_of_zero_le hy
  have ha : a < 2 ^ 62 := by omega
  have hb : b < 2 ^ 62 := by omega
  have hlt := Nat.xor_lt_two_pow ha hb
  have ha' : a % 2 ^ IntKind.i64.bits = a := Nat.mod_eq_of_lt (by show a < 2 ^ 64; omega)
  have hb' : b % 2 ^ IntKind.i64.bits = b := Nat.mod_eq_of_lt (by show b < 2 ^ 64; omega)
  have e : Go.bits .xor .i64 (a : Int) (b : Int) = ((a ^^^ b : Nat) : Int) := by
    simp only [Go.bits, BitVec.ofInt_natCast, BitVec.toNat_xor, BitVec.toNat_ofNat, ha', hb']
    rw [IntKind.wrap_i64]
    omega
  rw [e]
  omega
def BytesOk (b : List Int) : Prop := b.length ≤ 2000 ∧ ∀ x ∈ b, 0 ≤ x ∧ x ≤ 255
theorem pick_any {b : List Int} (hb : BytesOk b) {p n : Int} (hp : 0 ≤ p) (hp' : p ≤ 1000000) (hn : 1 ≤ n) :
    ∃ r, (∀ k, spec_l1Rd_pick.f (k + 1) b p n = some (r, p + 1)) ∧ 0 ≤ r ∧ r < n := by
  have e1 : wrap64 (p + 1) = p + 1 := w64 (by omega) (by omega)
  have e2 : wrap64 (p + 1 - 1) = p := by rw [w64 (by omega) (by omega)]; omega
  have hl := hb.1
  by_cases h0 : b.length = 0
  · refine ⟨0, fun k => ?_, by omega, by omega⟩
    have hz : ((b.length : Int) == 0) = true := by rw [h0]; rfl
    unfold spec_l1Rd_pick.f
    rw [if_neg (by omega), e1, hz]
    simp only [spec_l1Rd_pick.j0, if_true]
  · have hz : ((b.length : Int) == 0) = false := by rw [beq_eq_false_iff_ne]; omega
    by_cases hk : p < (b.length : Int)
    · have hm := hb.2 _ (rd_mem hp hk)
      refine ⟨Int.tmod (rd b p) n, fun k => ?_, Int.tmod_nonneg _ hm.1, Int.tmod_lt_of_pos _ (by omega)⟩
      unfold spec_l1Rd_pick.f
      rw [if_neg (by omega), e1, hz]
      simp only [spec_l1Rd_pick.j0]
      rw [if_neg (by decide), e2, if_pos hk, if_pos hp, if_neg (by omega), w64 (by omega) (by omega)]
    · have hL : (0 : Int) < (b.length : Int) := by omega
      have e7 : wrap64 (wrap64 (p * 7) + 3) = p * 7 + 3 := by
        rw [w64 (x := p * 7) (by omega) (by omega), w64 (by omega) (by omega)]
      have i1 := Int.tmod_nonneg (b.length : Int) hp
      have j1 := Int.tmod_lt_of_pos p hL
      have i2 := Int.tmod_nonneg (b.length : Int) (show 0 ≤ p * 7 + 3 by omega)
      have j2 := Int.tmod_lt_of_pos (p * 7 + 3) hL
      have hA := hb.2 _ (rd_mem i1 j1)
      have hB := hb.2 _ (rd_mem i2 j2)
      have hq0 : 0 ≤ Int.tdiv p (b.length : Int) := Int.tdiv_nonneg hp (by omega)
      have hq1 : Int.tdiv p (b.length : Int) ≤ p := by
        rw [Int.tdiv_eq_ediv_of_nonneg hp]; exact Int.ediv_le_self _ hp
      generalize hAe : rd b (Int.tmod p (b.length : Int)) = A at hA
      generalize hBe : rd b (Int.tmod (p * 7 + 3) (b.length : Int)) = B at hB
      generalize hQe : Int.tdiv p (b.length : Int) = Q at hq0 hq1
      have hX : 0 ≤ wrap64 (wrap64 (wrap64 (wrap64 (wrap64 A * 131) + wrap64 (wrap64 B * 1117)) + wrap64 (p * 29)) + wrap64 (wrap64 Q * 53)) ∧
          wrap64 (wrap64 (wrap64 (wrap64 (wrap64 A * 131) + wrap64 (wrap64 B * 1117)) + wrap64 (p * 29)) + wrap64 (wrap64 Q * 53)) < 1000000000 := by
        rw [w64 (x := A) (by omega) (by omega), w64 (x := B) (by omega) (by omega), w64 (x := Q) (by omega) (by omega), w64 (x := A * 131) (by omega) (by omega), w64 (x := B * 1117) (by omega) (by omega),
          w64 (x := p * 29) (by omega) (by omega), w64 (x := Q * 53) (by omega) (by omega), w64 (x := A * 131 + B * 1117) (by omega) (by omega), w64 (x := A * 131 + B * 1117 + p * 29) (by omega) (by omega),
          w64 (by omega) (by omega)]
        omega
      generalize hXe : wrap64 (wrap64 (wrap64 (wrap64 (wrap64 A * 131) + wrap64 (wrap64 B * 1117)) + wrap64 (p * 29)) + wrap64 (wrap64 Q * 53)) = X at hX
      have hY : 0 ≤ wrap64 (Int.tdiv X 64) ∧ wrap64 (Int.tdiv X 64) < 1000000000 := by
        rw [Int.tdiv_eq_ediv_of_nonneg hX.1, w64 (by omega) (by omega)]; omega
      refine ⟨Int.tmod (Go.bits .xor .i64 X (wrap64 (Int.tdiv X 64))) n, fun k => ?_, Int.tmod_nonneg _ (xor_nonneg hX.1 (by omega) hY.1 (by omega)), Int.tmod_lt_of_pos _ (by omega)⟩
      unfold spec_l1Rd_pick.f
      rw [if_neg (by omega), e1, hz]
      simp only [spec_l1Rd_pick.j0]
      rw [if_neg (by decide), e2, if_neg hk, if_neg (by omega), if_pos i1, if_pos j1, e7, if_pos i2, if_pos j2, if_neg (by omega), hAe, hBe, hQe, hXe]
theorem open_any {l : List Int} (hl : ∀ x ∈ l, (Lit.int .u8 x).wf = true) : ∃ b, spec_l1Open.f l = some (b, 0) ∧ BytesOk b := by
  unfold spec_l1Open.f
  by_cases h : (l.length : Int) > 2000
  · rw [if_pos h, if_pos (by omega)]
    exact ⟨_, rfl, by rw [List.length_take]; omega, fun x hx => wf8 (hl x (List.mem_of_mem_take hx))⟩
  · rw [if_neg h]
    exact ⟨_, rfl, by omega, fun x hx => wf8 (hl x hx)⟩
theorem one_any {b : List Int} (hb : BytesOk b) {p : Int} (hp : 0 ≤ p) (hp' : p ≤ 1000000) {l : List Int} (hl : 1 ≤ l.length) :
    ∃ r, (∀ k, spec_l1Rd_one.f (k + 1) b p l = some (r, p + 1)) ∧ r ∈ l := by
  obtain ⟨i, hi, h0, h1⟩ := pick_any hb hp hp' (n := (l.length : Int)) (by omega)
  refine ⟨rd l i, fun k => ?_, rd_mem h0 h1⟩
  unfold spec_l1Rd_one.f
  rw [hi k]
  simp only [Option.bind_some]
  rw [if_pos h0, if_pos h1]
theorem pick_ge {b : List Int} (hb : BytesOk b) {p n : Int} (hp : 0 ≤ p) (hp' : p ≤ 1000000) (hn : 1 ≤ n) :
    ∃ r, (∀ k, 1 ≤ k → spec_l1Rd_pick.f k b p n = some (r, p + 1)) ∧ 0 ≤ r ∧ r < n := by
  obtain ⟨r, h, h0, h1⟩ := pick_any hb hp hp' hn
  exact ⟨r, fun k hk => by obtain ⟨m, rfl⟩ : ∃ m, k = m + 1 := ⟨k - 1, by omega⟩; exact h m, h0, h1⟩
theorem one_ge {b : List Int} (hb : BytesOk b) {p : Int} (hp : 0 ≤ p) (hp' : p ≤ 1000000) {l : List Int} (hl : 1 ≤ l.length) :
    ∃ r, (∀ k, 1 ≤ k → spec_l1Rd_one.f k b p l = some (r, p + 1)) ∧ r ∈ l := by
  obtain ⟨r, h, h0⟩ := one_any hb hp hp' hl
  exact ⟨r, fun k hk => by obtain ⟨m, rfl⟩ : ∃ m, k = m + 1 := ⟨k - 1, by omega⟩; exact h m, h0⟩
theorem size_of (xs : List Int) : (strOfNums xs).size = xs.length := by unfold strOfNums; simp [ByteArray.size]
theorem size_app (a b : ByteArray) : (a ++ b).size = a.size + b.size := ByteArray.size_append
theorem figs_l0 {b : List Int} (hb : BytesOk b) (n : Int) (hn : n ≤ 100) : ∀ (m : Nat) (s : ByteArray) (p : Int), 0 ≤ p → p + 2 * m ≤ 900000 → (s.size : Int) + m = n →
    ∃ r p', (∀ k, m + 2 ≤ k → spec_l14Figs.l0 k n s b p = some (r, p')) ∧ (r.size : Int) = n ∧ p ≤ p' ∧ p' ≤ p + 2 * m := by
  intro m
  induction m with
  | zero =>
    intro s p hp hp' hs
    refine ⟨s, p, fun k hk => ?_, by omega, by omega, by omega⟩
    obtain ⟨k, rfl⟩ : ∃ j, k = j + 1 := ⟨k - 1, by omega⟩
    rw [spec_l14Figs.l0, if_neg (by omega)]
  | succ m ih =>
    intro s p hp hp' hs
    obtain ⟨x, hx, _, _⟩ := pick_ge hb hp (by omega) (n := 10) (by omega)
    obtain ⟨y, hy, _⟩ := one_ge hb (p := p + 1) (by omega) (by omega) (l := [0, 0, 9, 9, 5, 1, x]) (by simp)
    obtain ⟨r, p', hr, h1, h2, h3⟩ := ih (s ++ strOfNums [(wrap64 (48 + y)) % 256]) (p + 1 + 1) (by omega) (by omega) (by rw [size_app, size_of]; simp; omega)
    refine ⟨r, p', fun k hk => ?_, h1, by omega, by omega⟩
    obtain ⟨k, rfl⟩ : ∃ j, k = j + 1 := ⟨k - 1, by omega⟩
    rw [spec_l14Figs.l0, if_pos (by omega), hx k (by omega)]
    simp only [Option.bind_some]
    rw [hy k (by omega)]
    simp only [Option.bind_some]
    rw [if_pos (by rw [size_of]; simp; omega)]
    exact hr k (by omega)
theorem figs_any {b : List Int} (hb : BytesOk b) {p : Int} (hp : 0 ≤ p) (hp' : p ≤ 500000) {n : Int} (hn : n ≤ 100) :
    ∃ r p', (∀ k, 200 ≤ k → spec_l14Figs.f k b p n = some (r, p')) ∧ r.size ≤ 101 ∧ p ≤ p' ∧ p' ≤ p + 300 := by
  by_cases h1 : n < 1
  · refine ⟨⟨#[48]⟩, p, fun k hk => ?_, by decide, by omega, by omega⟩
    unfold spec_l14Figs.f
    rw [if_pos h1]
  · obtain ⟨x, hx, _, _⟩ := pick_ge hb hp (by omega) (n := 9) (by omega)
    obtain ⟨r, p', hr, q1, q2, q3⟩ := figs_l0 hb n hn (n.toNat - 1) (strOfNums [(wrap64 (49 + x)) % 256]) (p + 1) (by omega) (by omega) (by rw [size_of]; simp; omega)
    refine ⟨r, p', fun k hk => ?_, by omega, by omega, by omega⟩
    unfold spec_l14Figs.f
    rw [if_neg h1, hx k (by omega)]
    simp only [Option.bind_some]
    exact hr k (by omega)
theorem many_l0 (s : ByteArray) (hs : s.size = 1) : ∀ (m : Nat) (a : ByteArray), a.size + m ≤ 1000 → ∃ r, (∀ k, m + 1 ≤ k → spec_l1Many.l0 k s (m : Int) a = some r) ∧ r.size = a.size + m := by
  intro m
  induction m with
  | zero =>
    intro a ha
    refine ⟨a, fun k hk => ?_, by omega⟩
    obtain ⟨k, rfl⟩ : ∃ j, k = j + 1 := ⟨k - 1, by omega⟩
    rw [spec_l1Many.l0, if_neg (by omega)]
  | succ m ih =>
    intro a ha
    obtain ⟨r, hr, h⟩ := ih (a ++ s) (by rw [size_app]; omega)
    refine ⟨r, fun k hk => ?_, by rw [size_app] at h; omega⟩
    obtain ⟨k, rfl⟩ : ∃ j, k = j + 1 := ⟨k - 1, by omega⟩
    rw [spec_l1Many.l0, if_pos (by omega), if_pos (by omega), w64 (by omega) (by omega), show (((m + 1 : Nat) : Int) - 1) = (m : Int) from by omega]
    exact hr k (by omega)
theorem many_any (s : ByteArray) (hs : s.size = 1) (n : Int) (hn : n ≤ 100) : ∃ r, (∀ k, 200 ≤ k → spec_l1Many.f k s n = some r) ∧ r.size ≤ 100 := by
  by_cases h0 : n ≤ 0
  · refine ⟨⟨#[]⟩, fun k hk => ?_, by decide⟩
    obtain ⟨k, rfl⟩ : ∃ j, k = j + 1 := ⟨k - 1, by omega⟩
    unfold spec_l1Many.f
    rw [spec_l1Many.l0, if_neg (by omega)]
  · obtain ⟨r, hr, h⟩ := many_l0 s hs n.toNat ⟨#[]⟩ (by show 0 + n.toNat ≤ 1000; omega)
    refine ⟨r, fun k hk => ?_, by rw [h]; show 0 + n.toNat ≤ 100; omega⟩
    unfold spec_l1Many.f
    have e := hr k (by omega)
    rw [show ((n.toNat : Nat) : Int) = n from by omega] at e
    exact e
theorem fromFig_l1 (s : ByteArray) (hs : s.size ≤ 200) (acc : List Int) (ha : acc.length ≤ 1000) (x4 : Nat) (h4 : x4 ≤ s.size) (K : Nat) (R : List Int → Prop)
    (hnext : ∀ y, ∃ r, (∀ k, K ≤ k → spec_l1FromFigures.l0 k (s.extract 0 x4) (acc ++ [y]) = some r) ∧ R r) :
    ∀ (m i : Nat) (x5 : Int), i + m = s.size → ∃ r, (∀ k, m + 1 + K ≤ k → spec_l1FromFigures.l1 k s acc (x4 : Int) x5 (i : Int) = some r) ∧ R r := by
  intro m
  induction m with
  | zero =>
    intro i x5 hi
    obtain ⟨r, hr, h⟩ := hnext x5
    refine ⟨r, fun k hk => ?_, h⟩
    obtain ⟨k, rfl⟩ : ∃ j, k = j + 1 := ⟨k - 1, by omega⟩
    rw [spec_l1FromFigures.l1, if_neg (by omega), if_pos (by omega), if_pos (by omega), if_pos (by omega), Int.toNat_natCast]
    exact hr k (by omega)
  | succ m ih =>
    intro i x5 hi
    obtain ⟨r, hr, h⟩ := ih (i + 1) (wrap64 ((wrap64 (x5 * 10)) + (((bt s (i : Int)) - 48) % 256))) (by omega)
    refine ⟨r, fun k hk => ?_, h⟩
    obtain ⟨k, rfl⟩ : ∃ j, k = j + 1 := ⟨k - 1, by omega⟩
    rw [spec_l1FromFigures.l1, if_pos (by omega), if_pos (by omega), w64 (x := (i : Int) + 1) (by omega) (by omega), show ((i : Int) + 1) = ((i + 1 : Nat) : Int) from by omega]
    exact hr k (by omega)
set_option maxRecDepth 20000 in
theorem fromFig_l0 : ∀ (n : Nat) (s : ByteArray) (acc : List Int), s.size = n → n ≤ 200 → acc.length + n ≤ 1000 → ∃ r, (∀ k, 10 * n + 1200 ≤ k → spec_l1FromFigures.l0 k s acc = some r) ∧ r.length ≤ 1000 := by
  intro n
  induction n using Nat.strongRecOn with
  | ind n ih =>
    intro s acc hs hn hl
    by_cases h0 : s.size = 0
    · refine ⟨trimL acc, fun k hk => ?_, by have := trimL_len acc; omega⟩
      obtain ⟨k, rfl⟩ : ∃ j, k = j + 1 := ⟨k - 1, by omega⟩
      rw [spec_l1FromFigures.l0, if_neg (by omega), sTrim_ge acc (by omega) k (by omega)]; rfl
    · have hx : ∃ x4 : Nat, x4 + 1 ≤ s.size ∧ s.size ≤ x4 + 4 ∧ ∀ k, spec_l1FromFigures.l0 (k + 1) s acc = spec_l1FromFigures.j1 k s acc (x4 : Int) := by
        by_cases h4 : (s.size : Int) - 4 < 0
        · refine ⟨0, by omega, by omega, fun k => ?_⟩
          rw [spec_l1FromFigures.l0, if_pos (by omega), w64 (by omega) (by omega), if_pos h4]; rfl
        · refine ⟨s.size - 4, by omega, by omega, fun k => ?_⟩
          rw [spec_l1FromFigures.l0, if_pos (by omega), w64 (by omega) (by omega), if_neg h4, show ((s.size : Int) - 4) = ((s.size - 4 : Nat) : Int) from by omega]
      obtain ⟨x4, a1, a2, hk0⟩ := hx
      have hsz : (s.extract 0 x4).size = x4 := by rw [ByteArray.size_extract]; omega
      obtain ⟨r, hr, h⟩ := fromFig_l1 s (by omega) acc (by omega) x4 (by omega) (10 * x4 + 1200) (fun r => r.length ≤ 1000)
        (fun y => ih x4 (by omega) (s.extract 0 x4) (acc ++ [y]) hsz (by omega) (by simp; omega)) (s.size - x4) x4 0 (by omega)
      refine ⟨r, fun k hk => ?_, h⟩
      obtain ⟨k, rfl⟩ : ∃ j, k = j + 2 := ⟨k - 2, by omega⟩
      rw [hk0, spec_l1FromFigures.j1]
      exact hr k (by omega)
theorem fromFig_any (s : ByteArray) (hs : s.size ≤ 150) : ∃ r, (∀ k, 2800 ≤ k → spec_l1FromFigures.f k s = some r) ∧ r.length ≤ 1000 := by
  obtain ⟨r, hr, h⟩ := fromFig_l0 s.size s [] rfl (by omega) (by simp; omega)
  exact ⟨r, fun k hk => hr k (by omega), h⟩
theorem l1Big_any (neg : Bool) (l : List Int) (hl : l.length ≤ 1000) : ∃ n r ok, (∀ k, 1010 ≤ k → spec_l1Big.f k neg l = some (n, r, ok)) ∧ r.length ≤ 16 := by
  by_cases h : ((trimL l).length : Int) > 16
  · refine ⟨false, [], false, fun k hk => ?_, by simp⟩
    unfold spec_l1Big.f
    rw [sTrim_ge l (by omega) k (by omega)]
    simp only [Option.bind_some]
    rw [if_pos h]
  · cases neg
    · refine ⟨false, trimL l, true, fun k hk => ?_, by omega⟩
      unfold spec_l1Big.f
      rw [sTrim_ge l (by omega) k (by omega)]
      simp only [Option.bind_some]
      rw [if_neg h, if_neg (by decide)]
    · refine ⟨decide (0 < (trimL l).length), trimL l, true, fun k hk => ?_, by omega⟩
      unfold spec_l1Big.f
      rw [sTrim_ge l (by omega) k (by omega)]
      simp only [Option.bind_some]
      rw [if_neg h, if_pos trivial]
theorem bigJ1_any {b : List Int} (hb : BytesOk b) {p : Int} (hp : 0 ≤ p) (hp' : p ≤ 500000) {n : Int} (hn : n ≤ 100) (s : ByteArray) (hs : s.size ≤ 150) :
    ∃ g r p', (∀ k, 3000 ≤ k → spec_l14Big.j1 k n s b p = some (g, r, p')) ∧ r.length ≤ 16 ∧ p ≤ p' ∧ p' ≤ p + 10 := by
  obtain ⟨x, hx, _, _⟩ := pick_ge hb hp (by omega) (n := 6) (by omega)
  obtain ⟨y, hy, _, _⟩ := pick_ge hb (p := p + 1) (by omega) (by omega) (n := 3) (by omega)
  by_cases h0 : x = 0
  · obtain ⟨t, ht, hts⟩ := many_any (⟨#[57]⟩ : ByteArray) rfl n hn
    obtain ⟨f, hf, hfl⟩ := fromFig_any t (by omega)
    obtain ⟨g, r, ok, hg, hr⟩ := l1Big_any (y == 0) f hfl
    refine ⟨g, r, p + 1 + 1, fun k hk => ?_, hr, by omega, by omega⟩
    obtain ⟨k, rfl⟩ : ∃ j, k = j + 1 := ⟨k - 1, by omega⟩
    rw [spec_l14Big.j1, hx k (by omega)]; simp only [Option.bind_some]
    rw [if_pos h0, ht k (by omega)]; simp only [Option.bind_some]
    rw [hy k (by omega)]; simp only [Option.bind_some]
    rw [hf k (by omega)]; simp only [Option.bind_some]
    rw [hg k (by omega)]; rfl
  · obtain ⟨f, hf, hfl⟩ := fromFig_any s hs
    obtain ⟨g, r, ok, hg, hr⟩ := l1Big_any (y == 0) f hfl
    refine ⟨g, r, p + 1 + 1, fun k hk => ?_, hr, by omega, by omega⟩
    obtain ⟨k, rfl⟩ : ∃ j, k = j + 1 := ⟨k - 1, by omega⟩
    rw [spec_l14Big.j1, hx k (by omega)]; simp only [Option.bind_some]
    rw [if_neg h0, hy k (by omega)]; simp only [Option.bind_some]
    rw [hf k (by omega)]; simp only [Option.bind_some]
    rw [hg k (by omega)]; rfl
theorem bigJ0_any {b : List Int} (hb : BytesOk b) {p : Int} (hp : 0 ≤ p) (hp' : p ≤ 400000) {n : Int} (hn0 : 0 ≤ n) (hn : n ≤ 100) :
    ∃ g r p', (∀ k, 3010 ≤ k → spec_l14Big.j0 k n b p = some (g, r, p')) ∧ r.length ≤ 16 ∧ p ≤ p' ∧ p' ≤ p + 400 := by
  obtain ⟨f, q, hf, hfs, q1, q2⟩ := figs_any hb hp (by omega) hn
  obtain ⟨x, hx, _, _⟩ := pick_ge hb (p := q) (by omega) (by omega) (n := 6) (by omega)
  by_cases h0 : x = 0
  · obtain ⟨t, ht, hts⟩ := many_any (⟨#[48]⟩ : ByteArray) rfl (wrap64 (n - 1)) (by rw [w64 (by omega) (by omega)]; omega)
    obtain ⟨g, r, p', hj, hr, z1, z2⟩ := bigJ1_any hb (p := q + 1) (by omega) (by omega) hn ((⟨#[49]⟩ : ByteArray) ++ t) (by rw [size_app]; show 1 + t.size ≤ 150; omega)
    refine ⟨g, r, p', fun k hk => ?_, hr, by omega, by omega⟩
    obtain ⟨k, rfl⟩ : ∃ j, k = j + 1 := ⟨k - 1, by omega⟩
    rw [spec_l14Big.j0, hf k (by omega)]; simp only [Option.bind_some]
    rw [hx k (by omega)]; simp only [Option.bind_some]
    rw [if_pos h0, ht k (by omega)]; simp only [Option.bind_some]
    rw [if_pos (by omega)]
    exact hj k (by omega)
  · obtain ⟨g, r, p', hj, hr, z1, z2⟩ := bigJ1_any hb (p := q + 1) (by omega) (by omega) hn f (by omega)
    refine ⟨g, r, p', fun k hk => ?_, hr, by omega, by omega⟩
    obtain ⟨k, rfl⟩ : ∃ j, k = j + 1 := ⟨k - 1, by omega⟩
    rw [spec_l14Big.j0, hf k (by omega)]; simp only [Option.bind_some]
    rw [hx k (by omega)]; simp only [Option.bind_some]
    rw [if_neg h0]
    exact hj k (by omega)
theorem big_any {b : List Int} (hb : BytesOk b) {p : Int} (hp : 0 ≤ p) (hp' : p ≤ 300000) {n : Int} (hn : 1 ≤ n) (hn' : n ≤ 64) :
    ∃ g r p', (∀ k, 3020 ≤ k → spec_l14Big.f k b p n = some (g, r, p')) ∧ r.length ≤ 16 ∧ p ≤ p' ∧ p' ≤ p + 500 := by
  obtain ⟨x, hx, x0, x1⟩ := pick_ge hb hp (by omega) (n := 64) (by omega)
  obtain ⟨y, hy, hym⟩ := one_ge hb (p := p + 1) (by omega) (by omega) (l := [0, 1, 1, 2, 3, 4, 5, 8, 9, 12, 17, 29, 30, 31, 33, 63, 64, wrap64 (1 + x)]) (by simp)
  have hy64 : 0 ≤ y ∧ y ≤ 64 := by
    rw [w64 (by omega) (by omega)] at hym
    simp only [List.mem_cons, List.not_mem_nil, or_false] at hym
    omega
  by_cases hc : y > n
  · obtain ⟨z, hz, z0, z1⟩ := pick_ge hb (p := p + 1 + 1) (by omega) (by omega) hn
    obtain ⟨g, r, p', hj, hr, w1, w2⟩ := bigJ0_any hb (p := p + 1 + 1 + 1) (by omega) (by omega) (n := wrap64 (1 + z)) (by rw [w64 (by omega) (by omega)]; omega) (by rw [w64 (by omega) (by omega)]; omega)
    refine ⟨g, r, p', fun k hk => ?_, hr, by omega, by omega⟩
    unfold spec_l14Big.f
    rw [hx k (by omega)]; simp only [Option.bind_some]
    rw [hy k (by omega)]; simp only [Option.bind_some]
    rw [if_pos hc, hz k (by omega)]; simp only [Option.bind_some]
    exact hj k (by omega)
  · obtain ⟨g, r, p', hj, hr, w1, w2⟩ := bigJ0_any hb (p := p + 1 + 1) (by omega) (by omega) (n := y) (by omega) (by omega)
    refine ⟨g, r, p', fun k hk => ?_, hr, by omega, by omega⟩
    unfold spec_l14Big.f
    rw [hx k (by omega)]; simp only [Option.bind_some]
    rw [hy k (by omega)]; simp only [Option.bind_some]
    rw [if_neg hc]
    exact hj k (by omega)
theorem drawMul_any {l : List Int} (hl : ∀ x ∈ l, (Lit.int .u8 x).wf = true) : ∃ g r g' r', (∀ k, 3100 ≤ k → spec_DrawBigMul.f k l = some (g, r, g', r')) ∧ r.length ≤ 16 ∧ r'.length ≤ 16 := by
  obtain ⟨b, hb, hB⟩ := open_any hl
  obtain ⟨x, hx, _, _⟩ := pick_ge hB (p := 0) (by omega) (by omega) (n := 3) (by omega)
  by_cases h0 : x = 0
  · obtain ⟨g, r, p, hg, hr, p1, p2⟩ := big_any hB (p := 0 + 1) (by omega) (by omega) (n := 64) (by omega) (by omega)
    obtain ⟨g', r', p', hg', hr', p1', p2'⟩ := big_any hB (p := p) (by omega) (by omega) (n := 64) (by omega) (by omega)
    refine ⟨g, r, g', r', fun k hk => ?_, hr, hr'⟩
    unfold spec_DrawBigMul.f
    rw [hb]; simp only [Option.bind_some]
    rw [hx k (by omega)]; simp only [Option.bind_some]
    rw [if_pos h0, hg k (by omega)]; simp only [Option.bind_some]
    rw [hg' k (by omega)]; rfl
  · obtain ⟨g, r, p, hg, hr, p1, p2⟩ := big_any hB (p := 0 + 1) (by omega) (by omega) (n := 33) (by omega) (by omega)
    obtain ⟨g', r', p', hg', hr', p1', p2'⟩ := big_any hB (p := p) (by omega) (by omega) (n := 33) (by omega) (by omega)
    refine ⟨g, r, g', r', fun k hk => ?_, hr, hr'⟩
    unfold spec_DrawBigMul.f
    rw [hb]; simp only [Option.bind_some]
    rw [hx k (by omega)]; simp only [Option.bind_some]
    rw [if_neg h0, hg k (by omega)]; simp only [Option.bind_some]
    rw [hg' k (by omega)]; rfl
end Go.Proofs.Ytdemeoncjcbojaa.Val
end
section
namespace Go.Proofs.Ytdemeoncjcbojaa.Pure
open Go.RowKit Go.Proofs.Ytdemeoncjcbojaa.Pr Go.Proofs.Ytdemeoncjcbojaa.Ext Go.Proofs.Ytdemeoncjcbojaa.Jt Go.Proofs.Ytdemeoncjcbojaa.Val Go.Proofs.YtdemeoncjcbojaaW.PrintWords Go.Proofs.YtdemeoncjcbojaaW.PrintLast Go.Proofs.YtdemeoncjcbojaaW.PrintMore
set_option linter.unusedVariables false
set_option linter.unusedSimpArgs false
theorem FnBigMul : laws_FnBigMul.Pure := by
  intro l _ _ hl
  refine ⟨30000, ?_⟩
  unfold laws_FnBigMul.f
  by_cases hlen : (l.length : Int) > 1048576
  · rw [if_pos hlen]
  · rw [if_neg hlen]
    obtain ⟨n, a, n', b, hd, ha, hb⟩ := drawMul_any hl
    rw [hd 30000 (by omega)]; simp only [bS]
    rw [iBigMul_ge n a n' b 30000 (by omega)]; simp only [bS]
    rw [sBigMul_ge n a n' b 30000 (by omega)]; simp only [bS]
    have hxl := mulR_len n a n' b
    rw [if_neg (by simp), jtBig_ge _ _ _ _ (by omega) 30000 (by omega)]; simp only [bS]
    rw [if_pos (by simp)]
    by_cases hok : (mulR n a n' b).2.2 = true
    · obtain ⟨o1, o2, hr, he⟩ := mulR_yes hok
      rw [if_pos hok, iBigMul_ge n' b n a 30000 (by omega)]; simp only [bS]
      rw [mulR_comm n a n' b, iBigDiv_ge _ _ n' b 30000 (by omega)]; simp only [bS]
      rw [if_pos hok, jtBig_ge _ _ _ _ (by omega) 30000 (by omega)]; simp only [bS]
      rw [if_pos (by simp), jtZero_f]; simp only [bS]
      rw [he]
      have b1 := (okB_iff _ _).1 o1
      have b2 := (okB_iff _ _).1 o2
      by_cases h0 : b.length = 0
      · obtain rfl := List.eq_nil_of_length_eq_zero h0
        have hn : n' = false := by
          cases hn' : n'
          · rfl
          · exact absurd rfl (b2.2.2.2 hn')
        subst hn
        rw [divR_no]
        rfl
      · have hbn : decide (b = []) = false := decide_eq_false (fun h => h0 (by rw [h]; rfl))
        rw [divR_mul b1 b2 h0 hr, hbn]
        have ha2 : a.length ≤ 16 := b1.1
        rw [if_pos (by simp), if_pos (by rfl), jtBig_ge _ _ _ _ (show a.length ≤ 1000 by omega) 30000 (by omega)]; simp only [bS]
        rw [if_pos (by simp), jtZero_f]; simp only [bS]
        rfl
    · rw [if_neg hok, if_pos (by simp)]
      simp
end Go.Proofs.Ytdemeoncjcbojaa.Pure
end
