/- What the claim's row needs of the contracts and words below it, and no more. -/
import Derived.Test.YtdemeoncjcbojaaQEd3
section
namespace Go.Proofs.Ytdemeoncjcbojaa.Xd
open Go.RowKit Go.Proofs.Ytdemeoncjcbojaa.Pr Go.Proofs.Ytdemeoncjcbojaa.Val Go.Proofs.YtdemeoncjcbojaaW.PrintWords Go.Proofs.YtdemeoncjcbojaaW.PrintLast Go.Proofs.YtdemeoncjcbojaaW.PrintMore
set_option linter.unusedVariables false
theorem law_calls (n : Bool) (A0 : Option Addr) (c0 : Nat) (l : List Int) (n' : Bool) (A1 : Option Addr) (c1 : Nat) (l' : List Int) (hm : l.length ≤ maxLen) (hm2 : l'.length ≤ maxLen) (w : World) (hr0 : Kd.C (Kd.int .i64) w A0 l.length l) (hc0 : l.length ≤ c0) (hr1 : Kd.C (Kd.int .i64) w A1 l'.length l') (hc1 : l'.length ≤ c1) :
    Calls Try.prog 15 #[.agg #[.bool n, .slice A0 l.length c0], .agg #[.bool n', .slice A1 l'.length c1]] w fun e w' => e = .returned (.bool true) ∧ Below w.heap.size w w' := by
  have hm' : l.length ≤ 9223372036854775807 := Nat.le_trans hm (by unfold maxLen; decide)
  have hm2' : l'.length ≤ 9223372036854775807 := Nat.le_trans hm2 (by unfold maxLen; decide)
  by_cases h : (1048576 : Int) - (l.length : Int) < 0
  · exact leaf0 n A0 c0 l n' A1 c1 l' w hr0 hc0 hr1 hc1 (a := -1) (by rw [szBig_f n hm' (by omega) (by omega), if_pos h]) (by decide)
  · have fa : laws_szBig.f n l 1048576 = some (1048576 - (l.length : Int)) := by rw [szBig_f n hm' (by omega) (by omega), if_neg h]
    by_cases h2 : (1048576 : Int) - (l.length : Int) - (l'.length : Int) < 0
    · exact leaf1 n A0 c0 l n' A1 c1 l' w hr0 hc0 hr1 hc1 fa (decide_eq_false h) (b := -1) (by rw [szBig_f n' hm2' (by omega) (by omega), if_pos h2]) (by decide)
    · have hx := divR_len n l n' l'
      rcases hD : divR n l n' l' with ⟨qn, ql, rn, rl, ok⟩
      rw [hD] at hx
      have hq : ql.length ≤ 16 := hx.1
      have hr : rl.length ≤ 16 := hx.2
      obtain ⟨s0, hs0, _, _⟩ := mark_big n l (by omega) 1 (by omega) (by omega)
      obtain ⟨s1, hs1, _, _⟩ := mark_big n' l' (by omega) (1 + l.length) (by omega) (by omega)
      obtain ⟨u0, hu0, _, ph0⟩ := mark_ge qn ql (by omega) 1 (by omega) (by omega)
      obtain ⟨u1, hu1, _, ph1⟩ := mark_ge rn rl (by omega) (1 + ql.length) (by omega) (by omega)
      exact main n A0 c0 l n' A1 c1 l' w hr0 hc0 hr1 hc1 (K := l.length + l'.length + 30000) fa (decide_eq_false h) (b := 1048576 - (l.length : Int) - (l'.length : Int)) (by rw [szBig_f n' hm2' (by omega) (by omega), if_neg h2]) (decide_eq_false h2)
        (toBig_ge n (by omega) _ (by omega)) (toBig_ge n' (by omega) _ (by omega)) (by rw [sBigDiv_ge n l n' l' _ (by omega), hD]) (by rw [iBigDiv_ge n l n' l' _ (by omega), hD])
        (eqBig_ge qn (by omega) _ (by omega)) (eqBig_ge rn (by omega) _ (by omega)) (eqBig_ge n (by omega) _ (by omega)) (eqBig_ge n' (by omega) _ (by omega))
        (hs0 _ (by omega)) (hs1 _ (by omega)) (decide_eq_false (by omega)) (hu0 _ (by omega)) (hu1 _ (by omega)) (decide_eq_false (by omega)) (decide_eq_false (by omega)) (ph0 _ _ (by omega)) (ph1 _ _ (by omega))
end Go.Proofs.Ytdemeoncjcbojaa.Xd
end
