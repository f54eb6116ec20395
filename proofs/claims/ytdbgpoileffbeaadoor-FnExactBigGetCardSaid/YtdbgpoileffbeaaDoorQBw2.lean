/- What the claim's row needs of the contracts and words below it, and no more. -/
import Derived.Test.YtdbgpoileffbeaaDoorQBw1
import Derived.Lib.AtoiAllMem
import Derived.Lib.IndexLaws
import Derived.Lib.AtoiAllCases
import Derived.Test.YtdbgpoileffbeaaDoorRows
import Derived.Stop.LaidErr
import Derived.Lib.LaidTab
import Derived.Shelf.Vars
import Derived.SizedLaws
import Derived.KernelRfl
section
namespace Go.Proofs.YtdbgpoileffbeaaDoor.RWs
open Go.RowKit Go.Proofs.YtdbgpoileffbeaaDoorW.PrintWords Go.Proofs.YtdbgpoileffbeaaDoorW.PrintLast Go.Proofs.YtdbgpoileffbeaaDoorW.PrintMore
set_option linter.unusedVariables false
theorem ob (A : Option Addr) (n c c' : Nat) : (Value.slice A n c).ownBlock = (Value.slice A n c').ownBlock := by cases A <;> rfl
namespace Kd
def RW {α : Type} (d : Kd α) (e : Nat) (w : World) (base : Nat) (ok : Nat → Prop) (v : Value) (xs : List α) : Prop :=
  (∀ k, v.ownBlock = some k → ok k) ∧ ∃ A c c', v = .slice A xs.length c ∧ xs.length ≤ c ∧ d.R e w base ok (.slice A xs.length c') xs
section
variable {α : Type} {d : Kd α} {e : Nat} {w w1 W : World} {base base' : Nat} {ok ok' ok1 : Nat → Prop} {v u : Value} {xs : List α}
theorem RW_mk {A : Option Addr} {c c' : Nat} (hl : xs.length ≤ c) (h : d.R e w base ok (.slice A xs.length c') xs) : RW d e w base ok (.slice A xs.length c) xs := ⟨fun k hk => h.1 k (by rw [ob A _ c' c]; exact hk), A, c, c', rfl, hl, h⟩
theorem RW_of (h : d.R e w base ok v xs) : RW d e w base ok v xs := by
  obtain ⟨A, c, rfl⟩ := Kd.R_slice h
  exact RW_mk (Kd.R_reads' h).2.1 h
theorem RW_nil (d : Kd α) (e : Nat) (w : World) (base : Nat) (ok : Nat → Prop) : RW d e w base ok (.slice none 0 0) [] := RW_of (Kd.R_nil d e w base ok)
theorem RW_slice (h : RW d e w base ok v xs) : ∃ A c, v = .slice A xs.length c := by
  obtain ⟨_, A, c, _, hv, _, _⟩ := h
  exact ⟨A, c, hv⟩
theorem RW_mono (h : RW d e w base ok v xs) (hok : ∀ k, ok k → ok' k) : RW d e w base ok' v xs := by
  obtain ⟨_, A, c, c', rfl, hl, hr⟩ := h
  exact RW_mk hl (Kd.R_mono hr hok)
theorem RW_alloc (h : RW d e w base ok v xs) (o : Obj) : RW d e (w.alloc o) base ok v xs := by
  obtain ⟨_, A, c, c', rfl, hl, hr⟩ := h
  exact RW_mk hl (Kd.R_alloc hr o)
theorem RW_drewN (h : RW d e w base ok v xs) (m : Nat) : RW d e (w.drewN m) base ok v xs := by
  obtain ⟨_, A, c, c', rfl, hl, hr⟩ := h
  exact RW_mk hl (Kd.R_drewN hr m)
theorem RW_drew (h : RW d e w base ok v xs) : RW d e w.drew base ok v xs := by
  obtain ⟨_, A, c, c', rfl, hl, hr⟩ := h
  exact RW_mk hl (Kd.R_drew hr)
theorem RW_below (h : RW d e w base ok v xs) (hb : Below w.heap.size w w1) : RW d e w1 base ok v xs := by
  obtain ⟨_, A, c, c', rfl, hl, hr⟩ := h
  exact RW_mk hl (Kd.R_below hr hb)
theorem RW_lower (h : RW d e w base ok v xs) (hb : base' ≤ base) : RW d e w base' ok v xs := by
  obtain ⟨_, A, c, c', rfl, hl, hr⟩ := h
  exact RW_mk hl (Kd.R_lower hr hb)
theorem RW_far (h : RW d e w base ok v xs) {p : Addr} (hok : ∀ k, ok k → k ≠ p.block) (x : Value) : RW d e (w.setCell p x) base ok v xs := by
  obtain ⟨_, A, c, c', rfl, hl, hr⟩ := h
  exact RW_mk hl (Kd.R_far hr hok x)
theorem RW_types (h : RW d e w base ok v xs) {g t : Nat} {cells : Array Value} (hb : w.heap[g]? = some (.cells cells t (0, 0))) (ht : ∀ q, q ∈ e :: d.E → q ≠ t) : RW d e w base (fun k => ok k ∧ k ≠ g) v xs := by
  obtain ⟨_, A, c, c', rfl, hl, hr⟩ := h
  exact RW_mk hl (Kd.R_types hr hb ht)
theorem RW_tight (hE : d.E = []) (h : RW d e w base ok v xs) : RW d e w base (fun k => some k = v.ownBlock) v xs := by
  obtain ⟨_, A, c, c', rfl, hl, hr⟩ := h
  refine RW_mk hl (Kd.R_mono (Kd.R_tight hE hr) fun k hk => ?_)
  rw [ob A _ c c']; exact hk
theorem RW_reok (hE : d.E = []) (h : RW d e w base ok1 v xs) (hok : ∀ k, v.ownBlock = some k → ok k) : RW d e w base ok v xs := by
  obtain ⟨_, A, c, c', rfl, hl, hr⟩ := h
  exact RW_mk hl (Kd.R_reok hE hr fun k hk => hok k (by rw [ob A _ c c']; exact hk))
theorem RW_ne (h : RW d e w base ok v xs) {g t : Nat} {cells : Array Value} (hb : w.heap[g]? = some (.cells cells t (0, 0))) (ht : e ≠ t) : some g ≠ v.ownBlock := by
  obtain ⟨_, A, c, c', rfl, hl, hr⟩ := h
  rw [ob A _ c c']; exact Kd.R_ne hr hb ht
theorem RW_base (h : RW d e w base ok v xs) : ∀ k, v.ownBlock = some k → base ≤ k := by
  obtain ⟨_, A, c, c', rfl, hl, hr⟩ := h
  intro k hk
  exact Kd.R_base hr k (by rw [ob A _ c' c]; exact hk)
theorem RW_lt (h : RW d e w base ok v xs) : ∀ k, v.ownBlock = some k → k < w.heap.size := by
  obtain ⟨_, A, c, c', rfl, hl, hr⟩ := h
  intro k hk
  exact Kd.R_lt hr k (by rw [ob A _ c' c]; exact hk)
theorem RW_reads' {A : Option Addr} {n c : Nat} (h : RW d e w base ok (.slice A n c) xs) : n = xs.length ∧ n ≤ c ∧ d.C w A xs.length xs := by
  obtain ⟨_, A1, c1, c', hv, hl, hr⟩ := h
  injection hv with h1 h2 h3
  subst h1; subst h2; subst h3
  exact ⟨rfl, hl, (Kd.R_reads' hr).2.2⟩
theorem RW_elder' (hu : RW d e W base ok u xs) (hbase : ∀ k, v.ownBlock = some k → W.heap.size ≤ k) (hb : Below W.heap.size W w1) : RW d e w1 base (fun k => ok k ∧ some k ≠ v.ownBlock) u xs := by
  obtain ⟨_, A, c, c', rfl, hl, hr⟩ := hu
  exact RW_mk hl (Kd.R_elder' hr hbase hb)
theorem RW_new' (h : RW d e w1 W.heap.size ok v xs) (hlt : ∀ k, u.ownBlock = some k → k < W.heap.size) : RW d e w1 W.heap.size (fun k => ok k ∧ some k ≠ u.ownBlock) v xs := by
  obtain ⟨_, A, c, c', rfl, hl, hr⟩ := h
  exact RW_mk hl (Kd.R_new' hr hlt)
theorem RW_keptB {W2 : World} {S : Nat → Prop} (h : RW d e W base ok v xs) (hk : Kept W W2 S) (hs : ∀ k, ok k → ¬S k) : RW d e W2 base (fun k => ok k ∧ ¬S k ∧ k < W.heap.size) v xs := by
  obtain ⟨_, A, c, c', rfl, hl, hr⟩ := h
  exact RW_mk hl (Kd.R_keptB hr hk hs)
theorem RW_form (h : RW d e w base ok v xs) (hp : 0 < xs.length) : ∃ g cap, v = .slice (some ⟨g, 0, none⟩) xs.length cap ∧ base ≤ g ∧ g < w.heap.size ∧ ∃ cells, w.heap[g]? = some (.cells cells e (0, 0)) := by
  obtain ⟨_, A, c, c', rfl, hl, hr⟩ := h
  obtain ⟨g, cap, hv, h1, h2, h3⟩ := Kd.R_form hr hp
  injection hv with e1 e2 e3
  subst e1
  exact ⟨g, c, rfl, h1, h2, h3⟩
end
section
variable {α : Type} {enc : α → Value} {h1 : ∀ x, (enc x).oneCell' = true} {e base g n cap : Nat} {ok : Nat → Prop} {W : World} {xs : List α}
theorem RW_celln (d : α) (h : RW (Kd.scalar enc h1) e W base ok (.slice (some ⟨g, 0, none⟩) n cap) xs) (i : Int) (h0 : 0 ≤ i) (hi : i < n) : W.cell? ⟨g, i.toNat, none⟩ = some (enc (rdOf d xs i)) ∧ W.frozen? ⟨g, i.toNat, none⟩ = false := by
  obtain ⟨_, A, c, c', hv, hl, hr⟩ := h
  injection hv with e1 e2 e3
  subst e1; subst e2
  exact Kd.R_celln d hr i h0 hi
theorem RW_putg (h : RW (Kd.scalar enc h1) e W base ok (.slice (some ⟨g, 0, none⟩) n cap) xs) (i : Int) (x : α) : RW (Kd.scalar enc h1) e (W.setCell ⟨g, i.toNat, none⟩ (enc x)) base ok (.slice (some ⟨g, 0, none⟩) n cap) (xs.set i.toNat x) ∧ W.grownBy (W.setCell ⟨g, i.toNat, none⟩ (enc x)) (some g) := by
  obtain ⟨_, A, c, c', hv, hl, hr⟩ := h
  injection hv with e1 e2 e3
  subst e1; subst e2; subst e3
  obtain ⟨q1, q2⟩ := Kd.R_putg hr i x
  have hlen : (xs.set i.toNat x).length = xs.length := List.length_set
  refine ⟨?_, q2⟩
  rw [← hlen] at q1 ⊢
  exact RW_mk (by rw [hlen]; exact hl) q1
end
end Kd
end Go.Proofs.YtdbgpoileffbeaaDoor.RWs
end
section
namespace Go.Proofs.YtdbgpoileffbeaaDoor.Pw
open Go.RowKit Go.Proofs.YtdbgpoileffbeaaDoorW.PrintWords Go.Proofs.YtdbgpoileffbeaaDoorW.PrintLast Go.Proofs.YtdbgpoileffbeaaDoorW.PrintMore Go.Proofs.YtdbgpoileffbeaaDoor.RWs Go.Proofs.YtdbgpoileffbeaaDoor.Ext
set_option linter.unusedVariables false
theorem impl_clone_int.calls (A0 : Option Addr) (c0 : Nat) (l0 : List Int) (r : List Int) (w : World) (hr0 : Kd.C (Kd.int .i64) w A0 l0.length l0) (hc0 : l0.length ≤ c0) (h : impl_clone_int.f l0 = some r) :
    Calls Tryd.prog 80 #[.slice A0 l0.length c0] w fun e w' => ∃ v0_ : Value, e = .returned (v0_) ∧ Kd.RW (Kd.int .i64) 3 w' w.heap.size (fun _ => True) v0_ r ∧ Below w.heap.size w w' := by
  have HR0 := Aside0.mk hr0
  have HC0 := Aside0.mk hc0
  have H := Aside0.mk (show clone99.f l0 = some r from h)
  clear hr0 hc0 h
  go_enter Tryd.func80, Tryd.ntmps80
  go_wp2_with (fail)
  refine (clone99.calls A0 c0 l0 r _ HR0.out HC0.out H.out).mono ?_
  rintro e w' ⟨v, rfl, hR, hb⟩
  obtain ⟨A, c, rfl⟩ := Kd.R_slice hR
  have hle : r.length ≤ c := (Kd.R_reads' hR).2.1
  have hm : r.length ≤ 9223372036854775807 := (Kd.R_reads' hR).2.2.2.1
  have HW := Aside0.mk (Kd.RW_mk (c := r.length) (Nat.le_refl _) hR)
  have HB := Aside0.mk hb
  clear hR hb
  go_wp2_with (go_at_call 95; (with_reducible refine (clip_calls A r.length c hle hm _).mono ?_); rintro e w1 ⟨rfl, ⟨nd, rfl⟩⟩)
  go_ret
  exact ⟨_, rfl, by (with_reducible repeat (first | apply Kd.RW_alloc | apply Kd.RW_drewN | apply Kd.RW_drew)); exact HW.out, by repeat (first | exact HB.out | apply pw_below_drewN | apply below_drew1)⟩
end Go.Proofs.YtdbgpoileffbeaaDoor.Pw
end
section
namespace Go.Proofs.YtdbgpoileffbeaaDoor.Pw
open Go.Proofs.YtdbgpoileffbeaaDoor.Pr Go.Proofs.YtdbgpoileffbeaaDoor.RWs Go.RowKit Go.Proofs.YtdbgpoileffbeaaDoorW.PrintWords Go.Proofs.YtdbgpoileffbeaaDoorW.PrintLast Go.Proofs.YtdbgpoileffbeaaDoor.Ext Go.Proofs.YtdbgpoileffbeaaDoorW.PrintMore
attribute [local go_sem] max2_int min2_int max_two min_two max_three min_three max_four min_four
set_option linter.unusedVariables false
set_option linter.unusedSimpArgs false
theorem spec_BigGet.calls (k : Nat) (a0 : ByteArray) (r1 : Bool) (r2 : List Int) (r3 : Bool) (w : World) (h : spec_BigGet.f k a0 = some (r1, r2, r3)) :
    Calls Tryd.prog 21 #[.string a0] w fun e w' => ∃ v1_ : Value, e = .returned (.tuple #[.agg #[.bool r1, v1_], .bool r3]) ∧ Kd.RW (Kd.int .i64) 3 w' w.heap.size (fun _ => True) v1_ r2 ∧ Below w.heap.size w w' :=
  (Go.Proofs.YtdbgpoileffbeaaDoor.Pr.spec_BigGet.calls k a0 r1 r2 r3 w h).mono (by rintro e w' ⟨v, he, ho, hb⟩; exact ⟨v, he, Kd.RW_of ho, hb⟩)
end Go.Proofs.YtdbgpoileffbeaaDoor.Pw
end
section
namespace Go.Proofs.YtdbgpoileffbeaaDoor.Pw
open Go.Proofs.YtdbgpoileffbeaaDoor.Pr Go.Proofs.YtdbgpoileffbeaaDoor.RWs Go.RowKit Go.Proofs.YtdbgpoileffbeaaDoorW.PrintWords Go.Proofs.YtdbgpoileffbeaaDoorW.PrintLast Go.Proofs.YtdbgpoileffbeaaDoor.Ext Go.Proofs.YtdbgpoileffbeaaDoorW.PrintMore
attribute [local go_sem] max2_int min2_int max_two min_two max_three min_three max_four min_four
set_option linter.unusedVariables false
set_option linter.unusedSimpArgs false
set_option maxHeartbeats 8000000 in
set_option maxRecDepth 100000 in
theorem impl_big.calls (k : Nat) (a0 : Bool) (A1 : Option Addr) (c1 : Nat) (l1 : List Int) (r1 : Bool) (r2 : List Int) (r3 : Bool) (w : World) (hr1 : Kd.C (Kd.int .i64) w A1 l1.length l1) (hc1 : l1.length ≤ c1) (h : impl_big.f k a0 l1 = some (r1, r2, r3)) :
    Calls Tryd.prog 48 #[.bool a0, .slice A1 l1.length c1] w fun e w' => ∃ v1_ : Value, e = .returned (.tuple #[.agg #[.bool r1, v1_], .bool r3]) ∧ Kd.RW (Kd.int .i64) 3 w' w.heap.size (fun _ => True) v1_ r2 ∧ Below w.heap.size w w' := by
  have hu27 := Tryd.underlying27
  have HR1 := Aside0.mk hr1
  have HC1 := Aside0.mk hc1
  clear hr1 hc1
  have HB := Aside0.mk (Below.refl w.heap.size w)
  have H : ((impl_limbs_trim.f k l1).bind fun t184 => (if (t184.length : Int) > 16 then (some (false, ([] : List Int), false)) else (if a0 = true then ((impl_clone_int.f t184).bind fun t187 => (some (decide (0 < t184.length), t187, true))) else ((impl_clone_int.f t184).bind fun t190 => (some (false, t190, true)))))) = some (r1, r2, r3) := h
  clear h
  replace H := Option.bind_eq_some_iff.mp H
  obtain ⟨t184, A30, H⟩ := H
  replace H : (if (t184.length : Int) > 16 then (some (false, ([] : List Int), false)) else (if a0 = true then ((impl_clone_int.f t184).bind fun t187 => (some (decide (0 < t184.length), t187, true))) else ((impl_clone_int.f t184).bind fun t190 => (some (false, t190, true))))) = some (r1, r2, r3) := H
  have A3 := Aside0.mk A30
  clear A30
  by_cases c4 : (t184.length : Int) > 16
  · rw [if_pos c4] at H
    have c4b0 : decide (16 < (t184.length : Int)) = true := decide_eq_true c4
    have c4b1 : decide (16 < t184.length) = true := decide_eq_true (by omega)
    clear c4
    simp only [Option.some.injEq, Prod.mk.injEq] at H
    obtain ⟨rfl, rfl, rfl⟩ := H
    go_enter Tryd.func48, Tryd.ntmps48
    go_wp2_with (first | ((with_reducible refine gate_dst (N := 4) rfl ?_); (try (refine gate_guard (by rfl) ?_; dsimp only)); refine box_event ?hg (N := 4) ?hd (cs := #[.bool false, .slice none 0 0]) (t := 27) ?hr ?_; (case hd => rfl); (case hg => rfl); (case hr => first | (go_simp; done) | (go_simp; rfl)); intro gb183 hg w5 hbox hb; have n0_ := Aside0.mk (below_step zb hb); have n1_ := Aside0.mk (hbox); have n2_ := Aside0.mk ((by rw [hg]; exact (below_size zb) : w.heap.size ≤ gb183)); have n3_ := Aside0.mk ((by rw [hg]; exact (below_size zb) : w.heap.size ≤ gb183)); clear HB; have HB := n0_; have BK183 := n1_; have GW183 := n2_; have GE183 := n3_; clear n0_ n1_ n2_ n3_; clear hb hbox hg) | ((with_reducible refine gate_callee (f := 79) rfl ?_); refine goesL_ (some 7) rfl rfl Tryd.func79 (by kernel_rfl) rfl #[.slice A1 l1.length c1] rfl za ?_; (with_reducible refine (impl_limbs_trim.calls k (fun k_ => k_ < w.heap.size) _ _ l1 t184 _ ?side1 A3.out).mono ?_); (case side1 => exact Kd.V_mk HC1.out (Kd.F_below (Kd.C_F (Kd.heap_int .i64) HR1.out) zb)); rintro e w6 ⟨v185, rfl, ho0, hb⟩; refine ⟨_, rfl, ?_⟩; have n0_ := Aside0.mk (Kd.V_lower (Kd.V_mono (ok' := fun k_ => k_ ≠ gb183) ho0 (fun k_ hk_ => Or.elim hk_ (fun hs_ => fun e_ => Nat.not_le.2 hs_ (by rw [e_]; exact GW183.out)) (fun hn_ => (Kd.freshB (g := gb183) (o := .cells #[.bool false, .slice none 0 0] 27 (0, 0)) (zk BK183.out) k_ hn_)))) (below_size zb)); have n1_ := Aside0.mk (blk_below (g := gb183) (o := .cells #[.bool false, .slice none 0 0] 27 (0, 0)) (zk BK183.out) hb); have n2_ := Aside0.mk (below_step zb hb); clear BK183; clear HB; have HO186 := n0_; have BK183 := n1_; have HB := n2_; clear n0_ n1_ n2_; (try clear hb); (try clear hb2); (try clear hk); (try clear hi); (try clear ho0); obtain ⟨Ao7, co7, eo7⟩ := Kd.V_slice HO186.out; subst eo7; have hcz8_0 : w6.cell? ⟨gb183, 0, none⟩ = some (.bool false) := (blk_cell BK183.out 0).trans rfl; have hcz8_1 : w6.cell? ⟨gb183, 1, none⟩ = some (.slice none 0 0) := (blk_cell BK183.out 1).trans rfl; have hfz8_0 := blk_frozen BK183.out 0; have hfz8_1 := blk_frozen BK183.out 1))
    refine bodyPost_ret (results_ct rfl _ _ gb183 27 #[.bool false, .slice none 0 0] (0, 0) _ rfl (by (with_reducible repeat (first | refine blk_drewN ?_ _ | refine blk_drew ?_ | refine blk_alloc ?_ _)); refine blk_put (cs := #[.bool false, .slice none 0 0]) ?_ 1 _ rfl; (with_reducible repeat (first | refine blk_drewN ?_ _ | refine blk_drew ?_ | refine blk_alloc ?_ _)); refine blk_put (cs := #[.bool false, .slice none 0 0]) ?_ 0 _ rfl; (with_reducible repeat (first | refine blk_drewN ?_ _ | refine blk_drew ?_ | refine blk_alloc ?_ _)); exact BK183.out) Tryd.underlying27 rfl (by kernel_rfl)) rfl ?_
    exact ⟨_, by first | rfl | (simp [errW_none, errW_some] <;> rfl) | (simp [*, errW_none, errW_some] <;> rfl), by first | exact Kd.RW_nil _ _ _ _ _ | exact Kd.N_nil _ _ _ _ _ | exact Kd.V_nil _ _ _ _ _ | exact Kd.Q_nil _ _ _ _ _ | exact Kd.S_nil _ _ _ _ _, zb⟩
  · rw [if_neg c4] at H
    have c4b0 : decide (16 < (t184.length : Int)) = false := decide_eq_false c4
    have c4b1 : decide (16 < t184.length) = false := decide_eq_false (by omega)
    clear c4
    by_cases c9 : a0 = true
    · subst c9
      have H1 : ((impl_clone_int.f t184).bind fun t187 => (some (decide (0 < t184.length), t187, true))) = some (r1, r2, r3) := by rw [if_pos rfl] at H; exact H
      clear H
      have H := H1
      clear H1
      replace H := Option.bind_eq_some_iff.mp H
      obtain ⟨t187, A100, H⟩ := H
      replace H : (some (decide (0 < t184.length), t187, true)) = some (r1, r2, r3) := H
      have A10 := Aside0.mk A100
      clear A100
      simp only [Option.some.injEq, Prod.mk.injEq] at H
      obtain ⟨rfl, rfl, rfl⟩ := H
      go_enter Tryd.func48, Tryd.ntmps48
      go_wp2_with (first | ((with_reducible refine gate_dst (N := 4) rfl ?_); (try (refine gate_guard (by rfl) ?_; dsimp only)); refine box_event ?hg (N := 4) ?hd (cs := #[.bool false, .slice none 0 0]) (t := 27) ?hr ?_; (case hd => rfl); (case hg => rfl); (case hr => first | (go_simp; done) | (go_simp; rfl)); intro gb183 hg w11 hbox hb; have n0_ := Aside0.mk (below_step zb hb); have n1_ := Aside0.mk (hbox); have n2_ := Aside0.mk ((by rw [hg]; exact (below_size zb) : w.heap.size ≤ gb183)); have n3_ := Aside0.mk ((by rw [hg]; exact (below_size zb) : w.heap.size ≤ gb183)); clear HB; have HB := n0_; have BK183 := n1_; have GW183 := n2_; have GE183 := n3_; clear n0_ n1_ n2_ n3_; clear hb hbox hg) | ((with_reducible refine gate_callee (f := 79) rfl ?_); refine goesL_ (some 7) rfl rfl Tryd.func79 (by kernel_rfl) rfl #[.slice A1 l1.length c1] rfl za ?_; (with_reducible refine (impl_limbs_trim.calls k (fun k_ => k_ < w.heap.size) _ _ l1 t184 _ ?side1 A3.out).mono ?_); (case side1 => exact Kd.V_mk HC1.out (Kd.F_below (Kd.C_F (Kd.heap_int .i64) HR1.out) zb)); rintro e w12 ⟨v185, rfl, ho0, hb⟩; refine ⟨_, rfl, ?_⟩; have n0_ := Aside0.mk (Kd.V_lower (Kd.V_mono (ok' := fun k_ => k_ ≠ gb183) ho0 (fun k_ hk_ => Or.elim hk_ (fun hs_ => fun e_ => Nat.not_le.2 hs_ (by rw [e_]; exact GW183.out)) (fun hn_ => (Kd.freshB (g := gb183) (o := .cells #[.bool false, .slice none 0 0] 27 (0, 0)) (zk BK183.out) k_ hn_)))) (below_size zb)); have n1_ := Aside0.mk (blk_below (g := gb183) (o := .cells #[.bool false, .slice none 0 0] 27 (0, 0)) (zk BK183.out) hb); have n2_ := Aside0.mk (below_step zb hb); clear BK183; clear HB; have HO186 := n0_; have BK183 := n1_; have HB := n2_; clear n0_ n1_ n2_; (try clear hb); (try clear hb2); (try clear hk); (try clear hi); (try clear ho0); obtain ⟨Ao13, co13, eo13⟩ := Kd.V_slice HO186.out; subst eo13) | ((with_reducible refine gate_callee (f := 80) rfl ?_); refine goesL_ (some 19) rfl rfl Tryd.func80 (by kernel_rfl) rfl #[.slice Ao13 t184.length co13] rfl za ?_; (with_reducible refine (impl_clone_int.calls _ _ t184 t187 _ ?side1 ?side2 A10.out).mono ?_); (case side1 => repeat (first | exact (Kd.V_reads' HO186.out).2.2 | (with_reducible refine Kd.C_alloc ?_ _) | (with_reducible refine Kd.C_drewN ?_ _) | (with_reducible refine Kd.C_drew ?_))); (case side2 => exact (Kd.V_reads' HO186.out).2.1); rintro e w14 ⟨v188, rfl, ho0, hb⟩; refine ⟨_, rfl, ?_⟩; have n0_ := Aside0.mk (Kd.V_elder' (zV HO186.out) (Kd.RW_base ho0) hb); have n1_ := Aside0.mk (Kd.RW_lower ho0 (below_size zb)); have n2_ := Aside0.mk (blk_below (g := gb183) (o := .cells #[.bool false, .slice none 0 0] 27 (0, 0)) (zk BK183.out) hb); have n3_ := Aside0.mk (below_step zb hb); clear HO186; clear BK183; clear HB; have HO186 := n0_; have HO189 := n1_; have BK183 := n2_; have HB := n3_; clear n0_ n1_ n2_ n3_; (try clear hb); (try clear hb2); (try clear hk); (try clear hi); (try clear ho0); obtain ⟨Ao15, co15, eo15⟩ := Kd.RW_slice HO189.out; subst eo15; have hcz16_0 : w14.cell? ⟨gb183, 0, none⟩ = some (.bool false) := (blk_cell BK183.out 0).trans rfl; have hcz16_1 : w14.cell? ⟨gb183, 1, none⟩ = some (.slice none 0 0) := (blk_cell BK183.out 1).trans rfl; have hfz16_0 := blk_frozen BK183.out 0; have hfz16_1 := blk_frozen BK183.out 1))
      refine bodyPost_ret (results_ct rfl _ _ gb183 27 #[.bool (decide (0 < t184.length)), .slice Ao15 t187.length co15] (0, 0) _ rfl (by (with_reducible repeat (first | refine blk_drewN ?_ _ | refine blk_drew ?_ | refine blk_alloc ?_ _)); refine blk_put (cs := #[.bool (decide (0 < t184.length)), .slice none 0 0]) ?_ 1 _ rfl; (with_reducible repeat (first | refine blk_drewN ?_ _ | refine blk_drew ?_ | refine blk_alloc ?_ _)); refine blk_put (cs := #[.bool false, .slice none 0 0]) ?_ 0 _ rfl; (with_reducible repeat (first | refine blk_drewN ?_ _ | refine blk_drew ?_ | refine blk_alloc ?_ _)); exact BK183.out) Tryd.underlying27 rfl (by kernel_rfl)) rfl ?_
      exact ⟨_, by first | rfl | (simp [errW_none, errW_some] <;> rfl) | (simp [*, errW_none, errW_some] <;> rfl), by (with_reducible repeat (first | apply Kd.RW_alloc | apply Kd.RW_drewN | apply Kd.RW_drew)); exact Kd.RW_mono (Kd.RW_far (p := ⟨gb183, 1, none⟩) (Kd.RW_far (p := ⟨gb183, 0, none⟩) (Kd.RW_types HO189.out BK183.out (by decide)) (fun _ hk => hk.2) (.bool (decide (0 < t184.length)))) (fun _ hk => hk.2) (.slice Ao15 t187.length co15)) (fun _ hk => trivial), zb⟩
    · replace c9 := Bool.eq_false_iff.mpr c9
      subst c9
      have H1 : ((impl_clone_int.f t184).bind fun t190 => (some (false, t190, true))) = some (r1, r2, r3) := by rw [if_neg (show ¬ (false = true) by decide)] at H; exact H
      clear H
      have H := H1
      clear H1
      replace H := Option.bind_eq_some_iff.mp H
      obtain ⟨t190, A170, H⟩ := H
      replace H : (some (false, t190, true)) = some (r1, r2, r3) := H
      have A17 := Aside0.mk A170
      clear A170
      simp only [Option.some.injEq, Prod.mk.injEq] at H
      obtain ⟨rfl, rfl, rfl⟩ := H
      go_enter Tryd.func48, Tryd.ntmps48
      go_wp2_with (first | ((with_reducible refine gate_dst (N := 4) rfl ?_); (try (refine gate_guard (by rfl) ?_; dsimp only)); refine box_event ?hg (N := 4) ?hd (cs := #[.bool false, .slice none 0 0]) (t := 27) ?hr ?_; (case hd => rfl); (case hg => rfl); (case hr => first | (go_simp; done) | (go_simp; rfl)); intro gb183 hg w18 hbox hb; have n0_ := Aside0.mk (below_step zb hb); have n1_ := Aside0.mk (hbox); have n2_ := Aside0.mk ((by rw [hg]; exact (below_size zb) : w.heap.size ≤ gb183)); have n3_ := Aside0.mk ((by rw [hg]; exact (below_size zb) : w.heap.size ≤ gb183)); clear HB; have HB := n0_; have BK183 := n1_; have GW183 := n2_; have GE183 := n3_; clear n0_ n1_ n2_ n3_; clear hb hbox hg) | ((with_reducible refine gate_callee (f := 79) rfl ?_); refine goesL_ (some 7) rfl rfl Tryd.func79 (by kernel_rfl) rfl #[.slice A1 l1.length c1] rfl za ?_; (with_reducible refine (impl_limbs_trim.calls k (fun k_ => k_ < w.heap.size) _ _ l1 t184 _ ?side1 A3.out).mono ?_); (case side1 => exact Kd.V_mk HC1.out (Kd.F_below (Kd.C_F (Kd.heap_int .i64) HR1.out) zb)); rintro e w19 ⟨v185, rfl, ho0, hb⟩; refine ⟨_, rfl, ?_⟩; have n0_ := Aside0.mk (Kd.V_lower (Kd.V_mono (ok' := fun k_ => k_ ≠ gb183) ho0 (fun k_ hk_ => Or.elim hk_ (fun hs_ => fun e_ => Nat.not_le.2 hs_ (by rw [e_]; exact GW183.out)) (fun hn_ => (Kd.freshB (g := gb183) (o := .cells #[.bool false, .slice none 0 0] 27 (0, 0)) (zk BK183.out) k_ hn_)))) (below_size zb)); have n1_ := Aside0.mk (blk_below (g := gb183) (o := .cells #[.bool false, .slice none 0 0] 27 (0, 0)) (zk BK183.out) hb); have n2_ := Aside0.mk (below_step zb hb); clear BK183; clear HB; have HO186 := n0_; have BK183 := n1_; have HB := n2_; clear n0_ n1_ n2_; (try clear hb); (try clear hb2); (try clear hk); (try clear hi); (try clear ho0); obtain ⟨Ao20, co20, eo20⟩ := Kd.V_slice HO186.out; subst eo20) | ((with_reducible refine gate_callee (f := 80) rfl ?_); refine goesL_ (some 19) rfl rfl Tryd.func80 (by kernel_rfl) rfl #[.slice Ao20 t184.length co20] rfl za ?_; (with_reducible refine (impl_clone_int.calls _ _ t184 t190 _ ?side1 ?side2 A17.out).mono ?_); (case side1 => repeat (first | exact (Kd.V_reads' HO186.out).2.2 | (with_reducible refine Kd.C_alloc ?_ _) | (with_reducible refine Kd.C_drewN ?_ _) | (with_reducible refine Kd.C_drew ?_))); (case side2 => exact (Kd.V_reads' HO186.out).2.1); rintro e w21 ⟨v191, rfl, ho0, hb⟩; refine ⟨_, rfl, ?_⟩; have n0_ := Aside0.mk (Kd.V_elder' (zV HO186.out) (Kd.RW_base ho0) hb); have n1_ := Aside0.mk (Kd.RW_lower ho0 (below_size zb)); have n2_ := Aside0.mk (blk_below (g := gb183) (o := .cells #[.bool false, .slice none 0 0] 27 (0, 0)) (zk BK183.out) hb); have n3_ := Aside0.mk (below_step zb hb); clear HO186; clear BK183; clear HB; have HO186 := n0_; have HO192 := n1_; have BK183 := n2_; have HB := n3_; clear n0_ n1_ n2_ n3_; (try clear hb); (try clear hb2); (try clear hk); (try clear hi); (try clear ho0); obtain ⟨Ao22, co22, eo22⟩ := Kd.RW_slice HO192.out; subst eo22; have hcz23_0 : w21.cell? ⟨gb183, 0, none⟩ = some (.bool false) := (blk_cell BK183.out 0).trans rfl; have hcz23_1 : w21.cell? ⟨gb183, 1, none⟩ = some (.slice none 0 0) := (blk_cell BK183.out 1).trans rfl; have hfz23_0 := blk_frozen BK183.out 0; have hfz23_1 := blk_frozen BK183.out 1))
      refine bodyPost_ret (results_ct rfl _ _ gb183 27 #[.bool false, .slice Ao22 t190.length co22] (0, 0) _ rfl (by (with_reducible repeat (first | refine blk_drewN ?_ _ | refine blk_drew ?_ | refine blk_alloc ?_ _)); refine blk_put (cs := #[.bool false, .slice none 0 0]) ?_ 1 _ rfl; (with_reducible repeat (first | refine blk_drewN ?_ _ | refine blk_drew ?_ | refine blk_alloc ?_ _)); refine blk_put (cs := #[.bool false, .slice none 0 0]) ?_ 0 _ rfl; (with_reducible repeat (first | refine blk_drewN ?_ _ | refine blk_drew ?_ | refine blk_alloc ?_ _)); exact BK183.out) Tryd.underlying27 rfl (by kernel_rfl)) rfl ?_
      exact ⟨_, by first | rfl | (simp [errW_none, errW_some] <;> rfl) | (simp [*, errW_none, errW_some] <;> rfl), by (with_reducible repeat (first | apply Kd.RW_alloc | apply Kd.RW_drewN | apply Kd.RW_drew)); exact Kd.RW_mono (Kd.RW_far (p := ⟨gb183, 1, none⟩) (Kd.RW_far (p := ⟨gb183, 0, none⟩) (Kd.RW_types HO192.out BK183.out (by decide)) (fun _ hk => hk.2) (.bool false)) (fun _ hk => hk.2) (.slice Ao22 t190.length co22)) (fun _ hk => trivial), zb⟩
def laws_markIntS.l0 : Nat → List Int → Int → Int → Option (Int × List Int)
  | 0, _, _, _ => none
  | k + 1, x0, x1, x5 => if x5 < (x0.length : Int) then (if 0 ≤ x5 then (laws_markIntS.l0 k (x0.set (x5 : Int).toNat x1) (wrap64 (x1 + 1)) (wrap64 (x5 + 1))) else (none)) else (some (x1, x0))
def laws_markIntS.f (k : Nat) (l0 : List Int) (a1 : Int) : Option (Int × List Int) := laws_markIntS.l0 k l0 a1 0
set_option maxHeartbeats 8000000 in
set_option maxRecDepth 100000 in
theorem laws_markIntS.calls (k : Nat) (P0_ : Nat → Prop) (u9000_ : Value) (l0 : List Int) (a1 : Int) (r1 : Int) (r2 : List Int) (w0 w : World) (hB : Below w0.heap.size w0 w) (ho0 : Kd.RW (Kd.int .i64) 3 w w0.heap.size P0_ u9000_ l0) (h : laws_markIntS.f k l0 a1 = some (r1, r2)) :
    Calls Tryd.prog 50 #[u9000_, .int .i64 a1] w fun e w' => e = .returned (.int .i64 r1) ∧ Kd.RW (Kd.int .i64) 3 w' w0.heap.size (fun k_ => (P0_ k_ ∨ w.heap.size ≤ k_)) u9000_ r2 ∧ Below w0.heap.size w0 w' ∧ Kept w w' (fun k_ => P0_ k_) := by
  have HO0 := Aside0.mk (show Kd.RW (Kd.int .i64) 3 w w0.heap.size (fun k_ => (P0_ k_ ∨ w.heap.size ≤ k_)) u9000_ l0 from Kd.RW_mono ho0 (fun k_ hk => (.inl hk)))
  have HK := Aside0.mk (Kept.refl w (fun k_ => P0_ k_))
  have HW0 := Aside0.mk hB.size
  have HB := Aside0.mk hB
  clear hB
  have H : (laws_markIntS.l0 k l0 a1 0) = some (r1, r2) := h
  clear h
  have H' := Aside0.mk H
  clear H
  go_enter Tryd.func50, Tryd.ntmps50
  go_wp2
  go_loopg [1, 5] k (fun kq v1 v5 w' => ∃ (x0_1 : List Int) (x1_1 : Int) (x5_1 : Int), v1 = .int .i64 x1_1 ∧ v5 = .int .i64 x5_1 ∧ Aside0 (laws_markIntS.l0 kq x0_1 x1_1 x5_1 = some (r1, r2)) ∧ Aside0 (kq ≤ k) ∧ Aside0 (Kd.RW (Kd.int .i64) 3 w' w0.heap.size (fun k_ => (P0_ k_ ∨ w.heap.size ≤ k_)) u9000_ x0_1) ∧ Aside0 (Kept w w' (fun k_ => P0_ k_)) ∧ Aside0 (Below w0.heap.size w0 w'))
  case atStart => exact ⟨(l0), (a1), (0), (by first | rfl | (simp; done) | (simp [*]; done)), (by first | rfl | (simp; done) | (simp [*]; done)), H', ⟨Nat.le_refl _⟩, ⟨by (with_reducible repeat (first | apply Kd.RW_alloc | apply Kd.RW_drewN | apply Kd.RW_drew)); exact HO0.out⟩, ⟨by repeat (first | (with_reducible first | exact HK.out | apply Kept.alloc | apply Kept.drewN | apply Kept.drew) | exact HK.out)⟩, ⟨zb⟩⟩
  case round =>
    clear H'
    try clear p2
    obtain ⟨x0_1, x1_1, x5_1, rfl, rfl, HA, HK1, HO_0, HK, HB⟩ := hrel
    cases gk with
    | zero => exact absurd HA.out (by simp [laws_markIntS.l0])
    | succ k1 =>
      have H := HA.out
      clear HA
      simp only [laws_markIntS.l0] at H
      by_cases c3 : x5_1 < (x0_1.length : Int)
      · rw [if_pos c3] at H
        have c3b0 : decide (x5_1 < (x0_1.length : Int)) = true := decide_eq_true c3
        clear c3
        by_cases c4 : 0 ≤ x5_1
        · rw [if_pos c4] at H
          have c4b0 : decide (0 ≤ x5_1) = true := decide_eq_true c4
          clear c4
          obtain ⟨y230, hy230⟩ : ∃ y_ : List Int, y_ = (x0_1.set (x5_1 : Int).toNat x1_1) := ⟨_, rfl⟩
          replace H : (laws_markIntS.l0 k1 y230 (wrap64 (x1_1 + 1)) (wrap64 (x5_1 + 1))) = some (r1, r2) := by first | (rw [hy230]; with_reducible exact H) | (have H2_ := (Option.bind_some _ _).symm.trans H; rw [hy230]; with_reducible exact H2_) | (have H2_ := (Option.bind_some _ _).symm.trans H; with_reducible exact H2_) | with_reducible exact H | (rw [hy230]; exact H) | exact H
          have Ny230 := Aside0.mk hy230
          clear hy230
          have H' := Aside0.mk H
          clear H
          obtain ⟨Ao6, co6, eo6⟩ := Kd.RW_slice HO_0.out
          subst eo6
          have p5 : 0 ≤ (x5_1 : Int) := of_decide_eq_true (by first | (with_reducible assumption) | assumption)
          have q5 : (x5_1 : Int) < ((x0_1.length : Int) : Int) := of_decide_eq_true (by first | (with_reducible assumption) | assumption)
          obtain ⟨go5, co5, eo5, gb5, gl5, cl5, HG5⟩ := Kd.RW_form HO_0.out (by omega)
          (first | cases eo5 | (injection eo5 with ea_ en_ ec_; (first | subst ea_ | (injection ea_ with ea_; subst ea_)); subst ec_; clear en_))
          have GB5 := Aside0.mk gb5
          have GG5 := Aside0.mk HG5
          clear gb5 gl5 HG5
          have HMgo5 := Aside0.mk (show (P0_ go5 ∨ w.heap.size ≤ go5) from (HO_0.out.1 _ rfl))
          obtain ⟨hx5_0, hf5_0⟩ := Kd.RW_celln 0 HO_0.out (x5_1 : Int) p5 q5
          replace p5 := eq_true p5
          replace q5 := eq_true q5
          have HP7 := Kd.RW_putg HO_0.out (x5_1 : Int) x1_1
          go_wp2_with (first | ((with_reducible refine gate_store (t := 3) (p := 15) rfl ?_); refine store_event (t := 3) (p := 15) (v := ?vo_w8) (w1 := (wr.setCell ⟨go5, (x5_1 : Int).toNat, none⟩ (.int .i64 x1_1))) ?hg ?ho ?hn ?hr ?_; (case ho => rfl); (case hg => rfl); (case hn => rfl); (case hr => first | (go_simp; done) | (go_simp; rfl)); intro w8 hw; have hg : wr.grownBy w8 (some go5) := (by rw [hw]; exact HP7.2); have hp_ : Kd.RW (Kd.int .i64) 3 w8 w0.heap.size (fun k_ => (P0_ k_ ∨ w.heap.size ≤ k_)) (.slice (some ⟨go5, 0, none⟩) x0_1.length co6) y230 := (by rw [hw, Ny230.out]; exact HP7.1); clear HP7; have n0_ := Aside0.mk (hp_); have n1_ := Aside0.mk ((by rw [hw]; exact below_set (HB.out) GB5.out : Below w0.heap.size w0 w8)); have n2_ := Aside0.mk (Kept.of_grown (S := (fun k_ => P0_ k_)) hg (by repeat (first | (with_reducible first | exact HK.out | apply Kept.alloc | apply Kept.drewN | apply Kept.drew) | exact HK.out)) (fun k_ e_ => (HO_0.out.1 k_ e_))); clear HO_0; clear HB; clear HK; have HO_0 := n0_; have HB := n1_; have HK := n2_; clear n0_ n1_ n2_; clear hg hw hp_))
          go_roundg k1
          case measure => have := HK1.out; omega
          case rel => exact ⟨(y230), (wrap64 (x1_1 + 1)), (wrap64 (x5_1 + 1)), (by first | rfl | (simp; done) | (simp [*]; done)), (by first | rfl | (simp; done) | (simp [*]; done)), H', ⟨by have := HK1.out; omega⟩, ⟨by (with_reducible repeat (first | apply Kd.RW_alloc | apply Kd.RW_drewN | apply Kd.RW_drew)); exact HO_0.out⟩, ⟨by repeat (first | (with_reducible first | exact HK.out | apply Kept.alloc | apply Kept.drewN | apply Kept.drew) | exact HK.out)⟩, ⟨zb⟩⟩
        · rw [if_neg c4] at H
          exact absurd H (by simp)
      · rw [if_neg c3] at H
        have c3b0 : decide (x5_1 < (x0_1.length : Int)) = false := decide_eq_false c3
        clear c3
        simp only [Option.some.injEq, Prod.mk.injEq] at H
        obtain ⟨rfl, rfl⟩ := H
        obtain ⟨Ao9, co9, eo9⟩ := Kd.RW_slice HO_0.out
        subst eo9
        go_wp2
        go_ret
        exact ⟨by first | rfl | (simp [errW_none, errW_some] <;> rfl) | (simp [*, errW_none, errW_some] <;> rfl), by (with_reducible repeat (first | apply Kd.RW_alloc | apply Kd.RW_drewN | apply Kd.RW_drew)); exact HO_0.out, zb, by repeat (first | (with_reducible first | exact HK.out | apply Kept.alloc | apply Kept.drewN | apply Kept.drew) | exact HK.out)⟩
def laws_markBig.f (k : Nat) (a0_0 : Bool) (l0_1 : List Int) (a1 : Int) : Option (Int × List Int) := (laws_markIntS.f k l0_1 a1).bind fun bt232 => (some (bt232.1, bt232.2))
set_option maxHeartbeats 8000000 in
set_option maxRecDepth 100000 in
theorem laws_markBig.calls (k : Nat) (a0_0 : Bool) (P0_1_ : Nat → Prop) (u9000_ : Value) (l0_1 : List Int) (a1 : Int) (r1 : Int) (r2 : List Int) (w0 w : World) (hB : Below w0.heap.size w0 w) (ho0_1 : Kd.RW (Kd.int .i64) 3 w w0.heap.size P0_1_ u9000_ l0_1) (h : laws_markBig.f k a0_0 l0_1 a1 = some (r1, r2)) :
    Calls Tryd.prog 23 #[.agg #[.bool a0_0, u9000_], .int .i64 a1] w fun e w' => e = .returned (.int .i64 r1) ∧ Kd.RW (Kd.int .i64) 3 w' w0.heap.size (fun k_ => (P0_1_ k_ ∨ w.heap.size ≤ k_)) u9000_ r2 ∧ Below w0.heap.size w0 w' ∧ Kept w w' (fun k_ => P0_1_ k_) := by
  have hu27 := Tryd.underlying27
  have HO0_1 := Aside0.mk (show Kd.RW (Kd.int .i64) 3 w w0.heap.size (fun k_ => (P0_1_ k_ ∨ w.heap.size ≤ k_)) u9000_ l0_1 from Kd.RW_mono ho0_1 (fun k_ hk => (.inl hk)))
  have HK := Aside0.mk (Kept.refl w (fun k_ => P0_1_ k_))
  have HW0 := Aside0.mk hB.size
  have HB := Aside0.mk hB
  clear hB
  have H : ((laws_markIntS.f k l0_1 a1).bind fun bt232 => (some (bt232.1, bt232.2))) = some (r1, r2) := h
  clear h
  replace H := Option.bind_eq_some_iff.mp H
  obtain ⟨⟨t232, t233⟩, A30, H⟩ := H
  replace H : (some (t232, t233)) = some (r1, r2) := H
  have A3 := Aside0.mk A30
  clear A30
  simp only [Option.some.injEq, Prod.mk.injEq] at H
  obtain ⟨rfl, rfl⟩ := H
  obtain ⟨Ao4, co4, eo4⟩ := Kd.RW_slice HO0_1.out
  subst eo4
  go_enter Tryd.func23, Tryd.ntmps23
  go_wp2_with (first | ((with_reducible refine gate_dst (N := 2) rfl ?_); refine box_event ?hg (N := 2) ?hd (cs := #[.bool a0_0, .slice Ao4 l0_1.length co4]) (t := 27) ?hr ?_; (case hd => rfl); (case hg => rfl); (case hr => first | (go_simp; done) | (go_simp; rfl)); intro gb231 hg w5 hbox hb; have n0_ := Aside0.mk (Kd.RW_below (zRW HO0_1.out) hb); have n1_ := Aside0.mk (Kept.below (S := (fun k_ => P0_1_ k_)) (by repeat (first | (with_reducible first | exact HK.out | apply Kept.alloc | apply Kept.drewN | apply Kept.drew) | exact HK.out)) hb); have n2_ := Aside0.mk (below_step zb hb); have n3_ := Aside0.mk (hbox); have n4_ := Aside0.mk ((by rw [hg]; exact (by first | exact HK.out.1 | exact (show Kept w _ (fun k_ => P0_1_ k_) from by repeat (first | (with_reducible first | exact HK.out | apply Kept.alloc | apply Kept.drewN | apply Kept.drew) | exact HK.out)).1) : w.heap.size ≤ gb231)); have n5_ := Aside0.mk ((by rw [hg]; exact (below_size zb) : w0.heap.size ≤ gb231)); clear HO0_1; clear HK; clear HB; have HO0_1 := n0_; have HK := n1_; have HB := n2_; have BK231 := n3_; have GW231 := n4_; have GE231 := n5_; clear n0_ n1_ n2_ n3_ n4_ n5_; clear hb hbox hg; have hcz6_0 : w5.cell? ⟨gb231, 0, none⟩ = some (.bool a0_0) := (blk_cell BK231.out 0).trans rfl; have hcz6_1 : w5.cell? ⟨gb231, 1, none⟩ = some (.slice Ao4 l0_1.length co4) := (blk_cell BK231.out 1).trans rfl; have hfz6_0 := blk_frozen BK231.out 0; have hfz6_1 := blk_frozen BK231.out 1) | ((with_reducible refine gate_callee (f := 50) rfl ?_); refine goesL_ (some 8) rfl rfl Tryd.func50 (by kernel_rfl) rfl #[.slice Ao4 l0_1.length co4, .int .i64 a1] rfl za ?_; (with_reducible refine (laws_markIntS.calls k (fun k_ => some k_ = (.slice Ao4 l0_1.length co4 : Value).ownBlock) (.slice Ao4 l0_1.length co4) l0_1 a1 t232 t233 w0 _ ?side1 ?side2 A3.out).mono ?_); (case side1 => repeat (first | (with_reducible first | exact HB.out | apply below_alloc | apply pw_below_drewN | apply below_drew1 | refine below_set ?_ GE231.out) | exact HB.out)); (case side2 => exact Kd.RW_tight rfl HO0_1.out); rintro e w7 ⟨rfl, hy0, hb, hkp⟩; refine ⟨_, rfl, ?_⟩; have n0_ := Aside0.mk (Kd.RW_reok rfl hy0 (fun k_ e_ => HO0_1.out.1 k_ e_)); have n1_ := Aside0.mk (blk_kept (zk BK231.out) hkp (fun hs_ => (fun e_ => (Kd.RW_ne HO0_1.out BK231.out (by decide)) e_) hs_)); have n2_ := Aside0.mk (Kept.then_ (S := (fun k_ => P0_1_ k_)) (by repeat (first | (with_reducible first | exact HK.out | apply Kept.alloc | apply Kept.drewN | apply Kept.drew | refine Kept.setCell ?_ (.inr GW231.out) _) | exact HK.out)) hkp (fun k_ hs_ => (fun e_ => (HO0_1.out.1 k_ e_.symm)) hs_)); have n3_ := Aside0.mk (hb); clear HO0_1; clear BK231; clear HK; clear HB; have HO0_1 := n0_; have BK231 := n1_; have HK := n2_; have HB := n3_; clear n0_ n1_ n2_ n3_; (try clear hb); (try clear hkp); (try clear hy0)))
  go_ret
  exact ⟨by first | rfl | (simp [errW_none, errW_some] <;> rfl) | (simp [*, errW_none, errW_some] <;> rfl), by (with_reducible repeat (first | apply Kd.RW_alloc | apply Kd.RW_drewN | apply Kd.RW_drew)); exact HO0_1.out, zb, by repeat (first | (with_reducible first | exact HK.out | apply Kept.alloc | apply Kept.drewN | apply Kept.drew | refine Kept.setCell ?_ (.inr GW231.out) _) | exact HK.out)⟩
def laws_heldIntS.l0 : Nat → List Int → Int → Int → Option (Int)
  | 0, _, _, _ => none
  | k + 1, x0, x1, x5 => if x5 < (x0.length : Int) then (if 0 ≤ x5 then (if (rd x0 x5) = x1 then (laws_heldIntS.l0 k x0 (wrap64 (x1 + 1)) (wrap64 (x5 + 1))) else (some (-1))) else (none)) else (some x1)
def laws_heldIntS.f (k : Nat) (l0 : List Int) (a1 : Int) : Option (Int) := laws_heldIntS.l0 k l0 a1 0
set_option maxHeartbeats 8000000 in
set_option maxRecDepth 100000 in
theorem laws_heldIntS.calls (k : Nat) (A0 : Option Addr) (c0 : Nat) (l0 : List Int) (a1 : Int) (r : Int) (w : World) (hr0 : Kd.C (Kd.int .i64) w A0 l0.length l0) (hc0 : l0.length ≤ c0) (h : laws_heldIntS.f k l0 a1 = some r) :
    Calls Tryd.prog 51 #[.slice A0 l0.length c0, .int .i64 a1] w fun e w' => e = .returned (.int .i64 r) ∧ Drawn0 w w' := by
  have HR0 := Aside0.mk hr0
  have HC0 := Aside0.mk hc0
  clear hr0 hc0
  have H : (laws_heldIntS.l0 k l0 a1 0) = some r := h
  clear h
  have H' := Aside0.mk H
  clear H
  go_enter Tryd.func51, Tryd.ntmps51
  go_wp2
  go_loopg [1, 5] k (fun kq v1 v5 w' => ∃ (x1_1 : Int) (x5_1 : Int), v1 = .int .i64 x1_1 ∧ v5 = .int .i64 x5_1 ∧ Aside0 (laws_heldIntS.l0 kq l0 x1_1 x5_1 = some r) ∧ Aside0 (kq ≤ k) ∧ Drawn0 w w')
  case atStart => exact ⟨(a1), (0), (by first | rfl | (simp; done) | (simp [*]; done)), (by first | rfl | (simp; done) | (simp [*]; done)), H', ⟨Nat.le_refl _⟩, by repeat (first | exact Drawn0.refl _ | apply Drawn0.step)⟩
  case round =>
    clear H'
    try clear p2
    obtain ⟨x1_1, x5_1, rfl, rfl, HA, HK1, ⟨m1, rfl⟩⟩ := hrel
    cases gk with
    | zero => exact absurd HA.out (by simp [laws_heldIntS.l0])
    | succ k1 =>
      have H := HA.out
      clear HA
      simp only [laws_heldIntS.l0] at H
      by_cases c3 : x5_1 < (l0.length : Int)
      · rw [if_pos c3] at H
        have c3b0 : decide (x5_1 < (l0.length : Int)) = true := decide_eq_true c3
        clear c3
        by_cases c4 : 0 ≤ x5_1
        · rw [if_pos c4] at H
          have c4b0 : decide (0 ≤ x5_1) = true := decide_eq_true c4
          clear c4
          by_cases c5 : (rd l0 x5_1) = x1_1
          · rw [if_pos c5] at H
            have c5b0 : ((rd l0 x5_1) == x1_1) = true := beq_iff_eq.mpr c5
            have c5b1 : ((rd l0 x5_1) != x1_1) = false := bne_eq_false_iff_eq.mpr c5
            clear c5
            have H' := Aside0.mk H
            clear H
            have p234 : 0 ≤ (x5_1 : Int) := of_decide_eq_true (by first | (with_reducible assumption) | assumption)
            have q234 : x5_1 < (l0.length : Int) := of_decide_eq_true (by first | (with_reducible assumption) | assumption)
            obtain ⟨ad234, e234, hx234_0⟩ := Kd.at_int HR0.out x5_1 p234 q234
            cases e234
            replace p234 := eq_true p234
            replace q234 := eq_true q234
            go_wp2
            go_roundg k1
            case measure => have := HK1.out; omega
            case rel => exact ⟨(wrap64 (x1_1 + 1)), (wrap64 (x5_1 + 1)), (by first | rfl | (simp; done) | (simp [*]; done)), (by first | rfl | (simp; done) | (simp [*]; done)), H', ⟨by have := HK1.out; omega⟩, by repeat (first | exact Drawn0.refl _ | apply Drawn0.step)⟩
          · rw [if_neg c5] at H
            have c5b0 : ((rd l0 x5_1) == x1_1) = false := beq_eq_false_iff_ne.mpr c5
            have c5b1 : ((rd l0 x5_1) != x1_1) = true := bne_iff_ne.mpr c5
            obtain rfl := Option.some.inj H
            have p234 : 0 ≤ (x5_1 : Int) := of_decide_eq_true (by first | (with_reducible assumption) | assumption)
            have q234 : x5_1 < (l0.length : Int) := of_decide_eq_true (by first | (with_reducible assumption) | assumption)
            obtain ⟨ad234, e234, hx234_0⟩ := Kd.at_int HR0.out x5_1 p234 q234
            cases e234
            replace p234 := eq_true p234
            replace q234 := eq_true q234
            go_wp2
            go_ret
            exact ⟨by first | rfl | (simp; done) | (simp [*]; done), by repeat (first | exact Drawn0.refl _ | apply Drawn0.step)⟩
        · rw [if_neg c4] at H
          exact absurd H (by simp)
      · rw [if_neg c3] at H
        have c3b0 : decide (x5_1 < (l0.length : Int)) = false := decide_eq_false c3
        clear c3
        obtain rfl := Option.some.inj H
        go_wp2
        go_ret
        exact ⟨by first | rfl | (simp; done) | (simp [*]; done), by repeat (first | exact Drawn0.refl _ | apply Drawn0.step)⟩
def laws_heldBig.f (k : Nat) (a0_0 : Bool) (l0_1 : List Int) (a1 : Int) : Option (Int) := (laws_heldIntS.f k l0_1 a1).bind fun t236 => (if t236 < 0 then (some (-1)) else (some t236))
set_option maxHeartbeats 8000000 in
set_option maxRecDepth 100000 in
theorem laws_heldBig.calls (k : Nat) (a0_0 : Bool) (A0_1 : Option Addr) (c0_1 : Nat) (l0_1 : List Int) (a1 : Int) (r : Int) (w : World) (hr0_1 : Kd.C (Kd.int .i64) w A0_1 l0_1.length l0_1) (hc0_1 : l0_1.length ≤ c0_1) (h : laws_heldBig.f k a0_0 l0_1 a1 = some r) :
    Calls Tryd.prog 24 #[.agg #[.bool a0_0, .slice A0_1 l0_1.length c0_1], .int .i64 a1] w fun e w' => e = .returned (.int .i64 r) ∧ Below w.heap.size w w' := by
  have hu27 := Tryd.underlying27
  have HR0_1 := Aside0.mk hr0_1
  have HC0_1 := Aside0.mk hc0_1
  clear hr0_1 hc0_1
  have HB := Aside0.mk (Below.refl w.heap.size w)
  have H : ((laws_heldIntS.f k l0_1 a1).bind fun t236 => (if t236 < 0 then (some (-1)) else (some t236))) = some r := h
  clear h
  replace H := Option.bind_eq_some_iff.mp H
  obtain ⟨t236, A30, H⟩ := H
  replace H : (if t236 < 0 then (some (-1)) else (some t236)) = some r := H
  have A3 := Aside0.mk A30
  clear A30
  by_cases c4 : t236 < 0
  · rw [if_pos c4] at H
    have c4b0 : decide (t236 < 0) = true := decide_eq_true c4
    clear c4
    obtain rfl := Option.some.inj H
    go_enter Tryd.func24, Tryd.ntmps24
    go_wp2_with (first | ((with_reducible refine gate_dst (N := 2) rfl ?_); refine box_event ?hg (N := 2) ?hd (cs := #[.bool a0_0, .slice A0_1 l0_1.length c0_1]) (t := 27) ?hr ?_; (case hd => rfl); (case hg => rfl); (case hr => first | (go_simp; done) | (go_simp; rfl)); intro gb235 hg w5 hbox hb; have n0_ := Aside0.mk (below_step zb hb); have n1_ := Aside0.mk (hbox); have n2_ := Aside0.mk ((by rw [hg]; exact (below_size zb) : w.heap.size ≤ gb235)); have n3_ := Aside0.mk ((by rw [hg]; exact (below_size zb) : w.heap.size ≤ gb235)); clear HB; have HB := n0_; have BK235 := n1_; have GW235 := n2_; have GE235 := n3_; clear n0_ n1_ n2_ n3_; clear hb hbox hg; have hcz6_0 : w5.cell? ⟨gb235, 0, none⟩ = some (.bool a0_0) := (blk_cell BK235.out 0).trans rfl; have hcz6_1 : w5.cell? ⟨gb235, 1, none⟩ = some (.slice A0_1 l0_1.length c0_1) := (blk_cell BK235.out 1).trans rfl; have hfz6_0 := blk_frozen BK235.out 0; have hfz6_1 := blk_frozen BK235.out 1) | ((with_reducible refine gate_callee (f := 51) rfl ?_); refine goesL_ (some 8) rfl rfl Tryd.func51 (by kernel_rfl) rfl #[.slice A0_1 l0_1.length c0_1, .int .i64 a1] rfl za ?_; (with_reducible refine (laws_heldIntS.calls k _ _ l0_1 a1 t236 _ ?side1 ?side2 A3.out).mono ?_); (case side1 => repeat (first | exact (Kd.C_below HR0_1.out HB.out) | (with_reducible refine Kd.C_alloc ?_ _) | (with_reducible refine Kd.C_drewN ?_ _) | (with_reducible refine Kd.C_drew ?_))); (case side2 => exact HC0_1.out); rintro e w' ⟨rfl, ⟨nd, rfl⟩⟩; refine ⟨_, rfl, ?_⟩))
    go_ret
    exact ⟨by first | rfl | (simp [errW_none, errW_some] <;> rfl) | (simp [*, errW_none, errW_some] <;> rfl), zb⟩
  · rw [if_neg c4] at H
    have c4b0 : decide (t236 < 0) = false := decide_eq_false c4
    clear c4
    obtain rfl := Option.some.inj H
    go_enter Tryd.func24, Tryd.ntmps24
    go_wp2_with (first | ((with_reducible refine gate_dst (N := 2) rfl ?_); refine box_event ?hg (N := 2) ?hd (cs := #[.bool a0_0, .slice A0_1 l0_1.length c0_1]) (t := 27) ?hr ?_; (case hd => rfl); (case hg => rfl); (case hr => first | (go_simp; done) | (go_simp; rfl)); intro gb235 hg w7 hbox hb; have n0_ := Aside0.mk (below_step zb hb); have n1_ := Aside0.mk (hbox); have n2_ := Aside0.mk ((by rw [hg]; exact (below_size zb) : w.heap.size ≤ gb235)); have n3_ := Aside0.mk ((by rw [hg]; exact (below_size zb) : w.heap.size ≤ gb235)); clear HB; have HB := n0_; have BK235 := n1_; have GW235 := n2_; have GE235 := n3_; clear n0_ n1_ n2_ n3_; clear hb hbox hg; have hcz8_0 : w7.cell? ⟨gb235, 0, none⟩ = some (.bool a0_0) := (blk_cell BK235.out 0).trans rfl; have hcz8_1 : w7.cell? ⟨gb235, 1, none⟩ = some (.slice A0_1 l0_1.length c0_1) := (blk_cell BK235.out 1).trans rfl; have hfz8_0 := blk_frozen BK235.out 0; have hfz8_1 := blk_frozen BK235.out 1) | ((with_reducible refine gate_callee (f := 51) rfl ?_); refine goesL_ (some 8) rfl rfl Tryd.func51 (by kernel_rfl) rfl #[.slice A0_1 l0_1.length c0_1, .int .i64 a1] rfl za ?_; (with_reducible refine (laws_heldIntS.calls k _ _ l0_1 a1 t236 _ ?side1 ?side2 A3.out).mono ?_); (case side1 => repeat (first | exact (Kd.C_below HR0_1.out HB.out) | (with_reducible refine Kd.C_alloc ?_ _) | (with_reducible refine Kd.C_drewN ?_ _) | (with_reducible refine Kd.C_drew ?_))); (case side2 => exact HC0_1.out); rintro e w' ⟨rfl, ⟨nd, rfl⟩⟩; refine ⟨_, rfl, ?_⟩))
    go_ret
    exact ⟨by first | rfl | (simp [errW_none, errW_some] <;> rfl) | (simp [*, errW_none, errW_some] <;> rfl), zb⟩
end Go.Proofs.YtdbgpoileffbeaaDoor.Pw
end
section
namespace Go.Proofs.YtdbgpoileffbeaaDoor.Pw
open Go.Proofs.YtdbgpoileffbeaaDoor.Pr Go.Proofs.YtdbgpoileffbeaaDoor.RWs Go.RowKit Go.Proofs.YtdbgpoileffbeaaDoorW.PrintWords Go.Proofs.YtdbgpoileffbeaaDoorW.PrintLast Go.Proofs.YtdbgpoileffbeaaDoor.Ext Go.Proofs.YtdbgpoileffbeaaDoorW.PrintMore
attribute [local go_sem] max2_int min2_int max_two min_two max_three min_three max_four min_four
set_option linter.unusedVariables false
set_option linter.unusedSimpArgs false
set_option maxHeartbeats 8000000 in
set_option maxRecDepth 100000 in
theorem impl_BigGet.calls (k : Nat) (a0 : ByteArray) (r1 : Bool) (r2 : List Int) (r3 : Bool) (w : World) (hT : EnvA w) (h : impl_BigGet.f k a0 = some (r1, r2, r3)) :
    Calls Tryd.prog 22 #[.string a0] w fun e w' => ∃ v1_ : Value, e = .returned (.tuple #[.agg #[.bool r1, v1_], .bool r3]) ∧ Kd.RW (Kd.int .i64) 3 w' w.heap.size (fun _ => True) v1_ r2 ∧ Below w.heap.size w w' := by
  have hu27 := Tryd.underlying27
  have HB := Aside0.mk (Below.refl w.heap.size w)
  have HT := Aside0.mk hT
  clear hT
  have H : ((lib_CutPrefix.f a0 (⟨#[45]⟩ : ByteArray)).bind fun bt217 => ((impl_isDigits.f k bt217.1).bind fun t219 => (if t219 = true then (impl_BigGet.j0 k a0 bt217.1 bt217.2 (decide ((bt217.1.size : Int) > 64))) else (impl_BigGet.j0 k a0 bt217.1 bt217.2 true)))) = some (r1, r2, r3) := h
  clear h
  replace H := Option.bind_eq_some_iff.mp H
  obtain ⟨⟨t217, t218⟩, A20, H⟩ := H
  replace H : ((impl_isDigits.f k t217).bind fun t219 => (if t219 = true then (impl_BigGet.j0 k a0 t217 t218 (decide ((t217.size : Int) > 64))) else (impl_BigGet.j0 k a0 t217 t218 true))) = some (r1, r2, r3) := H
  have A2 := Aside0.mk A20
  clear A20
  have HC3 := Aside0.mk H
  clear H
  go_enter Tryd.func22, Tryd.ntmps22
  go_upto_region 2 with (first | ((with_reducible refine gate_dst (N := 2) rfl ?_); (try (refine gate_guard (by rfl) ?_; dsimp only)); refine box_event ?hg (N := 2) ?hd (cs := #[.bool false, .slice none 0 0]) (t := 27) ?hr ?_; (case hd => rfl); (case hg => rfl); (case hr => first | (go_simp; done) | (go_simp; rfl)); intro gb216 hg w4 hbox hb; have n0_ := Aside0.mk (below_step zb hb); have n1_ := Aside0.mk (hbox); have n2_ := Aside0.mk ((by rw [hg]; exact (below_size zb) : w.heap.size ≤ gb216)); have n3_ := Aside0.mk ((by rw [hg]; exact (below_size zb) : w.heap.size ≤ gb216)); clear HB; have HB := n0_; have BK216 := n1_; have GW216 := n2_; have GE216 := n3_; clear n0_ n1_ n2_ n3_; clear hb hbox hg) | ((with_reducible refine gate_callee (f := 46) rfl ?_); refine goesL_ (some 10) rfl rfl Tryd.func46 (by kernel_rfl) rfl #[.string a0, .string (⟨#[45]⟩ : ByteArray)] rfl za ?_; (with_reducible refine (lib_CutPrefix.calls a0 (⟨#[45]⟩ : ByteArray) t217 t218 _ A2.out).mono ?_); rintro e w' ⟨rfl, ⟨nd, rfl⟩⟩; refine ⟨_, rfl, ?_⟩))
  (try simp only [Act.put, List.setIfInBounds_toArray, List.set_cons_zero, List.set_cons_succ])
  go_cut [20] (fun v20 wc => ∃ (kq : Nat) (x20_2 : Bool), v20 = .bool x20_2 ∧ Aside0 (impl_BigGet.j0 kq a0 t217 t218 x20_2 = some (r1, r2, r3)) ∧ Aside0 (kq ≤ k) ∧ Aside0 (wc.heap[gb216]? = some (.cells #[.bool false, (.slice none 0 0)] 27 (0, 0))) ∧ Aside0 (Below w.heap.size w wc))
  case first =>
    have H := HC3.out
    clear HC3
    replace H := Option.bind_eq_some_iff.mp H
    obtain ⟨t219, A50, H⟩ := H
    replace H : (if t219 = true then (impl_BigGet.j0 k a0 t217 t218 (decide ((t217.size : Int) > 64))) else (impl_BigGet.j0 k a0 t217 t218 true)) = some (r1, r2, r3) := H
    have A5 := Aside0.mk A50
    clear A50
    by_cases c6 : t219 = true
    · subst c6
      have H1 : (impl_BigGet.j0 k a0 t217 t218 (decide ((t217.size : Int) > 64))) = some (r1, r2, r3) := by rw [if_pos rfl] at H; exact H
      clear H
      have H := H1
      clear H1
      have H' := Aside0.mk H
      clear H
      go_wp2_with (first | ((with_reducible refine gate_callee (f := 47) rfl ?_); refine goesL_ (some 14) rfl rfl Tryd.func47 (by kernel_rfl) rfl #[.string t217] rfl za ?_; (with_reducible refine (impl_isDigits.calls k t217 true _ A5.out).mono ?_); rintro e w' ⟨rfl, ⟨nd, rfl⟩⟩; refine ⟨_, rfl, ?_⟩))
      go_meet
      case rel => exact ⟨_, (decide ((t217.size : Int) > 64)), (by first | rfl | (simp; done) | (simp [*]; done)), H', ⟨by first | omega | exact Nat.le_refl _⟩, ⟨by (with_reducible repeat (first | refine blk_drewN ?_ _ | refine blk_drew ?_ | refine blk_alloc ?_ _)); exact BK216.out⟩, ⟨zb⟩⟩
    · replace c6 := Bool.eq_false_iff.mpr c6
      subst c6
      have H1 : (impl_BigGet.j0 k a0 t217 t218 true) = some (r1, r2, r3) := by rw [if_neg (show ¬ (false = true) by decide)] at H; exact H
      clear H
      have H := H1
      clear H1
      have H' := Aside0.mk H
      clear H
      go_wp2_with (first | ((with_reducible refine gate_callee (f := 47) rfl ?_); refine goesL_ (some 14) rfl rfl Tryd.func47 (by kernel_rfl) rfl #[.string t217] rfl za ?_; (with_reducible refine (impl_isDigits.calls k t217 false _ A5.out).mono ?_); rintro e w' ⟨rfl, ⟨nd, rfl⟩⟩; refine ⟨_, rfl, ?_⟩))
      go_meet
      case rel => exact ⟨_, (true), (by first | rfl | (simp; done) | (simp [*]; done)), H', ⟨by first | omega | exact Nat.le_refl _⟩, ⟨by (with_reducible repeat (first | refine blk_drewN ?_ _ | refine blk_drew ?_ | refine blk_alloc ?_ _)); exact BK216.out⟩, ⟨zb⟩⟩
  case rest =>
    clear HC3
    try clear c2
    try clear p2
    try clear c4
    try clear c6
    obtain ⟨kq, x20_2, rfl, HA, HJ2, BK216, HB⟩ := hcut
    cases kq with
    | zero => exact absurd HA.out (by simp [impl_BigGet.j0])
    | succ kj2 =>
      have H := HA.out
      clear HA
      simp only [impl_BigGet.j0] at H
      by_cases c7 : x20_2 = true
      · subst c7
        have H1 : (some (false, ([] : List Int), false)) = some (r1, r2, r3) := by rw [if_pos rfl] at H; exact H
        clear H
        have H := H1
        clear H1
        simp only [Option.some.injEq, Prod.mk.injEq] at H
        obtain ⟨rfl, rfl, rfl⟩ := H
        have hcz8_0 : wc.cell? ⟨gb216, 0, none⟩ = some (.bool false) := (blk_cell BK216.out 0).trans rfl
        have hcz8_1 : wc.cell? ⟨gb216, 1, none⟩ = some (.slice none 0 0) := (blk_cell BK216.out 1).trans rfl
        have hfz8_0 := blk_frozen BK216.out 0
        have hfz8_1 := blk_frozen BK216.out 1
        go_wp2
        refine bodyPost_ret (results_ct rfl _ _ gb216 27 #[.bool false, .slice none 0 0] (0, 0) _ rfl (by (with_reducible repeat (first | refine blk_drewN ?_ _ | refine blk_drew ?_ | refine blk_alloc ?_ _)); refine blk_put (cs := #[.bool false, .slice none 0 0]) ?_ 1 _ rfl; (with_reducible repeat (first | refine blk_drewN ?_ _ | refine blk_drew ?_ | refine blk_alloc ?_ _)); refine blk_put (cs := #[.bool false, .slice none 0 0]) ?_ 0 _ rfl; (with_reducible repeat (first | refine blk_drewN ?_ _ | refine blk_drew ?_ | refine blk_alloc ?_ _)); exact BK216.out) Tryd.underlying27 rfl (by kernel_rfl)) rfl ?_
        exact ⟨_, by first | rfl | (simp [errW_none, errW_some] <;> rfl) | (simp [*, errW_none, errW_some] <;> rfl), by first | exact Kd.RW_nil _ _ _ _ _ | exact Kd.N_nil _ _ _ _ _ | exact Kd.V_nil _ _ _ _ _ | exact Kd.Q_nil _ _ _ _ _ | exact Kd.S_nil _ _ _ _ _, zb⟩
      · replace c7 := Bool.eq_false_iff.mpr c7
        subst c7
        have H1 : ((impl_readLimbs.f kj2 t217).bind fun t220 => ((impl_big.f kj2 t218 t220).bind fun bt223 => (if bt223.2.2 = true then ((impl_BigPut.f bt223.1 bt223.2.1).bind fun t229 => (if t229.toList = a0.toList then (some (bt223.1, bt223.2.1, true)) else (some (false, ([] : List Int), false)))) else (some (false, ([] : List Int), false))))) = some (r1, r2, r3) := by rw [if_neg (show ¬ (false = true) by decide)] at H; exact H
        clear H
        have H := H1
        clear H1
        replace H := Option.bind_eq_some_iff.mp H
        obtain ⟨t220, A90, H⟩ := H
        replace H : ((impl_big.f kj2 t218 t220).bind fun bt223 => (if bt223.2.2 = true then ((impl_BigPut.f bt223.1 bt223.2.1).bind fun t229 => (if t229.toList = a0.toList then (some (bt223.1, bt223.2.1, true)) else (some (false, ([] : List Int), false)))) else (some (false, ([] : List Int), false)))) = some (r1, r2, r3) := H
        have A9 := Aside0.mk A90
        clear A90
        replace H := Option.bind_eq_some_iff.mp H
        obtain ⟨⟨t223, t224, t227⟩, A100, H⟩ := H
        replace H : (if t227 = true then ((impl_BigPut.f t223 t224).bind fun t229 => (if t229.toList = a0.toList then (some (t223, t224, true)) else (some (false, ([] : List Int), false)))) else (some (false, ([] : List Int), false))) = some (r1, r2, r3) := H
        have A10 := Aside0.mk A100
        clear A100
        by_cases c11 : t227 = true
        · subst c11
          have H1 : ((impl_BigPut.f t223 t224).bind fun t229 => (if t229.toList = a0.toList then (some (t223, t224, true)) else (some (false, ([] : List Int), false)))) = some (r1, r2, r3) := by rw [if_pos rfl] at H; exact H
          clear H
          have H := H1
          clear H1
          replace H := Option.bind_eq_some_iff.mp H
          obtain ⟨t229, A120, H⟩ := H
          replace H : (if t229.toList = a0.toList then (some (t223, t224, true)) else (some (false, ([] : List Int), false))) = some (r1, r2, r3) := H
          have A12 := Aside0.mk A120
          clear A120
          by_cases c13 : t229.toList = a0.toList
          · rw [if_pos c13] at H
            have c13b0 : (t229.toList == a0.toList) = true := beq_iff_eq.mpr c13
            have c13b1 : (t229.toList != a0.toList) = false := bne_eq_false_iff_eq.mpr c13
            clear c13
            simp only [Option.some.injEq, Prod.mk.injEq] at H
            obtain ⟨rfl, rfl, rfl⟩ := H
            go_wp2_with (first | ((with_reducible refine gate_callee (f := 49) rfl ?_); refine goesL_ (some 25) rfl rfl Tryd.func49 (by kernel_rfl) rfl #[.string t217] rfl za ?_; (with_reducible refine (impl_readLimbs.calls kj2 t217 t220 _ ?side1 A9.out).mono ?_); (case side1 => exact HT.out.below zb); rintro e w14 ⟨v221, rfl, ho0, hb⟩; refine ⟨_, rfl, ?_⟩; have n0_ := Aside0.mk (Kd.V_lower (Kd.V_mono (ok' := fun k_ => k_ ≠ gb216) ho0 (fun k_ hk_ => (Kd.freshB (g := gb216) (o := .cells #[.bool false, .slice none 0 0] 27 (0, 0)) (zk BK216.out) k_ hk_))) (below_size zb)); have n1_ := Aside0.mk (blk_below (g := gb216) (o := .cells #[.bool false, .slice none 0 0] 27 (0, 0)) (zk BK216.out) hb); have n2_ := Aside0.mk (below_step zb hb); clear BK216; clear HB; have HO222 := n0_; have BK216 := n1_; have HB := n2_; clear n0_ n1_ n2_; (try clear hb); (try clear hb2); (try clear hk); (try clear hi); (try clear ho0); obtain ⟨Ao15, co15, eo15⟩ := Kd.V_slice HO222.out; subst eo15) | ((with_reducible refine gate_callee (f := 48) rfl ?_); refine goesL_ (some 26) rfl rfl Tryd.func48 (by kernel_rfl) rfl #[.bool t218, .slice Ao15 t220.length co15] rfl za ?_; (with_reducible refine (impl_big.calls kj2 t218 _ _ t220 t223 t224 true _ ?side1 ?side2 A10.out).mono ?_); (case side1 => repeat (first | exact (Kd.V_reads' HO222.out).2.2 | (with_reducible refine Kd.C_alloc ?_ _) | (with_reducible refine Kd.C_drewN ?_ _) | (with_reducible refine Kd.C_drew ?_))); (case side2 => exact (Kd.V_reads' HO222.out).2.1); rintro e w16 ⟨v225, rfl, ho0, hb⟩; refine ⟨_, rfl, ?_⟩; have n0_ := Aside0.mk (Kd.V_elder' (zV HO222.out) (Kd.RW_base ho0) hb); have n1_ := Aside0.mk (Kd.RW_lower ho0 (below_size zb)); have n2_ := Aside0.mk (blk_below (g := gb216) (o := .cells #[.bool false, .slice none 0 0] 27 (0, 0)) (zk BK216.out) hb); have n3_ := Aside0.mk (below_step zb hb); clear HO222; clear BK216; clear HB; have HO222 := n0_; have HO226 := n1_; have BK216 := n2_; have HB := n3_; clear n0_ n1_ n2_ n3_; (try clear hb); (try clear hb2); (try clear hk); (try clear hi); (try clear ho0)) | ((with_reducible refine gate_dst (N := 6) rfl ?_); (try (refine gate_guard (by rfl) ?_; dsimp only)); refine box_event ?hg (N := 6) ?hd (cs := #[.bool false, .slice none 0 0]) (t := 27) ?hr ?_; (case hd => rfl); (case hg => rfl); (case hr => first | (go_simp; done) | (go_simp; rfl)); intro gb228 hg w17 hbox hb; have n0_ := Aside0.mk (Kd.V_below (Kd.V_elderB (zV HO222.out) gb228 (Nat.le_of_eq hg.symm)) hb); have n1_ := Aside0.mk (Kd.RW_below (zRW HO226.out) hb); have n2_ := Aside0.mk (blk_below (g := gb216) (o := .cells #[.bool false, .slice none 0 0] 27 (0, 0)) (zk BK216.out) hb); have n3_ := Aside0.mk (below_step zb hb); have n4_ := Aside0.mk (hbox); have n5_ := Aside0.mk ((by rw [hg]; exact (below_size zb) : w.heap.size ≤ gb228)); have n6_ := Aside0.mk ((by rw [hg]; exact (below_size zb) : w.heap.size ≤ gb228)); have n7_ := Aside0.mk ((by rw [hg]; exact Nat.ne_of_lt (blk_lt (g := gb216) (o := .cells #[.bool false, .slice none 0 0] 27 (0, 0)) (zk BK216.out)) : gb216 ≠ gb228)); have n8_ := Aside0.mk ((by rw [hg]; exact Nat.ne_of_gt (blk_lt (g := gb216) (o := .cells #[.bool false, .slice none 0 0] 27 (0, 0)) (zk BK216.out)) : gb228 ≠ gb216)); clear HO222; clear HO226; clear BK216; clear HB; have HO222 := n0_; have HO226 := n1_; have BK216 := n2_; have HB := n3_; have BK228 := n4_; have GW228 := n5_; have GE228 := n6_; have NB216_228 := n7_; have NB228_216 := n8_; clear n0_ n1_ n2_ n3_ n4_ n5_ n6_ n7_ n8_; clear hb hbox hg; have hnb18 := NB228_216.out; have hnc18 := NB216_228.out; have hcz19_0 : w17.cell? ⟨gb228, 0, none⟩ = some (.bool false) := (blk_cell BK228.out 0).trans rfl; have hcz19_1 : w17.cell? ⟨gb228, 1, none⟩ = some (.slice none 0 0) := (blk_cell BK228.out 1).trans rfl; have hfz19_0 := blk_frozen BK228.out 0; have hfz19_1 := blk_frozen BK228.out 1; obtain ⟨Ao20, co20, eo20⟩ := Kd.RW_slice HO226.out; subst eo20) | (go_at_call 12; (with_reducible refine (impl_BigPut.calls t223 _ _ t224 t229 _ ?side1 ?side2 ?side3 A12.out).mono ?_); (case side1 => exact HT.out.toI.below zb); (case side2 => refine (Kd.RW_reads' (e := 3) (base := w.heap.size) (ok := fun k_ => True) (n := t224.length) (c := co20) ?_).2.2; exact (by (with_reducible repeat (first | apply Kd.RW_alloc | apply Kd.RW_drewN | apply Kd.RW_drew)); exact (Kd.RW_mono (Kd.RW_far (p := ⟨gb228, 1, none⟩) (Kd.RW_far (p := ⟨gb228, 0, none⟩) (Kd.RW_types HO226.out BK228.out (by decide)) (fun _ hk => hk.2) (.bool t223)) (fun _ hk => hk.2) (.slice Ao20 t224.length co20)) (fun _ h_ => h_.1)))); (case side3 => exact (Kd.RW_reads' HO226.out).2.1); rintro e w21 ⟨rfl, hb⟩; have n0_ := Aside0.mk (Kd.V_below (by (with_reducible repeat (first | apply Kd.V_alloc | apply Kd.V_drewN | apply Kd.V_drew)); exact (Kd.V_mono (Kd.V_far (p := ⟨gb228, 1, none⟩) (Kd.V_far (p := ⟨gb228, 0, none⟩) (Kd.V_mono HO222.out (fun k_ hk => (⟨hk, hk.2⟩ : _ ∧ k_ ≠ gb228))) (fun _ hk => hk.2) (.bool t223)) (fun _ hk => hk.2) (.slice Ao20 t224.length co20)) (fun _ h_ => h_.1))) hb); have n1_ := Aside0.mk (Kd.RW_below (by (with_reducible repeat (first | apply Kd.RW_alloc | apply Kd.RW_drewN | apply Kd.RW_drew)); exact (Kd.RW_mono (Kd.RW_far (p := ⟨gb228, 1, none⟩) (Kd.RW_far (p := ⟨gb228, 0, none⟩) (Kd.RW_types HO226.out BK228.out (by decide)) (fun _ hk => hk.2) (.bool t223)) (fun _ hk => hk.2) (.slice Ao20 t224.length co20)) (fun _ h_ => h_.1))) hb); have n2_ := Aside0.mk (blk_below (g := gb216) (o := .cells #[.bool false, .slice none 0 0] 27 (0, 0)) (zk BK216.out) hb); have n3_ := Aside0.mk (blk_below (g := gb228) (o := .cells #[.bool t223, .slice Ao20 t224.length co20] 27 (0, 0)) (by (with_reducible repeat (first | refine blk_drewN ?_ _ | refine blk_drew ?_ | refine blk_alloc ?_ _)); refine blk_put (cs := #[.bool t223, .slice none 0 0]) ?_ 1 _ rfl; (with_reducible repeat (first | refine blk_drewN ?_ _ | refine blk_drew ?_ | refine blk_alloc ?_ _)); refine blk_put (cs := #[.bool false, .slice none 0 0]) ?_ 0 _ rfl; (with_reducible repeat (first | refine blk_drewN ?_ _ | refine blk_drew ?_ | refine blk_alloc ?_ _)); exact BK228.out) hb); have n4_ := Aside0.mk (below_step zb hb); clear HO222; clear HO226; clear BK216; clear BK228; clear HB; have HO222 := n0_; have HO226 := n1_; have BK216 := n2_; have BK228 := n3_; have HB := n4_; clear n0_ n1_ n2_ n3_ n4_; (try clear hb); (try clear hb2); (try clear hk); (try clear hi); have hcz22_0 : w21.cell? ⟨gb228, 0, none⟩ = some (.bool t223) := (blk_cell BK228.out 0).trans rfl; have hcz22_1 : w21.cell? ⟨gb228, 1, none⟩ = some (.slice Ao20 t224.length co20) := (blk_cell BK228.out 1).trans rfl; have hfz22_0 := blk_frozen BK228.out 0; have hfz22_1 := blk_frozen BK228.out 1; have hcz23_0 : w21.cell? ⟨gb216, 0, none⟩ = some (.bool false) := (blk_cell BK216.out 0).trans rfl; have hcz23_1 : w21.cell? ⟨gb216, 1, none⟩ = some (.slice none 0 0) := (blk_cell BK216.out 1).trans rfl; have hfz23_0 := blk_frozen BK216.out 0; have hfz23_1 := blk_frozen BK216.out 1))
            refine bodyPost_ret (results_ct rfl _ _ gb216 27 #[.bool t223, .slice Ao20 t224.length co20] (0, 0) _ rfl (by (with_reducible repeat (first | refine blk_drewN ?_ _ | refine blk_drew ?_ | refine blk_alloc ?_ _)); refine blk_put (cs := #[.bool t223, .slice none 0 0]) ?_ 1 _ rfl; (with_reducible repeat (first | refine blk_drewN ?_ _ | refine blk_drew ?_ | refine blk_alloc ?_ _)); refine blk_put (cs := #[.bool false, .slice none 0 0]) ?_ 0 _ rfl; (with_reducible repeat (first | refine blk_drewN ?_ _ | refine blk_drew ?_ | refine blk_alloc ?_ _)); exact BK216.out) Tryd.underlying27 rfl (by kernel_rfl)) rfl ?_
            exact ⟨_, by first | rfl | (simp [errW_none, errW_some] <;> rfl) | (simp [*, errW_none, errW_some] <;> rfl), by (with_reducible repeat (first | apply Kd.RW_alloc | apply Kd.RW_drewN | apply Kd.RW_drew)); exact Kd.RW_mono (Kd.RW_far (p := ⟨gb216, 1, none⟩) (Kd.RW_far (p := ⟨gb216, 0, none⟩) (Kd.RW_types HO226.out BK216.out (by decide)) (fun _ hk => hk.2) (.bool t223)) (fun _ hk => hk.2) (.slice Ao20 t224.length co20)) (fun _ hk => trivial), zb⟩
          · rw [if_neg c13] at H
            have c13b0 : (t229.toList == a0.toList) = false := beq_eq_false_iff_ne.mpr c13
            have c13b1 : (t229.toList != a0.toList) = true := bne_iff_ne.mpr c13
            simp only [Option.some.injEq, Prod.mk.injEq] at H
            obtain ⟨rfl, rfl, rfl⟩ := H
            go_wp2_with (first | ((with_reducible refine gate_callee (f := 49) rfl ?_); refine goesL_ (some 25) rfl rfl Tryd.func49 (by kernel_rfl) rfl #[.string t217] rfl za ?_; (with_reducible refine (impl_readLimbs.calls kj2 t217 t220 _ ?side1 A9.out).mono ?_); (case side1 => exact HT.out.below zb); rintro e w24 ⟨v221, rfl, ho0, hb⟩; refine ⟨_, rfl, ?_⟩; have n0_ := Aside0.mk (Kd.V_lower (Kd.V_mono (ok' := fun k_ => k_ ≠ gb216) ho0 (fun k_ hk_ => (Kd.freshB (g := gb216) (o := .cells #[.bool false, .slice none 0 0] 27 (0, 0)) (zk BK216.out) k_ hk_))) (below_size zb)); have n1_ := Aside0.mk (blk_below (g := gb216) (o := .cells #[.bool false, .slice none 0 0] 27 (0, 0)) (zk BK216.out) hb); have n2_ := Aside0.mk (below_step zb hb); clear BK216; clear HB; have HO222 := n0_; have BK216 := n1_; have HB := n2_; clear n0_ n1_ n2_; (try clear hb); (try clear hb2); (try clear hk); (try clear hi); (try clear ho0); obtain ⟨Ao25, co25, eo25⟩ := Kd.V_slice HO222.out; subst eo25) | ((with_reducible refine gate_callee (f := 48) rfl ?_); refine goesL_ (some 26) rfl rfl Tryd.func48 (by kernel_rfl) rfl #[.bool t218, .slice Ao25 t220.length co25] rfl za ?_; (with_reducible refine (impl_big.calls kj2 t218 _ _ t220 t223 t224 true _ ?side1 ?side2 A10.out).mono ?_); (case side1 => repeat (first | exact (Kd.V_reads' HO222.out).2.2 | (with_reducible refine Kd.C_alloc ?_ _) | (with_reducible refine Kd.C_drewN ?_ _) | (with_reducible refine Kd.C_drew ?_))); (case side2 => exact (Kd.V_reads' HO222.out).2.1); rintro e w26 ⟨v225, rfl, ho0, hb⟩; refine ⟨_, rfl, ?_⟩; have n0_ := Aside0.mk (Kd.V_elder' (zV HO222.out) (Kd.RW_base ho0) hb); have n1_ := Aside0.mk (Kd.RW_lower ho0 (below_size zb)); have n2_ := Aside0.mk (blk_below (g := gb216) (o := .cells #[.bool false, .slice none 0 0] 27 (0, 0)) (zk BK216.out) hb); have n3_ := Aside0.mk (below_step zb hb); clear HO222; clear BK216; clear HB; have HO222 := n0_; have HO226 := n1_; have BK216 := n2_; have HB := n3_; clear n0_ n1_ n2_ n3_; (try clear hb); (try clear hb2); (try clear hk); (try clear hi); (try clear ho0)) | ((with_reducible refine gate_dst (N := 6) rfl ?_); (try (refine gate_guard (by rfl) ?_; dsimp only)); refine box_event ?hg (N := 6) ?hd (cs := #[.bool false, .slice none 0 0]) (t := 27) ?hr ?_; (case hd => rfl); (case hg => rfl); (case hr => first | (go_simp; done) | (go_simp; rfl)); intro gb228 hg w27 hbox hb; have n0_ := Aside0.mk (Kd.V_below (Kd.V_elderB (zV HO222.out) gb228 (Nat.le_of_eq hg.symm)) hb); have n1_ := Aside0.mk (Kd.RW_below (zRW HO226.out) hb); have n2_ := Aside0.mk (blk_below (g := gb216) (o := .cells #[.bool false, .slice none 0 0] 27 (0, 0)) (zk BK216.out) hb); have n3_ := Aside0.mk (below_step zb hb); have n4_ := Aside0.mk (hbox); have n5_ := Aside0.mk ((by rw [hg]; exact (below_size zb) : w.heap.size ≤ gb228)); have n6_ := Aside0.mk ((by rw [hg]; exact (below_size zb) : w.heap.size ≤ gb228)); have n7_ := Aside0.mk ((by rw [hg]; exact Nat.ne_of_lt (blk_lt (g := gb216) (o := .cells #[.bool false, .slice none 0 0] 27 (0, 0)) (zk BK216.out)) : gb216 ≠ gb228)); have n8_ := Aside0.mk ((by rw [hg]; exact Nat.ne_of_gt (blk_lt (g := gb216) (o := .cells #[.bool false, .slice none 0 0] 27 (0, 0)) (zk BK216.out)) : gb228 ≠ gb216)); clear HO222; clear HO226; clear BK216; clear HB; have HO222 := n0_; have HO226 := n1_; have BK216 := n2_; have HB := n3_; have BK228 := n4_; have GW228 := n5_; have GE228 := n6_; have NB216_228 := n7_; have NB228_216 := n8_; clear n0_ n1_ n2_ n3_ n4_ n5_ n6_ n7_ n8_; clear hb hbox hg; have hnb28 := NB228_216.out; have hnc28 := NB216_228.out; have hcz29_0 : w27.cell? ⟨gb228, 0, none⟩ = some (.bool false) := (blk_cell BK228.out 0).trans rfl; have hcz29_1 : w27.cell? ⟨gb228, 1, none⟩ = some (.slice none 0 0) := (blk_cell BK228.out 1).trans rfl; have hfz29_0 := blk_frozen BK228.out 0; have hfz29_1 := blk_frozen BK228.out 1; obtain ⟨Ao30, co30, eo30⟩ := Kd.RW_slice HO226.out; subst eo30) | (go_at_call 12; (with_reducible refine (impl_BigPut.calls t223 _ _ t224 t229 _ ?side1 ?side2 ?side3 A12.out).mono ?_); (case side1 => exact HT.out.toI.below zb); (case side2 => refine (Kd.RW_reads' (e := 3) (base := w.heap.size) (ok := fun k_ => True) (n := t224.length) (c := co30) ?_).2.2; exact (by (with_reducible repeat (first | apply Kd.RW_alloc | apply Kd.RW_drewN | apply Kd.RW_drew)); exact (Kd.RW_mono (Kd.RW_far (p := ⟨gb228, 1, none⟩) (Kd.RW_far (p := ⟨gb228, 0, none⟩) (Kd.RW_types HO226.out BK228.out (by decide)) (fun _ hk => hk.2) (.bool t223)) (fun _ hk => hk.2) (.slice Ao30 t224.length co30)) (fun _ h_ => h_.1)))); (case side3 => exact (Kd.RW_reads' HO226.out).2.1); rintro e w31 ⟨rfl, hb⟩; have n0_ := Aside0.mk (Kd.V_below (by (with_reducible repeat (first | apply Kd.V_alloc | apply Kd.V_drewN | apply Kd.V_drew)); exact (Kd.V_mono (Kd.V_far (p := ⟨gb228, 1, none⟩) (Kd.V_far (p := ⟨gb228, 0, none⟩) (Kd.V_mono HO222.out (fun k_ hk => (⟨hk, hk.2⟩ : _ ∧ k_ ≠ gb228))) (fun _ hk => hk.2) (.bool t223)) (fun _ hk => hk.2) (.slice Ao30 t224.length co30)) (fun _ h_ => h_.1))) hb); have n1_ := Aside0.mk (Kd.RW_below (by (with_reducible repeat (first | apply Kd.RW_alloc | apply Kd.RW_drewN | apply Kd.RW_drew)); exact (Kd.RW_mono (Kd.RW_far (p := ⟨gb228, 1, none⟩) (Kd.RW_far (p := ⟨gb228, 0, none⟩) (Kd.RW_types HO226.out BK228.out (by decide)) (fun _ hk => hk.2) (.bool t223)) (fun _ hk => hk.2) (.slice Ao30 t224.length co30)) (fun _ h_ => h_.1))) hb); have n2_ := Aside0.mk (blk_below (g := gb216) (o := .cells #[.bool false, .slice none 0 0] 27 (0, 0)) (zk BK216.out) hb); have n3_ := Aside0.mk (blk_below (g := gb228) (o := .cells #[.bool t223, .slice Ao30 t224.length co30] 27 (0, 0)) (by (with_reducible repeat (first | refine blk_drewN ?_ _ | refine blk_drew ?_ | refine blk_alloc ?_ _)); refine blk_put (cs := #[.bool t223, .slice none 0 0]) ?_ 1 _ rfl; (with_reducible repeat (first | refine blk_drewN ?_ _ | refine blk_drew ?_ | refine blk_alloc ?_ _)); refine blk_put (cs := #[.bool false, .slice none 0 0]) ?_ 0 _ rfl; (with_reducible repeat (first | refine blk_drewN ?_ _ | refine blk_drew ?_ | refine blk_alloc ?_ _)); exact BK228.out) hb); have n4_ := Aside0.mk (below_step zb hb); clear HO222; clear HO226; clear BK216; clear BK228; clear HB; have HO222 := n0_; have HO226 := n1_; have BK216 := n2_; have BK228 := n3_; have HB := n4_; clear n0_ n1_ n2_ n3_ n4_; (try clear hb); (try clear hb2); (try clear hk); (try clear hi); have hcz32_0 : w31.cell? ⟨gb216, 0, none⟩ = some (.bool false) := (blk_cell BK216.out 0).trans rfl; have hcz32_1 : w31.cell? ⟨gb216, 1, none⟩ = some (.slice none 0 0) := (blk_cell BK216.out 1).trans rfl; have hfz32_0 := blk_frozen BK216.out 0; have hfz32_1 := blk_frozen BK216.out 1))
            refine bodyPost_ret (results_ct rfl _ _ gb216 27 #[.bool false, .slice none 0 0] (0, 0) _ rfl (by (with_reducible repeat (first | refine blk_drewN ?_ _ | refine blk_drew ?_ | refine blk_alloc ?_ _)); refine blk_put (cs := #[.bool false, .slice none 0 0]) ?_ 1 _ rfl; (with_reducible repeat (first | refine blk_drewN ?_ _ | refine blk_drew ?_ | refine blk_alloc ?_ _)); refine blk_put (cs := #[.bool false, .slice none 0 0]) ?_ 0 _ rfl; (with_reducible repeat (first | refine blk_drewN ?_ _ | refine blk_drew ?_ | refine blk_alloc ?_ _)); exact BK216.out) Tryd.underlying27 rfl (by kernel_rfl)) rfl ?_
            exact ⟨_, by first | rfl | (simp [errW_none, errW_some] <;> rfl) | (simp [*, errW_none, errW_some] <;> rfl), by first | exact Kd.RW_nil _ _ _ _ _ | exact Kd.N_nil _ _ _ _ _ | exact Kd.V_nil _ _ _ _ _ | exact Kd.Q_nil _ _ _ _ _ | exact Kd.S_nil _ _ _ _ _, zb⟩
        · replace c11 := Bool.eq_false_iff.mpr c11
          subst c11
          have H1 : (some (false, ([] : List Int), false)) = some (r1, r2, r3) := by rw [if_neg (show ¬ (false = true) by decide)] at H; exact H
          clear H
          have H := H1
          clear H1
          simp only [Option.some.injEq, Prod.mk.injEq] at H
          obtain ⟨rfl, rfl, rfl⟩ := H
          go_wp2_with (first | ((with_reducible refine gate_callee (f := 49) rfl ?_); refine goesL_ (some 25) rfl rfl Tryd.func49 (by kernel_rfl) rfl #[.string t217] rfl za ?_; (with_reducible refine (impl_readLimbs.calls kj2 t217 t220 _ ?side1 A9.out).mono ?_); (case side1 => exact HT.out.below zb); rintro e w33 ⟨v221, rfl, ho0, hb⟩; refine ⟨_, rfl, ?_⟩; have n0_ := Aside0.mk (Kd.V_lower (Kd.V_mono (ok' := fun k_ => k_ ≠ gb216) ho0 (fun k_ hk_ => (Kd.freshB (g := gb216) (o := .cells #[.bool false, .slice none 0 0] 27 (0, 0)) (zk BK216.out) k_ hk_))) (below_size zb)); have n1_ := Aside0.mk (blk_below (g := gb216) (o := .cells #[.bool false, .slice none 0 0] 27 (0, 0)) (zk BK216.out) hb); have n2_ := Aside0.mk (below_step zb hb); clear BK216; clear HB; have HO222 := n0_; have BK216 := n1_; have HB := n2_; clear n0_ n1_ n2_; (try clear hb); (try clear hb2); (try clear hk); (try clear hi); (try clear ho0); obtain ⟨Ao34, co34, eo34⟩ := Kd.V_slice HO222.out; subst eo34) | ((with_reducible refine gate_callee (f := 48) rfl ?_); refine goesL_ (some 26) rfl rfl Tryd.func48 (by kernel_rfl) rfl #[.bool t218, .slice Ao34 t220.length co34] rfl za ?_; (with_reducible refine (impl_big.calls kj2 t218 _ _ t220 t223 t224 false _ ?side1 ?side2 A10.out).mono ?_); (case side1 => repeat (first | exact (Kd.V_reads' HO222.out).2.2 | (with_reducible refine Kd.C_alloc ?_ _) | (with_reducible refine Kd.C_drewN ?_ _) | (with_reducible refine Kd.C_drew ?_))); (case side2 => exact (Kd.V_reads' HO222.out).2.1); rintro e w35 ⟨v225, rfl, ho0, hb⟩; refine ⟨_, rfl, ?_⟩; have n0_ := Aside0.mk (Kd.V_elder' (zV HO222.out) (Kd.RW_base ho0) hb); have n1_ := Aside0.mk (Kd.RW_lower ho0 (below_size zb)); have n2_ := Aside0.mk (blk_below (g := gb216) (o := .cells #[.bool false, .slice none 0 0] 27 (0, 0)) (zk BK216.out) hb); have n3_ := Aside0.mk (below_step zb hb); clear HO222; clear BK216; clear HB; have HO222 := n0_; have HO226 := n1_; have BK216 := n2_; have HB := n3_; clear n0_ n1_ n2_ n3_; (try clear hb); (try clear hb2); (try clear hk); (try clear hi); (try clear ho0)) | ((with_reducible refine gate_dst (N := 6) rfl ?_); (try (refine gate_guard (by rfl) ?_; dsimp only)); refine box_event ?hg (N := 6) ?hd (cs := #[.bool false, .slice none 0 0]) (t := 27) ?hr ?_; (case hd => rfl); (case hg => rfl); (case hr => first | (go_simp; done) | (go_simp; rfl)); intro gb228 hg w36 hbox hb; have n0_ := Aside0.mk (Kd.V_below (Kd.V_elderB (zV HO222.out) gb228 (Nat.le_of_eq hg.symm)) hb); have n1_ := Aside0.mk (Kd.RW_below (zRW HO226.out) hb); have n2_ := Aside0.mk (blk_below (g := gb216) (o := .cells #[.bool false, .slice none 0 0] 27 (0, 0)) (zk BK216.out) hb); have n3_ := Aside0.mk (below_step zb hb); have n4_ := Aside0.mk (hbox); have n5_ := Aside0.mk ((by rw [hg]; exact (below_size zb) : w.heap.size ≤ gb228)); have n6_ := Aside0.mk ((by rw [hg]; exact (below_size zb) : w.heap.size ≤ gb228)); have n7_ := Aside0.mk ((by rw [hg]; exact Nat.ne_of_lt (blk_lt (g := gb216) (o := .cells #[.bool false, .slice none 0 0] 27 (0, 0)) (zk BK216.out)) : gb216 ≠ gb228)); have n8_ := Aside0.mk ((by rw [hg]; exact Nat.ne_of_gt (blk_lt (g := gb216) (o := .cells #[.bool false, .slice none 0 0] 27 (0, 0)) (zk BK216.out)) : gb228 ≠ gb216)); clear HO222; clear HO226; clear BK216; clear HB; have HO222 := n0_; have HO226 := n1_; have BK216 := n2_; have HB := n3_; have BK228 := n4_; have GW228 := n5_; have GE228 := n6_; have NB216_228 := n7_; have NB228_216 := n8_; clear n0_ n1_ n2_ n3_ n4_ n5_ n6_ n7_ n8_; clear hb hbox hg; have hnb37 := NB228_216.out; have hnc37 := NB216_228.out; have hcz38_0 : w36.cell? ⟨gb228, 0, none⟩ = some (.bool false) := (blk_cell BK228.out 0).trans rfl; have hcz38_1 : w36.cell? ⟨gb228, 1, none⟩ = some (.slice none 0 0) := (blk_cell BK228.out 1).trans rfl; have hfz38_0 := blk_frozen BK228.out 0; have hfz38_1 := blk_frozen BK228.out 1; obtain ⟨Ao39, co39, eo39⟩ := Kd.RW_slice HO226.out; subst eo39; have hcz40_0 : w36.cell? ⟨gb216, 0, none⟩ = some (.bool false) := (blk_cell BK216.out 0).trans rfl; have hcz40_1 : w36.cell? ⟨gb216, 1, none⟩ = some (.slice none 0 0) := (blk_cell BK216.out 1).trans rfl; have hfz40_0 := blk_frozen BK216.out 0; have hfz40_1 := blk_frozen BK216.out 1))
          refine bodyPost_ret (results_ct rfl _ _ gb216 27 #[.bool false, .slice none 0 0] (0, 0) _ rfl (by (with_reducible repeat (first | refine blk_drewN ?_ _ | refine blk_drew ?_ | refine blk_alloc ?_ _)); refine blk_put (cs := #[.bool false, .slice none 0 0]) ?_ 1 _ rfl; (with_reducible repeat (first | refine blk_drewN ?_ _ | refine blk_drew ?_ | refine blk_alloc ?_ _)); refine blk_put (cs := #[.bool false, .slice none 0 0]) ?_ 0 _ rfl; (with_reducible repeat (first | refine blk_drewN ?_ _ | refine blk_drew ?_ | refine blk_alloc ?_ _)); refine blk_far ?_ NB216_228.out _; (with_reducible repeat (first | refine blk_drewN ?_ _ | refine blk_drew ?_ | refine blk_alloc ?_ _)); refine blk_far ?_ NB216_228.out _; (with_reducible repeat (first | refine blk_drewN ?_ _ | refine blk_drew ?_ | refine blk_alloc ?_ _)); exact BK216.out) Tryd.underlying27 rfl (by kernel_rfl)) rfl ?_
          exact ⟨_, by first | rfl | (simp [errW_none, errW_some] <;> rfl) | (simp [*, errW_none, errW_some] <;> rfl), by first | exact Kd.RW_nil _ _ _ _ _ | exact Kd.N_nil _ _ _ _ _ | exact Kd.V_nil _ _ _ _ _ | exact Kd.Q_nil _ _ _ _ _ | exact Kd.S_nil _ _ _ _ _, zb⟩
end Go.Proofs.YtdbgpoileffbeaaDoor.Pw
end
section
namespace Go.Proofs.YtdbgpoileffbeaaDoor.Pw
open Go.Proofs.YtdbgpoileffbeaaDoor.Pr Go.Proofs.YtdbgpoileffbeaaDoor.RWs Go.RowKit Go.Proofs.YtdbgpoileffbeaaDoorW.PrintWords Go.Proofs.YtdbgpoileffbeaaDoorW.PrintLast Go.Proofs.YtdbgpoileffbeaaDoor.Ext Go.Proofs.YtdbgpoileffbeaaDoorW.PrintMore
attribute [local go_sem] max2_int min2_int max_two min_two max_three min_three max_four min_four
set_option linter.unusedVariables false
set_option linter.unusedSimpArgs false
def laws_FnExactBigGet.f (k : Nat) (a0 : ByteArray) : Option (Bool) := if (a0.size : Int) > 1048576 then (some true) else ((spec_BigGet.f k a0).bind fun bt237 => ((impl_BigGet.f k a0).bind fun bt243 => ((laws_eqBig.f k bt243.1 bt243.2.1 bt237.1 bt237.2.1).bind fun t249 => (if t249 = true then (if (bt243.2.2 != bt237.2.2) = true then (none) else ((laws_markBig.f k bt243.1 bt243.2.1 1).bind fun bt250 => ((laws_heldBig.f k bt243.1 bt250.2 1).bind fun t252 => (if t252 < 0 then (none) else (if t252 = bt250.1 then ((impl_BigGet.f k a0).bind fun bt253 => ((laws_eqBig.f k bt253.1 bt253.2.1 bt237.1 bt237.2.1).bind fun t259 => (if t259 = true then (if (bt253.2.2 != bt237.2.2) = true then (none) else ((laws_heldBig.f k bt243.1 bt250.2 1).bind fun t260 => (if t260 < 0 then (none) else (if t260 = bt250.1 then (some true) else (none))))) else (none)))) else (none)))))) else (none)))))
set_option maxHeartbeats 8000000 in
set_option maxRecDepth 100000 in
theorem laws_FnExactBigGet.calls (k : Nat) (a0 : ByteArray) (r : Bool) (w : World) (hT : EnvA w) (h : laws_FnExactBigGet.f k a0 = some r) :
    Calls Tryd.prog 6 #[.string a0] w fun e w' => e = .returned (.bool r) ∧ Below w.heap.size w w' := by
  have hu27 := Tryd.underlying27
  have HB := Aside0.mk (Below.refl w.heap.size w)
  have HT := Aside0.mk hT
  clear hT
  have H : (if (a0.size : Int) > 1048576 then (some true) else ((spec_BigGet.f k a0).bind fun bt237 => ((impl_BigGet.f k a0).bind fun bt243 => ((laws_eqBig.f k bt243.1 bt243.2.1 bt237.1 bt237.2.1).bind fun t249 => (if t249 = true then (if (bt243.2.2 != bt237.2.2) = true then (none) else ((laws_markBig.f k bt243.1 bt243.2.1 1).bind fun bt250 => ((laws_heldBig.f k bt243.1 bt250.2 1).bind fun t252 => (if t252 < 0 then (none) else (if t252 = bt250.1 then ((impl_BigGet.f k a0).bind fun bt253 => ((laws_eqBig.f k bt253.1 bt253.2.1 bt237.1 bt237.2.1).bind fun t259 => (if t259 = true then (if (bt253.2.2 != bt237.2.2) = true then (none) else ((laws_heldBig.f k bt243.1 bt250.2 1).bind fun t260 => (if t260 < 0 then (none) else (if t260 = bt250.1 then (some true) else (none))))) else (none)))) else (none)))))) else (none)))))) = some r := h
  clear h
  by_cases c2 : (a0.size : Int) > 1048576
  · rw [if_pos c2] at H
    have c2b0 : decide (1048576 < (a0.size : Int)) = true := decide_eq_true c2
    have c2b1 : decide (1048576 < a0.size) = true := decide_eq_true (by omega)
    clear c2
    obtain rfl := Option.some.inj H
    go_enter Tryd.func6, Tryd.ntmps6
    go_wp2
    go_ret
    exact ⟨by first | rfl | (simp [errW_none, errW_some] <;> rfl) | (simp [*, errW_none, errW_some] <;> rfl), zb⟩
  · rw [if_neg c2] at H
    have c2b0 : decide (1048576 < (a0.size : Int)) = false := decide_eq_false c2
    have c2b1 : decide (1048576 < a0.size) = false := decide_eq_false (by omega)
    clear c2
    replace H := Option.bind_eq_some_iff.mp H
    obtain ⟨⟨t237, t238, t241⟩, A30, H⟩ := H
    replace H : ((impl_BigGet.f k a0).bind fun bt243 => ((laws_eqBig.f k bt243.1 bt243.2.1 t237 t238).bind fun t249 => (if t249 = true then (if (bt243.2.2 != t241) = true then (none) else ((laws_markBig.f k bt243.1 bt243.2.1 1).bind fun bt250 => ((laws_heldBig.f k bt243.1 bt250.2 1).bind fun t252 => (if t252 < 0 then (none) else (if t252 = bt250.1 then ((impl_BigGet.f k a0).bind fun bt253 => ((laws_eqBig.f k bt253.1 bt253.2.1 t237 t238).bind fun t259 => (if t259 = true then (if (bt253.2.2 != t241) = true then (none) else ((laws_heldBig.f k bt243.1 bt250.2 1).bind fun t260 => (if t260 < 0 then (none) else (if t260 = bt250.1 then (some true) else (none))))) else (none)))) else (none)))))) else (none)))) = some r := H
    have A3 := Aside0.mk A30
    clear A30
    replace H := Option.bind_eq_some_iff.mp H
    obtain ⟨⟨t243, t244, t247⟩, A40, H⟩ := H
    replace H : ((laws_eqBig.f k t243 t244 t237 t238).bind fun t249 => (if t249 = true then (if (t247 != t241) = true then (none) else ((laws_markBig.f k t243 t244 1).bind fun bt250 => ((laws_heldBig.f k t243 bt250.2 1).bind fun t252 => (if t252 < 0 then (none) else (if t252 = bt250.1 then ((impl_BigGet.f k a0).bind fun bt253 => ((laws_eqBig.f k bt253.1 bt253.2.1 t237 t238).bind fun t259 => (if t259 = true then (if (bt253.2.2 != t241) = true then (none) else ((laws_heldBig.f k t243 bt250.2 1).bind fun t260 => (if t260 < 0 then (none) else (if t260 = bt250.1 then (some true) else (none))))) else (none)))) else (none)))))) else (none))) = some r := H
    have A4 := Aside0.mk A40
    clear A40
    replace H := Option.bind_eq_some_iff.mp H
    obtain ⟨t249, A50, H⟩ := H
    replace H : (if t249 = true then (if (t247 != t241) = true then (none) else ((laws_markBig.f k t243 t244 1).bind fun bt250 => ((laws_heldBig.f k t243 bt250.2 1).bind fun t252 => (if t252 < 0 then (none) else (if t252 = bt250.1 then ((impl_BigGet.f k a0).bind fun bt253 => ((laws_eqBig.f k bt253.1 bt253.2.1 t237 t238).bind fun t259 => (if t259 = true then (if (bt253.2.2 != t241) = true then (none) else ((laws_heldBig.f k t243 bt250.2 1).bind fun t260 => (if t260 < 0 then (none) else (if t260 = bt250.1 then (some true) else (none))))) else (none)))) else (none)))))) else (none)) = some r := H
    have A5 := Aside0.mk A50
    clear A50
    by_cases c6 : t249 = true
    · subst c6
      have H1 : (if (t247 != t241) = true then (none) else ((laws_markBig.f k t243 t244 1).bind fun bt250 => ((laws_heldBig.f k t243 bt250.2 1).bind fun t252 => (if t252 < 0 then (none) else (if t252 = bt250.1 then ((impl_BigGet.f k a0).bind fun bt253 => ((laws_eqBig.f k bt253.1 bt253.2.1 t237 t238).bind fun t259 => (if t259 = true then (if (bt253.2.2 != t241) = true then (none) else ((laws_heldBig.f k t243 bt250.2 1).bind fun t260 => (if t260 < 0 then (none) else (if t260 = bt250.1 then (some true) else (none))))) else (none)))) else (none)))))) = some r := by rw [if_pos rfl] at H; exact H
      clear H
      have H := H1
      clear H1
      by_cases c7 : (t247 != t241) = true
      · rw [if_pos c7] at H
        exact absurd H (by simp)
      · rw [if_neg c7] at H
        have c7b0 : (t247 != t241) = false := by simpa using c7
        (try (have c7b1 : decide (t247 = t241) = true := by simpa using c7))
        (try (have c7b2 : (t247 == t241) = true := by simpa using c7))
        clear c7
        replace H := Option.bind_eq_some_iff.mp H
        obtain ⟨⟨t250, t251⟩, A80, H⟩ := H
        replace H : ((laws_heldBig.f k t243 t251 1).bind fun t252 => (if t252 < 0 then (none) else (if t252 = t250 then ((impl_BigGet.f k a0).bind fun bt253 => ((laws_eqBig.f k bt253.1 bt253.2.1 t237 t238).bind fun t259 => (if t259 = true then (if (bt253.2.2 != t241) = true then (none) else ((laws_heldBig.f k t243 t251 1).bind fun t260 => (if t260 < 0 then (none) else (if t260 = t250 then (some true) else (none))))) else (none)))) else (none)))) = some r := H
        have A8 := Aside0.mk A80
        clear A80
        replace H := Option.bind_eq_some_iff.mp H
        obtain ⟨t252, A90, H⟩ := H
        replace H : (if t252 < 0 then (none) else (if t252 = t250 then ((impl_BigGet.f k a0).bind fun bt253 => ((laws_eqBig.f k bt253.1 bt253.2.1 t237 t238).bind fun t259 => (if t259 = true then (if (bt253.2.2 != t241) = true then (none) else ((laws_heldBig.f k t243 t251 1).bind fun t260 => (if t260 < 0 then (none) else (if t260 = t250 then (some true) else (none))))) else (none)))) else (none))) = some r := H
        have A9 := Aside0.mk A90
        clear A90
        by_cases c10 : t252 < 0
        · rw [if_pos c10] at H
          exact absurd H (by simp)
        · rw [if_neg c10] at H
          have c10b0 : decide (t252 < 0) = false := decide_eq_false c10
          clear c10
          by_cases c11 : t252 = t250
          · rw [if_pos c11] at H
            have c11b0 : (t252 == t250) = true := beq_iff_eq.mpr c11
            have c11b1 : (t252 != t250) = false := bne_eq_false_iff_eq.mpr c11
            clear c11
            replace H := Option.bind_eq_some_iff.mp H
            obtain ⟨⟨t253, t254, t257⟩, A120, H⟩ := H
            replace H : ((laws_eqBig.f k t253 t254 t237 t238).bind fun t259 => (if t259 = true then (if (t257 != t241) = true then (none) else ((laws_heldBig.f k t243 t251 1).bind fun t260 => (if t260 < 0 then (none) else (if t260 = t250 then (some true) else (none))))) else (none))) = some r := H
            have A12 := Aside0.mk A120
            clear A120
            replace H := Option.bind_eq_some_iff.mp H
            obtain ⟨t259, A130, H⟩ := H
            replace H : (if t259 = true then (if (t257 != t241) = true then (none) else ((laws_heldBig.f k t243 t251 1).bind fun t260 => (if t260 < 0 then (none) else (if t260 = t250 then (some true) else (none))))) else (none)) = some r := H
            have A13 := Aside0.mk A130
            clear A130
            by_cases c14 : t259 = true
            · subst c14
              have H1 : (if (t257 != t241) = true then (none) else ((laws_heldBig.f k t243 t251 1).bind fun t260 => (if t260 < 0 then (none) else (if t260 = t250 then (some true) else (none))))) = some r := by rw [if_pos rfl] at H; exact H
              clear H
              have H := H1
              clear H1
              by_cases c15 : (t257 != t241) = true
              · rw [if_pos c15] at H
                exact absurd H (by simp)
              · rw [if_neg c15] at H
                have c15b0 : (t257 != t241) = false := by simpa using c15
                (try (have c15b1 : decide (t257 = t241) = true := by simpa using c15))
                (try (have c15b2 : (t257 == t241) = true := by simpa using c15))
                clear c15
                replace H := Option.bind_eq_some_iff.mp H
                obtain ⟨t260, A160, H⟩ := H
                replace H : (if t260 < 0 then (none) else (if t260 = t250 then (some true) else (none))) = some r := H
                have A16 := Aside0.mk A160
                clear A160
                by_cases c17 : t260 < 0
                · rw [if_pos c17] at H
                  exact absurd H (by simp)
                · rw [if_neg c17] at H
                  have c17b0 : decide (t260 < 0) = false := decide_eq_false c17
                  clear c17
                  by_cases c18 : t260 = t250
                  · rw [if_pos c18] at H
                    have c18b0 : (t260 == t250) = true := beq_iff_eq.mpr c18
                    have c18b1 : (t260 != t250) = false := bne_eq_false_iff_eq.mpr c18
                    clear c18
                    obtain rfl := Option.some.inj H
                    go_enter Tryd.func6, Tryd.ntmps6
                    go_wp2_with (first | ((with_reducible refine gate_callee (f := 21) rfl ?_); refine goesL_ (some 16) rfl rfl Tryd.func21 (by kernel_rfl) rfl #[.string a0] rfl za ?_; (with_reducible refine (spec_BigGet.calls k a0 t237 t238 t241 _ A3.out).mono ?_); rintro e w19 ⟨v239, rfl, ho0, hb⟩; refine ⟨_, rfl, ?_⟩; have n0_ := Aside0.mk (Kd.RW_lower ho0 (below_size zb)); have n1_ := Aside0.mk (below_step zb hb); clear HB; have HO240 := n0_; have HB := n1_; clear n0_ n1_; (try clear hb); (try clear hb2); (try clear hk); (try clear hi); (try clear ho0)) | ((with_reducible refine gate_dst (N := 3) rfl ?_); refine box_event ?hg (N := 3) ?hd (cs := #[.bool false, .slice none 0 0]) (t := 27) ?hr ?_; (case hd => rfl); (case hg => rfl); (case hr => first | (go_simp; done) | (go_simp; rfl)); intro gb242 hg w20 hbox hb; have n0_ := Aside0.mk (Kd.RW_below (zRW HO240.out) hb); have n1_ := Aside0.mk (below_step zb hb); have n2_ := Aside0.mk (hbox); have n3_ := Aside0.mk ((by rw [hg]; exact (below_size zb) : w.heap.size ≤ gb242)); have n4_ := Aside0.mk ((by rw [hg]; exact (below_size zb) : w.heap.size ≤ gb242)); clear HO240; clear HB; have HO240 := n0_; have HB := n1_; have BK242 := n2_; have GW242 := n3_; have GE242 := n4_; clear n0_ n1_ n2_ n3_ n4_; clear hb hbox hg; have hcz21_0 : w20.cell? ⟨gb242, 0, none⟩ = some (.bool false) := (blk_cell BK242.out 0).trans rfl; have hcz21_1 : w20.cell? ⟨gb242, 1, none⟩ = some (.slice none 0 0) := (blk_cell BK242.out 1).trans rfl; have hfz21_0 := blk_frozen BK242.out 0; have hfz21_1 := blk_frozen BK242.out 1; obtain ⟨Ao22, co22, eo22⟩ := Kd.RW_slice HO240.out; subst eo22) | ((with_reducible refine gate_callee (f := 22) rfl ?_); refine goesL_ (some 21) rfl rfl Tryd.func22 (by kernel_rfl) rfl #[.string a0] rfl za ?_; (with_reducible refine (impl_BigGet.calls k a0 t243 t244 t247 _ ?side1 A4.out).mono ?_); (case side1 => exact HT.out.below zb); rintro e w23 ⟨v245, rfl, ho0, hb⟩; refine ⟨_, rfl, ?_⟩; have n0_ := Aside0.mk (Kd.RW_elder' (by (with_reducible repeat (first | apply Kd.RW_alloc | apply Kd.RW_drewN | apply Kd.RW_drew)); exact (Kd.RW_mono (Kd.RW_far (p := ⟨gb242, 1, none⟩) (Kd.RW_far (p := ⟨gb242, 0, none⟩) (Kd.RW_types HO240.out BK242.out (by decide)) (fun _ hk => hk.2) (.bool t237)) (fun _ hk => hk.2) (.slice Ao22 t238.length co22)) (fun _ h_ => h_.1))) (Kd.RW_base ho0) hb); have n1_ := Aside0.mk (Kd.RW_lower (Kd.RW_new' ho0 (Kd.RW_lt (by (with_reducible repeat (first | apply Kd.RW_alloc | apply Kd.RW_drewN | apply Kd.RW_drew)); exact (Kd.RW_mono (Kd.RW_far (p := ⟨gb242, 1, none⟩) (Kd.RW_far (p := ⟨gb242, 0, none⟩) (Kd.RW_types HO240.out BK242.out (by decide)) (fun _ hk => hk.2) (.bool t237)) (fun _ hk => hk.2) (.slice Ao22 t238.length co22)) (fun _ h_ => h_.1))))) (below_size zb)); have n2_ := Aside0.mk (blk_below (g := gb242) (o := .cells #[.bool t237, .slice Ao22 t238.length co22] 27 (0, 0)) (by (with_reducible repeat (first | refine blk_drewN ?_ _ | refine blk_drew ?_ | refine blk_alloc ?_ _)); refine blk_put (cs := #[.bool t237, .slice none 0 0]) ?_ 1 _ rfl; (with_reducible repeat (first | refine blk_drewN ?_ _ | refine blk_drew ?_ | refine blk_alloc ?_ _)); refine blk_put (cs := #[.bool false, .slice none 0 0]) ?_ 0 _ rfl; (with_reducible repeat (first | refine blk_drewN ?_ _ | refine blk_drew ?_ | refine blk_alloc ?_ _)); exact BK242.out) hb); have n3_ := Aside0.mk (below_step zb hb); clear HO240; clear BK242; clear HB; have HO240 := n0_; have HO246 := n1_; have BK242 := n2_; have HB := n3_; clear n0_ n1_ n2_ n3_; (try clear hb); (try clear hb2); (try clear hk); (try clear hi); (try clear ho0)) | ((with_reducible refine gate_dst (N := 5) rfl ?_); refine box_event ?hg (N := 5) ?hd (cs := #[.bool false, .slice none 0 0]) (t := 27) ?hr ?_; (case hd => rfl); (case hg => rfl); (case hr => first | (go_simp; done) | (go_simp; rfl)); intro gb248 hg w24 hbox hb; have n0_ := Aside0.mk (Kd.RW_below (zRW HO240.out) hb); have n1_ := Aside0.mk (Kd.RW_below (zRW HO246.out) hb); have n2_ := Aside0.mk (blk_below (g := gb242) (o := .cells #[.bool t237, .slice Ao22 t238.length co22] 27 (0, 0)) (zk BK242.out) hb); have n3_ := Aside0.mk (below_step zb hb); have n4_ := Aside0.mk (hbox); have n5_ := Aside0.mk ((by rw [hg]; exact (below_size zb) : w.heap.size ≤ gb248)); have n6_ := Aside0.mk ((by rw [hg]; exact (below_size zb) : w.heap.size ≤ gb248)); have n7_ := Aside0.mk ((by rw [hg]; exact Nat.ne_of_lt (blk_lt (g := gb242) (o := .cells #[.bool t237, .slice Ao22 t238.length co22] 27 (0, 0)) (zk BK242.out)) : gb242 ≠ gb248)); have n8_ := Aside0.mk ((by rw [hg]; exact Nat.ne_of_gt (blk_lt (g := gb242) (o := .cells #[.bool t237, .slice Ao22 t238.length co22] 27 (0, 0)) (zk BK242.out)) : gb248 ≠ gb242)); clear HO240; clear HO246; clear BK242; clear HB; have HO240 := n0_; have HO246 := n1_; have BK242 := n2_; have HB := n3_; have BK248 := n4_; have GW248 := n5_; have GE248 := n6_; have NB242_248 := n7_; have NB248_242 := n8_; clear n0_ n1_ n2_ n3_ n4_ n5_ n6_ n7_ n8_; clear hb hbox hg; have hnb25 := NB248_242.out; have hnc25 := NB242_248.out; have hcz26_0 : w24.cell? ⟨gb248, 0, none⟩ = some (.bool false) := (blk_cell BK248.out 0).trans rfl; have hcz26_1 : w24.cell? ⟨gb248, 1, none⟩ = some (.slice none 0 0) := (blk_cell BK248.out 1).trans rfl; have hfz26_0 := blk_frozen BK248.out 0; have hfz26_1 := blk_frozen BK248.out 1; obtain ⟨Ao27, co27, eo27⟩ := Kd.RW_slice HO246.out; subst eo27; have hcz28_0 : w24.cell? ⟨gb242, 0, none⟩ = some (.bool t237) := (blk_cell BK242.out 0).trans rfl; have hcz28_1 : w24.cell? ⟨gb242, 1, none⟩ = some (.slice Ao22 t238.length co22) := (blk_cell BK242.out 1).trans rfl; have hfz28_0 := blk_frozen BK242.out 0; have hfz28_1 := blk_frozen BK242.out 1) | ((with_reducible refine gate_callee (f := 13) rfl ?_); refine goesL_ (some 26) rfl rfl Tryd.func13 (by kernel_rfl) rfl #[.agg #[.bool t243, .slice Ao27 t244.length co27], .agg #[.bool t237, .slice Ao22 t238.length co22]] rfl za ?_; (with_reducible refine (laws_eqBig.calls k t243 _ _ t244 t237 _ _ t238 true _ ?side1 ?side2 ?side3 ?side4 A5.out).mono ?_); (case side1 => refine (Kd.RW_reads' (e := 3) (base := w.heap.size) (ok := fun k_ => (True ∧ some k_ ≠ (.slice Ao22 t238.length co22 : Value).ownBlock)) (n := t244.length) (c := co27) ?_).2.2; exact (by (with_reducible repeat (first | apply Kd.RW_alloc | apply Kd.RW_drewN | apply Kd.RW_drew)); exact (Kd.RW_mono (Kd.RW_far (p := ⟨gb248, 1, none⟩) (Kd.RW_far (p := ⟨gb248, 0, none⟩) (Kd.RW_types HO246.out BK248.out (by decide)) (fun _ hk => hk.2) (.bool t243)) (fun _ hk => hk.2) (.slice Ao27 t244.length co27)) (fun _ h_ => h_.1)))); (case side2 => exact (Kd.RW_reads' HO246.out).2.1); (case side3 => refine (Kd.RW_reads' (e := 3) (base := w.heap.size) (ok := fun k_ => (True ∧ some k_ ≠ (.slice Ao27 t244.length co27 : Value).ownBlock)) (n := t238.length) (c := co22) ?_).2.2; exact (by (with_reducible repeat (first | apply Kd.RW_alloc | apply Kd.RW_drewN | apply Kd.RW_drew)); exact (Kd.RW_mono (Kd.RW_far (p := ⟨gb248, 1, none⟩) (Kd.RW_far (p := ⟨gb248, 0, none⟩) (Kd.RW_types HO240.out BK248.out (by decide)) (fun _ hk => hk.2) (.bool t243)) (fun _ hk => hk.2) (.slice Ao27 t244.length co27)) (fun _ h_ => h_.1)))); (case side4 => exact (Kd.RW_reads' HO240.out).2.1); rintro e w29 ⟨rfl, hb⟩; refine ⟨_, rfl, ?_⟩; have n0_ := Aside0.mk (Kd.RW_below (by (with_reducible repeat (first | apply Kd.RW_alloc | apply Kd.RW_drewN | apply Kd.RW_drew)); exact (Kd.RW_mono (Kd.RW_far (p := ⟨gb248, 1, none⟩) (Kd.RW_far (p := ⟨gb248, 0, none⟩) (Kd.RW_types HO240.out BK248.out (by decide)) (fun _ hk => hk.2) (.bool t243)) (fun _ hk => hk.2) (.slice Ao27 t244.length co27)) (fun _ h_ => h_.1))) hb); have n1_ := Aside0.mk (Kd.RW_below (by (with_reducible repeat (first | apply Kd.RW_alloc | apply Kd.RW_drewN | apply Kd.RW_drew)); exact (Kd.RW_mono (Kd.RW_far (p := ⟨gb248, 1, none⟩) (Kd.RW_far (p := ⟨gb248, 0, none⟩) (Kd.RW_types HO246.out BK248.out (by decide)) (fun _ hk => hk.2) (.bool t243)) (fun _ hk => hk.2) (.slice Ao27 t244.length co27)) (fun _ h_ => h_.1))) hb); have n2_ := Aside0.mk (blk_below (g := gb242) (o := .cells #[.bool t237, .slice Ao22 t238.length co22] 27 (0, 0)) (zk BK242.out) hb); have n3_ := Aside0.mk (blk_below (g := gb248) (o := .cells #[.bool t243, .slice Ao27 t244.length co27] 27 (0, 0)) (by (with_reducible repeat (first | refine blk_drewN ?_ _ | refine blk_drew ?_ | refine blk_alloc ?_ _)); refine blk_put (cs := #[.bool t243, .slice none 0 0]) ?_ 1 _ rfl; (with_reducible repeat (first | refine blk_drewN ?_ _ | refine blk_drew ?_ | refine blk_alloc ?_ _)); refine blk_put (cs := #[.bool false, .slice none 0 0]) ?_ 0 _ rfl; (with_reducible repeat (first | refine blk_drewN ?_ _ | refine blk_drew ?_ | refine blk_alloc ?_ _)); exact BK248.out) hb); have n4_ := Aside0.mk (below_step zb hb); clear HO240; clear HO246; clear BK242; clear BK248; clear HB; have HO240 := n0_; have HO246 := n1_; have BK242 := n2_; have BK248 := n3_; have HB := n4_; clear n0_ n1_ n2_ n3_ n4_; (try clear hb); (try clear hb2); (try clear hk); (try clear hi); have hcz30_0 : w29.cell? ⟨gb248, 0, none⟩ = some (.bool t243) := (blk_cell BK248.out 0).trans rfl; have hcz30_1 : w29.cell? ⟨gb248, 1, none⟩ = some (.slice Ao27 t244.length co27) := (blk_cell BK248.out 1).trans rfl; have hfz30_0 := blk_frozen BK248.out 0; have hfz30_1 := blk_frozen BK248.out 1) | ((with_reducible refine gate_callee (f := 23) rfl ?_); refine goesL_ (some 35) rfl rfl Tryd.func23 (by kernel_rfl) rfl #[.agg #[.bool t243, .slice Ao27 t244.length co27], .int .i64 1] rfl za ?_; (with_reducible refine (laws_markBig.calls k t243 (fun k_ => some k_ = (.slice Ao27 t244.length co27 : Value).ownBlock) (.slice Ao27 t244.length co27) t244 1 t250 t251 w _ ?side1 ?side2 A8.out).mono ?_); (case side1 => repeat (first | (with_reducible first | exact HB.out | apply below_alloc | apply pw_below_drewN | apply below_drew1 | refine below_set ?_ GE242.out | refine below_set ?_ GE248.out) | exact HB.out)); (case side2 => exact Kd.RW_tight rfl HO246.out); rintro e w31 ⟨rfl, hy0, hb, hkp⟩; refine ⟨_, rfl, ?_⟩; have n0_ := Aside0.mk (Kd.RW_mono (ok' := fun k_ => some k_ ≠ (.slice Ao27 t244.length co27 : Value).ownBlock) (Kd.RW_keptB (HO240.out) hkp (fun k_ hk_ hs_ => (hk_.2) hs_)) (fun k_ hk_ => hk_.1.2)); have n1_ := Aside0.mk (blk_kept (zk BK242.out) hkp (fun hs_ => (fun e_ => (Kd.RW_ne HO246.out BK242.out (by decide)) e_) hs_)); have n2_ := Aside0.mk (Kd.RW_reok rfl hy0 (fun k_ e_ => HO246.out.1 k_ e_)); have n3_ := Aside0.mk (blk_kept (zk BK248.out) hkp (fun hs_ => (fun e_ => (Kd.RW_ne HO246.out BK248.out (by decide)) e_) hs_)); have n4_ := Aside0.mk (hb); clear HO240; clear BK242; clear HO246; clear BK248; clear HB; have HO240 := n0_; have BK242 := n1_; have HO246 := n2_; have BK248 := n3_; have HB := n4_; clear n0_ n1_ n2_ n3_ n4_; (try clear hb); (try clear hkp); (try clear hy0); have hcz32_0 : w31.cell? ⟨gb248, 0, none⟩ = some (.bool t243) := (blk_cell BK248.out 0).trans rfl; have hcz32_1 : w31.cell? ⟨gb248, 1, none⟩ = some (.slice Ao27 t244.length co27) := (blk_cell BK248.out 1).trans rfl; have hfz32_0 := blk_frozen BK248.out 0; have hfz32_1 := blk_frozen BK248.out 1) | ((with_reducible refine gate_callee (f := 24) rfl ?_); refine goesL_ (some 38) rfl rfl Tryd.func24 (by kernel_rfl) rfl #[.agg #[.bool t243, .slice Ao27 t251.length co27], .int .i64 1] rfl (by (try simp only [List.map_toArray, List.map_cons, List.map_nil]); first | done | (rw [show t251.length = t244.length from (Kd.RW_reads' HO246.out).1.symm] <;> rfl) | rfl | (simp only [List.length_drop, List.length_take]; rfl)) ?_; (with_reducible refine (laws_heldBig.calls k t243 _ _ t251 1 t252 _ ?side1 ?side2 A9.out).mono ?_); (case side1 => repeat (first | exact (Kd.RW_reads' HO246.out).2.2 | (with_reducible refine Kd.C_alloc ?_ _) | (with_reducible refine Kd.C_drewN ?_ _) | (with_reducible refine Kd.C_drew ?_))); (case side2 => rw [show t251.length = t244.length from (Kd.RW_reads' HO246.out).1.symm]; exact (Kd.RW_reads' HO246.out).2.1); rintro e w33 ⟨rfl, hb⟩; refine ⟨_, rfl, ?_⟩; have n0_ := Aside0.mk (Kd.RW_below (zRW HO240.out) hb); have n1_ := Aside0.mk (Kd.RW_below (zRW HO246.out) hb); have n2_ := Aside0.mk (blk_below (g := gb242) (o := .cells #[.bool t237, .slice Ao22 t238.length co22] 27 (0, 0)) (zk BK242.out) hb); have n3_ := Aside0.mk (blk_below (g := gb248) (o := .cells #[.bool t243, .slice Ao27 t244.length co27] 27 (0, 0)) (zk BK248.out) hb); have n4_ := Aside0.mk (below_step zb hb); clear HO240; clear HO246; clear BK242; clear BK248; clear HB; have HO240 := n0_; have HO246 := n1_; have BK242 := n2_; have BK248 := n3_; have HB := n4_; clear n0_ n1_ n2_ n3_ n4_; (try clear hb); (try clear hb2); (try clear hk); (try clear hi)) | ((with_reducible refine gate_callee (f := 22) rfl ?_); refine goesL_ (some 46) rfl rfl Tryd.func22 (by kernel_rfl) rfl #[.string a0] rfl za ?_; (with_reducible refine (impl_BigGet.calls k a0 t253 t254 t257 _ ?side1 A12.out).mono ?_); (case side1 => exact HT.out.below zb); rintro e w34 ⟨v255, rfl, ho0, hb⟩; refine ⟨_, rfl, ?_⟩; have n0_ := Aside0.mk (Kd.RW_elder' (zRW HO240.out) (Kd.RW_base ho0) hb); have n1_ := Aside0.mk (Kd.RW_elder' (zRW HO246.out) (Kd.RW_base ho0) hb); have n2_ := Aside0.mk (Kd.RW_lower (Kd.RW_new' (Kd.RW_new' ho0 (Kd.RW_lt (zRW HO240.out))) (Kd.RW_lt (zRW HO246.out))) (below_size zb)); have n3_ := Aside0.mk (blk_below (g := gb242) (o := .cells #[.bool t237, .slice Ao22 t238.length co22] 27 (0, 0)) (zk BK242.out) hb); have n4_ := Aside0.mk (blk_below (g := gb248) (o := .cells #[.bool t243, .slice Ao27 t244.length co27] 27 (0, 0)) (zk BK248.out) hb); have n5_ := Aside0.mk (below_step zb hb); clear HO240; clear HO246; clear BK242; clear BK248; clear HB; have HO240 := n0_; have HO246 := n1_; have HO256 := n2_; have BK242 := n3_; have BK248 := n4_; have HB := n5_; clear n0_ n1_ n2_ n3_ n4_ n5_; (try clear hb); (try clear hb2); (try clear hk); (try clear hi); (try clear ho0)) | ((with_reducible refine gate_dst (N := 9) rfl ?_); refine box_event ?hg (N := 9) ?hd (cs := #[.bool false, .slice none 0 0]) (t := 27) ?hr ?_; (case hd => rfl); (case hg => rfl); (case hr => first | (go_simp; done) | (go_simp; rfl)); intro gb258 hg w35 hbox hb; have n0_ := Aside0.mk (Kd.RW_below (zRW HO240.out) hb); have n1_ := Aside0.mk (Kd.RW_below (zRW HO246.out) hb); have n2_ := Aside0.mk (Kd.RW_below (zRW HO256.out) hb); have n3_ := Aside0.mk (blk_below (g := gb242) (o := .cells #[.bool t237, .slice Ao22 t238.length co22] 27 (0, 0)) (zk BK242.out) hb); have n4_ := Aside0.mk (blk_below (g := gb248) (o := .cells #[.bool t243, .slice Ao27 t244.length co27] 27 (0, 0)) (zk BK248.out) hb); have n5_ := Aside0.mk (below_step zb hb); have n6_ := Aside0.mk (hbox); have n7_ := Aside0.mk ((by rw [hg]; exact (below_size zb) : w.heap.size ≤ gb258)); have n8_ := Aside0.mk ((by rw [hg]; exact (below_size zb) : w.heap.size ≤ gb258)); have n9_ := Aside0.mk ((by rw [hg]; exact Nat.ne_of_lt (blk_lt (g := gb242) (o := .cells #[.bool t237, .slice Ao22 t238.length co22] 27 (0, 0)) (zk BK242.out)) : gb242 ≠ gb258)); have n10_ := Aside0.mk ((by rw [hg]; exact Nat.ne_of_gt (blk_lt (g := gb242) (o := .cells #[.bool t237, .slice Ao22 t238.length co22] 27 (0, 0)) (zk BK242.out)) : gb258 ≠ gb242)); have n11_ := Aside0.mk ((by rw [hg]; exact Nat.ne_of_lt (blk_lt (g := gb248) (o := .cells #[.bool t243, .slice Ao27 t244.length co27] 27 (0, 0)) (zk BK248.out)) : gb248 ≠ gb258)); have n12_ := Aside0.mk ((by rw [hg]; exact Nat.ne_of_gt (blk_lt (g := gb248) (o := .cells #[.bool t243, .slice Ao27 t244.length co27] 27 (0, 0)) (zk BK248.out)) : gb258 ≠ gb248)); clear HO240; clear HO246; clear HO256; clear BK242; clear BK248; clear HB; have HO240 := n0_; have HO246 := n1_; have HO256 := n2_; have BK242 := n3_; have BK248 := n4_; have HB := n5_; have BK258 := n6_; have GW258 := n7_; have GE258 := n8_; have NB242_258 := n9_; have NB258_242 := n10_; have NB248_258 := n11_; have NB258_248 := n12_; clear n0_ n1_ n2_ n3_ n4_ n5_ n6_ n7_ n8_ n9_ n10_ n11_ n12_; clear hb hbox hg; have hnb36 := NB258_242.out; have hnc36 := NB242_258.out; have hnb37 := NB258_248.out; have hnc37 := NB248_258.out; have hcz38_0 : w35.cell? ⟨gb258, 0, none⟩ = some (.bool false) := (blk_cell BK258.out 0).trans rfl; have hcz38_1 : w35.cell? ⟨gb258, 1, none⟩ = some (.slice none 0 0) := (blk_cell BK258.out 1).trans rfl; have hfz38_0 := blk_frozen BK258.out 0; have hfz38_1 := blk_frozen BK258.out 1; obtain ⟨Ao39, co39, eo39⟩ := Kd.RW_slice HO256.out; subst eo39; have hcz40_0 : w35.cell? ⟨gb242, 0, none⟩ = some (.bool t237) := (blk_cell BK242.out 0).trans rfl; have hcz40_1 : w35.cell? ⟨gb242, 1, none⟩ = some (.slice Ao22 t238.length co22) := (blk_cell BK242.out 1).trans rfl; have hfz40_0 := blk_frozen BK242.out 0; have hfz40_1 := blk_frozen BK242.out 1) | ((with_reducible refine gate_callee (f := 13) rfl ?_); refine goesL_ (some 51) rfl rfl Tryd.func13 (by kernel_rfl) rfl #[.agg #[.bool t253, .slice Ao39 t254.length co39], .agg #[.bool t237, .slice Ao22 t238.length co22]] rfl za ?_; (with_reducible refine (laws_eqBig.calls k t253 _ _ t254 t237 _ _ t238 true _ ?side1 ?side2 ?side3 ?side4 A13.out).mono ?_); (case side1 => refine (Kd.RW_reads' (e := 3) (base := w.heap.size) (ok := fun k_ => ((True ∧ some k_ ≠ (.slice Ao22 t238.length co22 : Value).ownBlock) ∧ some k_ ≠ (.slice Ao27 t244.length co27 : Value).ownBlock)) (n := t254.length) (c := co39) ?_).2.2; exact (by (with_reducible repeat (first | apply Kd.RW_alloc | apply Kd.RW_drewN | apply Kd.RW_drew)); exact (Kd.RW_mono (Kd.RW_far (p := ⟨gb258, 1, none⟩) (Kd.RW_far (p := ⟨gb258, 0, none⟩) (Kd.RW_types HO256.out BK258.out (by decide)) (fun _ hk => hk.2) (.bool t253)) (fun _ hk => hk.2) (.slice Ao39 t254.length co39)) (fun _ h_ => h_.1)))); (case side2 => exact (Kd.RW_reads' HO256.out).2.1); (case side3 => refine (Kd.RW_reads' (e := 3) (base := w.heap.size) (ok := fun k_ => (some k_ ≠ (.slice Ao27 t244.length co27 : Value).ownBlock ∧ some k_ ≠ (.slice Ao39 t254.length co39 : Value).ownBlock)) (n := t238.length) (c := co22) ?_).2.2; exact (by (with_reducible repeat (first | apply Kd.RW_alloc | apply Kd.RW_drewN | apply Kd.RW_drew)); exact (Kd.RW_mono (Kd.RW_far (p := ⟨gb258, 1, none⟩) (Kd.RW_far (p := ⟨gb258, 0, none⟩) (Kd.RW_types HO240.out BK258.out (by decide)) (fun _ hk => hk.2) (.bool t253)) (fun _ hk => hk.2) (.slice Ao39 t254.length co39)) (fun _ h_ => h_.1)))); (case side4 => exact (Kd.RW_reads' HO240.out).2.1); rintro e w41 ⟨rfl, hb⟩; refine ⟨_, rfl, ?_⟩; have n0_ := Aside0.mk (Kd.RW_below (by (with_reducible repeat (first | apply Kd.RW_alloc | apply Kd.RW_drewN | apply Kd.RW_drew)); exact (Kd.RW_mono (Kd.RW_far (p := ⟨gb258, 1, none⟩) (Kd.RW_far (p := ⟨gb258, 0, none⟩) (Kd.RW_types HO240.out BK258.out (by decide)) (fun _ hk => hk.2) (.bool t253)) (fun _ hk => hk.2) (.slice Ao39 t254.length co39)) (fun _ h_ => h_.1))) hb); have n1_ := Aside0.mk (Kd.RW_below (by (with_reducible repeat (first | apply Kd.RW_alloc | apply Kd.RW_drewN | apply Kd.RW_drew)); exact (Kd.RW_mono (Kd.RW_far (p := ⟨gb258, 1, none⟩) (Kd.RW_far (p := ⟨gb258, 0, none⟩) (Kd.RW_types HO246.out BK258.out (by decide)) (fun _ hk => hk.2) (.bool t253)) (fun _ hk => hk.2) (.slice Ao39 t254.length co39)) (fun _ h_ => h_.1))) hb); have n2_ := Aside0.mk (Kd.RW_below (by (with_reducible repeat (first | apply Kd.RW_alloc | apply Kd.RW_drewN | apply Kd.RW_drew)); exact (Kd.RW_mono (Kd.RW_far (p := ⟨gb258, 1, none⟩) (Kd.RW_far (p := ⟨gb258, 0, none⟩) (Kd.RW_types HO256.out BK258.out (by decide)) (fun _ hk => hk.2) (.bool t253)) (fun _ hk => hk.2) (.slice Ao39 t254.length co39)) (fun _ h_ => h_.1))) hb); have n3_ := Aside0.mk (blk_below (g := gb242) (o := .cells #[.bool t237, .slice Ao22 t238.length co22] 27 (0, 0)) (zk BK242.out) hb); have n4_ := Aside0.mk (blk_below (g := gb248) (o := .cells #[.bool t243, .slice Ao27 t244.length co27] 27 (0, 0)) (zk BK248.out) hb); have n5_ := Aside0.mk (blk_below (g := gb258) (o := .cells #[.bool t253, .slice Ao39 t254.length co39] 27 (0, 0)) (by (with_reducible repeat (first | refine blk_drewN ?_ _ | refine blk_drew ?_ | refine blk_alloc ?_ _)); refine blk_put (cs := #[.bool t253, .slice none 0 0]) ?_ 1 _ rfl; (with_reducible repeat (first | refine blk_drewN ?_ _ | refine blk_drew ?_ | refine blk_alloc ?_ _)); refine blk_put (cs := #[.bool false, .slice none 0 0]) ?_ 0 _ rfl; (with_reducible repeat (first | refine blk_drewN ?_ _ | refine blk_drew ?_ | refine blk_alloc ?_ _)); exact BK258.out) hb); have n6_ := Aside0.mk (below_step zb hb); clear HO240; clear HO246; clear HO256; clear BK242; clear BK248; clear BK258; clear HB; have HO240 := n0_; have HO246 := n1_; have HO256 := n2_; have BK242 := n3_; have BK248 := n4_; have BK258 := n5_; have HB := n6_; clear n0_ n1_ n2_ n3_ n4_ n5_ n6_; (try clear hb); (try clear hb2); (try clear hk); (try clear hi); have hcz42_0 : w41.cell? ⟨gb248, 0, none⟩ = some (.bool t243) := (blk_cell BK248.out 0).trans rfl; have hcz42_1 : w41.cell? ⟨gb248, 1, none⟩ = some (.slice Ao27 t244.length co27) := (blk_cell BK248.out 1).trans rfl; have hfz42_0 := blk_frozen BK248.out 0; have hfz42_1 := blk_frozen BK248.out 1) | ((with_reducible refine gate_callee (f := 24) rfl ?_); refine goesL_ (some 60) rfl rfl Tryd.func24 (by kernel_rfl) rfl #[.agg #[.bool t243, .slice Ao27 t251.length co27], .int .i64 1] rfl (by (try simp only [List.map_toArray, List.map_cons, List.map_nil]); first | done | (rw [show t251.length = t244.length from (Kd.RW_reads' HO246.out).1.symm] <;> rfl) | rfl | (simp only [List.length_drop, List.length_take]; rfl)) ?_; (with_reducible refine (laws_heldBig.calls k t243 _ _ t251 1 t260 _ ?side1 ?side2 A16.out).mono ?_); (case side1 => repeat (first | exact (Kd.RW_reads' HO246.out).2.2 | (with_reducible refine Kd.C_alloc ?_ _) | (with_reducible refine Kd.C_drewN ?_ _) | (with_reducible refine Kd.C_drew ?_))); (case side2 => rw [show t251.length = t244.length from (Kd.RW_reads' HO246.out).1.symm]; exact (Kd.RW_reads' HO246.out).2.1); rintro e w43 ⟨rfl, hb⟩; refine ⟨_, rfl, ?_⟩; have n0_ := Aside0.mk (Kd.RW_below (zRW HO240.out) hb); have n1_ := Aside0.mk (Kd.RW_below (zRW HO246.out) hb); have n2_ := Aside0.mk (Kd.RW_below (zRW HO256.out) hb); have n3_ := Aside0.mk (blk_below (g := gb242) (o := .cells #[.bool t237, .slice Ao22 t238.length co22] 27 (0, 0)) (zk BK242.out) hb); have n4_ := Aside0.mk (blk_below (g := gb248) (o := .cells #[.bool t243, .slice Ao27 t244.length co27] 27 (0, 0)) (zk BK248.out) hb); have n5_ := Aside0.mk (blk_below (g := gb258) (o := .cells #[.bool t253, .slice Ao39 t254.length co39] 27 (0, 0)) (zk BK258.out) hb); have n6_ := Aside0.mk (below_step zb hb); clear HO240; clear HO246; clear HO256; clear BK242; clear BK248; clear BK258; clear HB; have HO240 := n0_; have HO246 := n1_; have HO256 := n2_; have BK242 := n3_; have BK248 := n4_; have BK258 := n5_; have HB := n6_; clear n0_ n1_ n2_ n3_ n4_ n5_ n6_; (try clear hb); (try clear hb2); (try clear hk); (try clear hi)))
                    go_ret
                    exact ⟨by first | rfl | (simp [errW_none, errW_some] <;> rfl) | (simp [*, errW_none, errW_some] <;> rfl), zb⟩
                  · rw [if_neg c18] at H
                    exact absurd H (by simp)
            · replace c14 := Bool.eq_false_iff.mpr c14
              subst c14
              have H1 : (none) = some r := by rw [if_neg (show ¬ (false = true) by decide)] at H; exact H
              clear H
              have H := H1
              clear H1
              exact absurd H (by simp)
          · rw [if_neg c11] at H
            exact absurd H (by simp)
    · replace c6 := Bool.eq_false_iff.mpr c6
      subst c6
      have H1 : (none) = some r := by rw [if_neg (show ¬ (false = true) by decide)] at H; exact H
      clear H
      have H := H1
      clear H1
      exact absurd H (by simp)
def laws_FnExactBigGet.Pure : Prop := ∀ (a0 : ByteArray), a0.size ≤ 140737488351232 → ∃ k, laws_FnExactBigGet.f k a0 = some true
theorem laws_FnExactBigGet.walk (P : laws_FnExactBigGet.Pure) (a0 : ByteArray) (w : World) (hT : EnvA w) (w0 : a0.size ≤ 140737488351232) :
    Calls Tryd.prog 6 #[.string a0] w fun e w' => e = .returned (.bool true) ∧ Below w.heap.size w w' := by
  obtain ⟨k, h⟩ := P a0 w0
  refine (laws_FnExactBigGet.calls k a0 true w hT h).mono ?_
  rintro e w' ⟨rfl, hd⟩
  exact ⟨rfl, hd⟩
end Go.Proofs.YtdbgpoileffbeaaDoor.Pw
end
section
namespace Go.Proofs.YtdbgpoileffbeaaDoor.Mk
open Go.RowKit Go.Proofs.YtdbgpoileffbeaaDoor.Pr Go.Proofs.YtdbgpoileffbeaaDoor.Pw Go.Proofs.YtdbgpoileffbeaaDoor.Ext Go.Proofs.YtdbgpoileffbeaaDoor.Jt Go.Proofs.YtdbgpoileffbeaaDoor.Val Go.Proofs.YtdbgpoileffbeaaDoorW.PrintWords Go.Proofs.YtdbgpoileffbeaaDoorW.PrintLast Go.Proofs.YtdbgpoileffbeaaDoorW.PrintMore
set_option linter.unusedVariables false
set_option linter.unusedSimpArgs false
theorem mark_l0 : ∀ (m i : Nat) (x : List Int) (a : Int), i + m = x.length → x.length ≤ 1000 → 0 ≤ a → a + m ≤ 1000000 →
    ∃ r, (∀ k, m + 1 ≤ k → laws_markIntS.l0 k x a (i : Int) = some (a + m, r)) ∧ r.length = x.length ∧ (∀ j, j < i → r.getD j 0 = x.getD j 0) ∧ (∀ j, i ≤ j → j < x.length → r.getD j 0 = a + ((j - i : Nat) : Int)) := by
  intro m
  induction m with
  | zero =>
    intro i x a hi hl h0 h1
    refine ⟨x, fun k hk => ?_, rfl, fun j _ => rfl, fun j h2 h3 => by omega⟩
    obtain ⟨k, rfl⟩ : ∃ j, k = j + 1 := ⟨k - 1, by omega⟩
    rw [laws_markIntS.l0, if_neg (by omega)]
    simp
  | succ m ih =>
    intro i x a hi hl h0 h1
    have hlt : i < x.length := by omega
    · obtain ⟨r, hr, h2, h3, h4⟩ := ih (i + 1) (x.set i a) (a + 1) (by rw [List.length_set]; omega) (by rw [List.length_set]; omega) (by omega) (by omega)
      refine ⟨r, fun k hk => ?_, by rw [h2, List.length_set], fun j hj => by rw [h3 j (by omega), Go.Proofs.YtdbgpoileffbeaaDoor.Val.getD_set_ne _ hlt (by omega)], fun j hj hj2 => ?_⟩
      · obtain ⟨k, rfl⟩ : ∃ j, k = j + 1 := ⟨k - 1, by omega⟩
        rw [laws_markIntS.l0, if_pos (by omega), if_pos (by omega), Int.toNat_natCast, w64 (by omega) (by omega), w64 (by omega) (by omega), show ((i : Int) + 1) = ((i + 1 : Nat) : Int) from by omega, hr k (by omega)]
        rw [show a + 1 + (m : Int) = a + ((m + 1 : Nat) : Int) from by omega]
      · by_cases hji : j = i
        · rw [hji, h3 i (by omega), Go.Proofs.YtdbgpoileffbeaaDoor.Val.getD_set_eq _ hlt]; omega
        · rw [h4 j (by omega) (by rw [List.length_set]; exact hj2)]; omega
theorem held_l0 : ∀ (m k i : Nat) (x : List Int) (a : Int), i + m = x.length → x.length ≤ 1000 → 0 ≤ a → a + m ≤ 1000000 → (∀ j, i ≤ j → j < x.length → x.getD j 0 = a + ((j - i : Nat) : Int)) → m + 1 ≤ k →
    laws_heldIntS.l0 k x a (i : Int) = some (a + m) := by
  intro m
  induction m with
  | zero =>
    intro k i x a hi hl h0 h1 hx hk
    obtain ⟨k, rfl⟩ : ∃ j, k = j + 1 := ⟨k - 1, by omega⟩
    rw [laws_heldIntS.l0, if_neg (by omega)]
    simp
  | succ m ih =>
    intro k i x a hi hl h0 h1 hx hk
    obtain ⟨k, rfl⟩ : ∃ j, k = j + 1 := ⟨k - 1, by omega⟩
    have e := hx i (Nat.le_refl _) (by omega)
    rw [laws_heldIntS.l0, if_pos (by omega), if_pos (by omega), rdN, if_pos (by rw [e]; simp), w64 (by omega) (by omega), w64 (by omega) (by omega), show ((i : Int) + 1) = ((i + 1 : Nat) : Int) from by omega,
      ih k (i + 1) x (a + 1) (by omega) hl (by omega) (by omega) (fun j h2 h3 => by rw [hx j (by omega) h3]; omega) (by omega)]
    rw [show a + 1 + (m : Int) = a + ((m + 1 : Nat) : Int) from by omega]
theorem mark_ge (n : Bool) (l : List Int) (hl : l.length ≤ 1000) (a : Int) (h0 : 0 ≤ a) (h1 : a ≤ 900000) : ∃ r, (∀ k, 1010 ≤ k → laws_markBig.f k n l a = some (a + l.length, r)) ∧ r.length = l.length ∧ (∀ n' k, 1010 ≤ k → laws_heldBig.f k n' r a = some (a + l.length)) := by
  obtain ⟨r, hr, h2, _, h4⟩ := mark_l0 l.length 0 l a (by omega) hl h0 (by omega)
  refine ⟨r, fun k hk => ?_, h2, fun n' k hk => ?_⟩
  · unfold laws_markBig.f laws_markIntS.f
    rw [show (0 : Int) = ((0 : Nat) : Int) from rfl, hr k (by omega)]; rfl
  · unfold laws_heldBig.f laws_heldIntS.f
    rw [show (0 : Int) = ((0 : Nat) : Int) from rfl, held_l0 r.length k 0 r a (by omega) (by omega) h0 (by omega) (fun j h5 h6 => h4 j h5 (by omega)) (by omega), Option.bind_some, h2, if_neg (by omega)]
end Go.Proofs.YtdbgpoileffbeaaDoor.Mk
end
section
namespace Go.Proofs.YtdbgpoileffbeaaDoor.Str
open Go.Lib Go.RowKit Go.Proofs.YtdbgpoileffbeaaDoor.Dec Go.Proofs.YtdbgpoileffbeaaDoor.Pr Go.Proofs.YtdbgpoileffbeaaDoor.Ext Go.Proofs.YtdbgpoileffbeaaDoorW.PrintWords Go.Proofs.YtdbgpoileffbeaaDoorW.PrintLast Go.Proofs.YtdbgpoileffbeaaDoorW.PrintMore
set_option linter.unusedVariables false
set_option linter.unusedSimpArgs false
def str (l : List UInt8) : ByteArray := ⟨l.toArray⟩
theorem str_eta (s : ByteArray) : s = str s.data.toList := by unfold str; simp
theorem str_size (l : List UInt8) : (str l).size = l.length := by unfold str; simp [ByteArray.size]
theorem str_data (l : List UInt8) : (str l).data.toList = l := by unfold str; simp
theorem str_toList (l : List UInt8) : (str l).toList = l := by rw [ByteArray.toList_eq, str_data]
theorem str_append (a b : List UInt8) : str a ++ str b = str (a ++ b) := by
  apply ByteArray.ext
  simp [str]
theorem str_extract (l : List UInt8) (a b : Nat) : (str l).extract a b = str ((l.drop a).take (b - a)) := by
  rw [extract_eq, str_data]; rfl
theorem str_bt (l : List UInt8) {i : Int} (h0 : 0 ≤ i) (h1 : i < l.length) : bt (str l) i = ((l[i.toNat]'(by omega)).toNat : Int) := by
  unfold bt
  rw [dif_pos (by rw [str_size]; omega)]
  rfl
theorem str_btD (l : List UInt8) {i : Int} (h0 : 0 ≤ i) (h1 : i < l.length) : bt (str l) i = ((l.getD i.toNat 0).toNat : Int) := by
  rw [str_bt l h0 h1, List.getD_eq_getElem?_getD, List.getElem?_eq_getElem (by omega)]; rfl
theorem bS {α β : Type} (a : α) (f : α → Option β) : (some a).bind f = f a := by have h := Option.bind_some a f; rw [h]
theorem w64 {x : Int} (h : -9223372036854775808 ≤ x) (h' : x ≤ 9223372036854775807) : wrap64 x = x := by unfold wrap64; omega
end Go.Proofs.YtdbgpoileffbeaaDoor.Str
end
section
namespace Go.Proofs.YtdbgpoileffbeaaDoor.Str
open Go.Lib Go.RowKit Go.Proofs.YtdbgpoileffbeaaDoor.Dec Go.Proofs.YtdbgpoileffbeaaDoor.Jt Go.Proofs.YtdbgpoileffbeaaDoor.Val Go.Proofs.YtdbgpoileffbeaaDoor.Pr Go.Proofs.YtdbgpoileffbeaaDoor.Ext Go.Proofs.YtdbgpoileffbeaaDoorW.PrintWords Go.Proofs.YtdbgpoileffbeaaDoorW.PrintLast Go.Proofs.YtdbgpoileffbeaaDoorW.PrintMore
set_option linter.unusedVariables false
set_option linter.unusedSimpArgs false
theorem textS {l : List Int} (hd : Dig l) (hl : l.length ≤ 16) : impl_limbs_text.f l = some (str (textL l)) := by
  unfold impl_limbs_text.f
  rw [if_pos ⟨hd, by omega⟩]; rfl
def bigT (n : Bool) (l : List Int) : List UInt8 := if n = true then 45 :: textL l else textL l
theorem textL_16 {l : List Int} (hd : Dig l) (hl : l.length ≤ 16) : (textL l).length ≤ 65 := by have := textL_len l hd; omega
theorem implBigPut (n : Bool) (l : List Int) : impl_BigPut.f n l = some (str (if okB n l = true then bigT n l else [])) := by
  unfold impl_BigPut.f bigT
  rw [bigOk_f]; simp only [bS]
  by_cases h : okB n l = true
  · obtain ⟨hl, hd, hz, hn⟩ := (okB_iff n l).1 h
    have h65 := textL_16 hd hl
    rw [if_pos h, if_pos h, textS hd hl]; simp only [bS]
    cases n
    · rfl
    · rw [if_pos rfl, if_pos rfl, str_size, if_pos (by omega), show (⟨#[45]⟩ : ByteArray) = str [45] from rfl, str_append]; rfl
  · rw [if_neg h, if_neg h]; rfl
end Go.Proofs.YtdbgpoileffbeaaDoor.Str
end
section
namespace Go.Proofs.YtdbgpoileffbeaaDoor.Str
open Go.Lib Go.RowKit Go.Proofs.YtdbgpoileffbeaaDoor.Dec Go.Proofs.YtdbgpoileffbeaaDoor.Jt Go.Proofs.YtdbgpoileffbeaaDoor.Val Go.Proofs.YtdbgpoileffbeaaDoor.Pr Go.Proofs.YtdbgpoileffbeaaDoor.Ext Go.Proofs.YtdbgpoileffbeaaDoorW.PrintWords Go.Proofs.YtdbgpoileffbeaaDoorW.PrintLast Go.Proofs.YtdbgpoileffbeaaDoorW.PrintMore
set_option linter.unusedVariables false
set_option linter.unusedSimpArgs false
theorem parse_digs : ∀ (l : List UInt8) (a : Nat), Digs l → (a + 1) * 10 ^ l.length ≤ 10 ^ 18 → parseUint10 a l = .ok (dvalA a l)
  | [], a, _, _ => by rw [parseUint10, dvalA_nil]
  | b :: r, a, hd, hb => by
    have h0 := hd.head
    unfold IsD at h0
    rw [List.length_cons, Nat.pow_succ] at hb
    have hp : 1 ≤ 10 ^ r.length := Nat.one_le_pow _ _ (by decide)
    have h1 : (a + 1) * 1 ≤ (a + 1) * 10 ^ r.length := Nat.mul_le_mul_left _ hp
    have h2 : (a + 1) * (10 ^ r.length * 10) = ((a + 1) * 10 ^ r.length) * 10 := (Nat.mul_assoc ..).symm
    rw [h2] at hb
    have e18 : 10 ^ 18 = 1000000000000000000 := by decide
    rw [e18] at hb
    have ha : a + 1 ≤ 100000000000000000 := by omega
    simp only [parseUint10]
    rw [if_pos h0, if_neg (by omega), if_neg (by omega), dvalA_cons]
    refine parse_digs r _ hd.tail ?_
    rw [e18]
    have h3 : (a * 10 + (b.toNat - 48) + 1) * 10 ^ r.length ≤ ((a + 1) * 10) * 10 ^ r.length := Nat.mul_le_mul_right _ (by omega)
    have h4 : ((a + 1) * 10) * 10 ^ r.length = ((a + 1) * 10 ^ r.length) * 10 := by rw [Nat.mul_assoc, Nat.mul_comm 10, ← Nat.mul_assoc]
    omega
theorem atoiAll_digs {l : List UInt8} (hd : Digs l) (h0 : l ≠ []) (hl : l.length ≤ 18) : atoiAll l = .ok (dval l : Int) := by
  cases l with
  | nil => exact absurd rfl h0
  | cons b r =>
    have hb := hd.head
    unfold IsD at hb
    have hp := parse_digs (b :: r) 0 hd (by
      have : 10 ^ (b :: r).length ≤ 10 ^ 18 := Nat.pow_le_pow_right (by decide) hl
      omega)
    have hv : dvalA 0 (b :: r) < 9223372036854775808 := by
      have h1 := dval_lt hd
      have h2 : 10 ^ (b :: r).length ≤ 10 ^ 18 := Nat.pow_le_pow_right (by decide) hl
      have e18 : 10 ^ 18 = 1000000000000000000 := by decide
      unfold dval at h1
      omega
    unfold atoiAll
    simp only
    rw [if_neg (by omega)]
    unfold parseMag
    rw [if_neg (by simp), hp]
    simp only
    rw [if_neg (by omega), if_neg (by omega), if_neg (by omega)]
    rfl
theorem getD_get {l : List UInt8} {i : Nat} (h : i < l.length) : l[i]? = some (l.getD i 0) := by
  rw [List.getD_eq_getElem?_getD, List.getElem?_eq_getElem h]; rfl
theorem digs_take {l : List UInt8} {i : Nat} (h : i < l.length) (hd : Digs (l.take i)) (hb : IsD (l.getD i 0)) : Digs (l.take (i + 1)) := by
  rw [List.take_succ_eq_append_getElem h]
  refine hd.append (fun b hb' => ?_)
  rw [List.mem_singleton.1 hb']
  have := getD_get h
  rw [List.getElem?_eq_getElem h] at this
  rw [Option.some.inj this]; exact hb
theorem isDigits_l0 (l : List UInt8) (hl : l.length ≤ 4000000000) : ∀ (d k i : Nat), i + d = l.length → d < k → Digs (l.take i) → impl_isDigits.l0 k (str l) (l.length : Int) (i : Int) = some (decide (Digs l ∧ l ≠ [])) := by
  intro d
  induction d with
  | zero =>
    intro k i hi hk hD
    obtain ⟨k, rfl⟩ : ∃ j, k = j + 1 := ⟨k - 1, by omega⟩
    have e : i = l.length := by omega
    rw [impl_isDigits.l0, if_neg (by omega), str_toList]
    rw [e, List.take_length] at hD
    congr 1
    by_cases h : l = []
    · subst h; rfl
    · rw [decide_eq_true ⟨hD, h⟩, bne_iff_ne.2 h]
  | succ d ih =>
    intro k i hi hk hD
    obtain ⟨k, rfl⟩ : ∃ j, k = j + 1 := ⟨k - 1, by omega⟩
    have bad : ¬ IsD (l.getD i 0) → decide (Digs l ∧ l ≠ []) = false := fun h => decide_eq_false (fun hn => h (hn.1.get (getD_get (by omega))))
    rw [impl_isDigits.l0, if_pos (by omega), if_pos (by omega), str_size, if_pos (by omega), str_btD l (by omega) (by omega), Int.toNat_natCast]
    by_cases h1 : ((l.getD i 0).toNat : Int) < 48
    · rw [if_pos h1, bad (by unfold IsD; omega)]
    · rw [if_neg h1]
      by_cases h2 : ((l.getD i 0).toNat : Int) > 57
      · rw [if_pos h2, bad (by unfold IsD; omega)]
      · rw [if_neg h2, Str.w64 (by omega) (by omega), show ((i : Int) + 1) = ((i + 1 : Nat) : Int) by omega]
        exact ih k (i + 1) (by omega) (by omega) (digs_take (by omega) hD (by unfold IsD; omega))
theorem isDigits_eq (l : List UInt8) (hl : l.length ≤ 4000000000) (k : Nat) (hk : l.length + 1 ≤ k) : impl_isDigits.f k (str l) = some (decide (Digs l ∧ l ≠ [])) := by
  unfold impl_isDigits.f
  rw [str_size]
  exact isDigits_l0 l hl l.length k 0 (by omega) (by omega) (by rw [List.take_zero]; exact Digs.nil)
theorem isFigures_l0 (l : List UInt8) (hl : l.length ≤ 4000000000) : ∀ (d k i : Nat), i + d = l.length → d < k → Digs (l.take i) → spec_l1IsFigures.l0 k (str l) (i : Int) = some (decide (Digs l ∧ Canon l)) := by
  intro d
  induction d with
  | zero =>
    intro k i hi hk hD
    obtain ⟨k, rfl⟩ : ∃ j, k = j + 1 := ⟨k - 1, by omega⟩
    have e : i = l.length := by omega
    rw [spec_l1IsFigures.l0, str_size, if_neg (by omega)]
    rw [e, List.take_length] at hD
    by_cases h1 : (l.length : Int) = 1
    · rw [if_pos h1, decide_eq_true ⟨hD, .inl (by omega)⟩]
    · rw [if_neg h1]
      by_cases h2 : (l.length : Int) > 1
      · rw [if_pos h2, if_pos (by omega)]
        cases l with
        | nil => simp at h2
        | cons b r =>
          rw [str_btD _ (by omega) (by omega)]
          congr 1
          have hb := UInt8.toNat_lt b
          by_cases h3 : b = 48
          · rw [decide_eq_false (by rintro ⟨_, c | ⟨_, c⟩⟩; · omega
                                    · exact c (by rw [h3]; rfl))]
            subst h3; rfl
          · rw [decide_eq_true ⟨hD, .inr ⟨by omega, fun e => h3 (Option.some.inj e)⟩⟩, bne_iff_ne.2 (fun e => h3 (UInt8.toNat_inj.1 (show b.toNat = (48 : UInt8).toNat by have : (48 : UInt8).toNat = 48 := rfl; have e' : ((b.toNat : Nat) : Int) = 48 := e; omega)))]
      · rw [if_neg h2, decide_eq_false (by rintro ⟨_, c | ⟨c, _⟩⟩ <;> omega)]
  | succ d ih =>
    intro k i hi hk hD
    obtain ⟨k, rfl⟩ : ∃ j, k = j + 1 := ⟨k - 1, by omega⟩
    have bad : ¬ IsD (l.getD i 0) → decide (Digs l ∧ Canon l) = false := fun h => decide_eq_false (fun hn => h (hn.1.get (getD_get (by omega))))
    rw [spec_l1IsFigures.l0, str_size, if_pos (by omega), if_pos (by omega), str_btD l (by omega) (by omega), Int.toNat_natCast]
    by_cases h1 : ((l.getD i 0).toNat : Int) < 48
    · rw [if_pos h1, bad (by unfold IsD; omega)]
    · rw [if_neg h1]
      by_cases h2 : ((l.getD i 0).toNat : Int) > 57
      · rw [if_pos h2, bad (by unfold IsD; omega)]
      · rw [if_neg h2, Str.w64 (by omega) (by omega), show ((i : Int) + 1) = ((i + 1 : Nat) : Int) by omega]
        exact ih k (i + 1) (by omega) (by omega) (digs_take (by omega) hD (by unfold IsD; omega))
theorem isFigures_eq (l : List UInt8) (hl : l.length ≤ 4000000000) (k : Nat) (hk : l.length + 1 ≤ k) : spec_l1IsFigures.f k (str l) = some (decide (Digs l ∧ Canon l)) := by
  unfold spec_l1IsFigures.f
  exact isFigures_l0 l hl l.length k 0 (by omega) (by omega) (by rw [List.take_zero]; exact Digs.nil)
theorem readL_split {s : List UInt8} {m : Nat} (h0 : 0 < m) (hm : m ≤ s.length) : readL (s.take m) = (dval ((s.take m).drop (m - 4)) : Int) :: readL (s.take (m - 4)) := by
  have hne : s.take m ≠ [] := by intro e; have := congrArg List.length e; rw [List.length_take, List.length_nil] at this; omega
  rw [readL_cons hne]
  have hl : (s.take m).length = m := by rw [List.length_take]; omega
  unfold cutL restL
  rw [hl, List.take_take, Nat.min_eq_left (by omega)]
theorem readLimbs_l0 {s : List UInt8} (hs : Digs s) (hl : s.length ≤ 64) : ∀ (d k m : Nat) (acc : List Int), m ≤ s.length → m ≤ d → 2 * d + acc.length + 200 ≤ k → acc.length + d ≤ 150 → impl_readLimbs.l0 k (str s) acc (m : Int) = some (trimL (acc ++ readL (s.take m))) := by
  intro d
  induction d with
  | zero =>
    intro k m acc hm hd hk ha
    obtain rfl : m = 0 := by omega
    obtain ⟨k, rfl⟩ : ∃ j, k = j + 1 := ⟨k - 1, by omega⟩
    rw [impl_readLimbs.l0, if_neg (by omega), List.take_zero, readL_nil, List.append_nil, iTrim_ge acc (by omega) k (by omega)]
    rfl
  | succ d ih =>
    intro k m acc hm hd hk ha
    by_cases h0 : m = 0
    · subst h0
      obtain ⟨k, rfl⟩ : ∃ j, k = j + 1 := ⟨k - 1, by omega⟩
      rw [impl_readLimbs.l0, if_neg (by omega), List.take_zero, readL_nil, List.append_nil, iTrim_ge acc (by omega) k (by omega)]
      rfl
    · obtain ⟨k, rfl⟩ : ∃ j, k = j + 1 := ⟨k - 1, by omega⟩
      have e : mx 0 ((m : Int) - 4) = ((m - 4 : Nat) : Int) := by unfold mx; split <;> omega
      rw [impl_readLimbs.l0, if_pos (by omega), Str.w64 (by omega) (by omega), e, if_pos (by omega), if_pos (by omega), str_size, if_pos (by omega), str_extract, Int.toNat_natCast, Int.toNat_natCast]
      have ec : (s.drop (m - 4)).take (m - (m - 4)) = (s.take m).drop (m - 4) := by rw [List.drop_take]
      have hD : Digs ((s.take m).drop (m - 4)) := (hs.take _).drop _
      have hcl : ((s.take m).drop (m - 4)).length = m - (m - 4) := by rw [List.length_drop, List.length_take]; omega
      have ha2 : lib_Atoi.f (str ((s.take m).drop (m - 4))) = some ((dval ((s.take m).drop (m - 4)) : Int), true) := by
        unfold lib_Atoi.f atoiV
        rw [if_pos (by rw [str_size]; omega), str_data, atoiAll_digs hD (by intro e; rw [e] at hcl; simp at hcl; omega) (by omega)]
      rw [ec, ha2]; simp only [Str.bS]
      rw [if_pos (by omega)]
      by_cases h4 : 4 ≤ m
      · rw [show ((m : Int) - 4) = ((m - 4 : Nat) : Int) by omega, ih k (m - 4) _ (by omega) (by omega) (by simp; omega) (by simp; omega), readL_split (by omega) hm, List.append_assoc]
        rfl
      · obtain ⟨k, rfl⟩ : ∃ j, k = j + 1 := ⟨k - 1, by omega⟩
        rw [impl_readLimbs.l0, if_neg (by omega), iTrim_ge _ (by simp; omega) k (by simp; omega), readL_split (by omega) hm, show m - 4 = 0 by omega, List.take_zero, readL_nil]
        rfl
theorem readLimbs_eq {s : List UInt8} (hs : Digs s) (hl : s.length ≤ 64) (k : Nat) (hk : 400 ≤ k) : impl_readLimbs.f k (str s) = some (rep (dval s : Int)) := by
  unfold impl_readLimbs.f
  rw [str_size, readLimbs_l0 hs hl s.length k s.length [] (Nat.le_refl _) (Nat.le_refl _) (by simp; omega) (by simp; omega), List.nil_append, List.take_length]
  obtain ⟨d1, d2, _⟩ := readL_ok s.length s (Nat.le_refl _) hs
  rw [trimL_rep d1, d2]
theorem fromF_l1 {s : List UInt8} (hD : Digs s) (hl : s.length ≤ 64) (acc : List Int) (ha : acc.length ≤ 200) (x4 : Nat) (h4 : x4 ≤ s.length) (h5 : s.length ≤ x4 + 4) : ∀ (d k i : Nat), i + d = s.length → x4 ≤ i →
    spec_l1FromFigures.l1 (k + d + 1) (str s) acc (x4 : Int) (dval ((s.take i).drop x4) : Int) (i : Int) = spec_l1FromFigures.l0 k (str (s.take x4)) (acc ++ [(dval (s.drop x4) : Int)]) := by
  intro d
  induction d with
  | zero =>
    intro k i hi hx
    have e : i = s.length := by omega
    rw [spec_l1FromFigures.l1, str_size, if_neg (by omega), if_pos (by omega), if_pos (by omega), if_pos (by omega), str_extract, Int.toNat_natCast, List.drop_zero, Nat.sub_zero, e, List.take_length]
  | succ d ih =>
    intro k i hi hx
    have hb : IsD (s.getD i 0) := hD.get (getD_get (by omega))
    have hbb := hb
    unfold IsD at hb
    have hDi : Digs ((s.take i).drop x4) := (hD.take _).drop _
    have hv := dval_lt hDi
    have hlen : ((s.take i).drop x4).length = i - x4 := by rw [List.length_drop, List.length_take]; omega
    rw [hlen] at hv
    have h10 : 10 ^ (i - x4) ≤ 10 ^ 4 := Nat.pow_le_pow_right (by decide) (by omega)
    have e4 : 10 ^ 4 = 10000 := by decide
    rw [show k + (d + 1) + 1 = (k + d + 1) + 1 by omega, spec_l1FromFigures.l1, str_size, if_pos (by omega), if_pos (by omega), str_btD s (by omega) (by omega), Int.toNat_natCast, Str.w64 (x := (dval ((s.take i).drop x4) : Int) * 10) (by omega) (by omega), Str.w64 (x := (i : Int) + 1) (by omega) (by omega), Str.w64 (by omega) (by omega)]
    have e : ((dval ((s.take i).drop x4) : Int) * 10 + (((s.getD i 0).toNat : Int) - 48) % 256) = (dval ((s.take (i + 1)).drop x4) : Int) := by
      have et : (s.take (i + 1)).drop x4 = (s.take i).drop x4 ++ [s.getD i 0] := by
        have hi' : i < s.length := by omega
        rw [List.take_succ_eq_append_getElem hi', List.drop_append_of_le_length (by rw [List.length_take]; omega)]
        congr 2
        have := getD_get hi'
        rw [List.getElem?_eq_getElem hi'] at this
        exact Option.some.inj this
      rw [et, dval_snoc]
      omega
    rw [e, show ((i : Int) + 1) = ((i + 1 : Nat) : Int) from by omega]
    exact ih k (i + 1) (by omega) (by omega)
theorem fromF_l0 : ∀ (n : Nat) (s : List UInt8) (acc : List Int) (k : Nat), s.length ≤ n → Digs s → s.length ≤ 64 → acc.length + s.length ≤ 150 → 8 * s.length + 200 ≤ k → spec_l1FromFigures.l0 k (str s) acc = some (trimL (acc ++ readL s)) := by
  intro n
  induction n with
  | zero =>
    intro s acc k hn hD hl ha hk
    obtain rfl : s = [] := List.eq_nil_of_length_eq_zero (by omega)
    obtain ⟨k, rfl⟩ : ∃ j, k = j + 1 := ⟨k - 1, by omega⟩
    rw [spec_l1FromFigures.l0, str_size, if_neg (by simp), readL_nil, List.append_nil, sTrim_ge acc (by omega) k (by omega)]
    rfl
  | succ n ih =>
    intro s acc k hn hD hl ha hk
    by_cases h0 : s = []
    · subst h0
      obtain ⟨k, rfl⟩ : ∃ j, k = j + 1 := ⟨k - 1, by omega⟩
      rw [spec_l1FromFigures.l0, str_size, if_neg (by simp), readL_nil, List.append_nil, sTrim_ge acc (by omega) k (by omega)]
      rfl
    · have hpos : 0 < s.length := List.length_pos_iff.2 h0
      obtain ⟨k, rfl⟩ : ∃ j, k = j + 2 := ⟨k - 2, by omega⟩
      have hj : spec_l1FromFigures.l0 (k + 2) (str s) acc = spec_l1FromFigures.l1 k (str s) acc ((s.length - 4 : Nat) : Int) 0 ((s.length - 4 : Nat) : Int) := by
        rw [spec_l1FromFigures.l0, str_size, if_pos (by omega), Str.w64 (by omega) (by omega)]
        by_cases h4 : (s.length : Int) - 4 < 0
        · rw [if_pos h4, spec_l1FromFigures.j1, show ((s.length - 4 : Nat) : Int) = 0 by omega]
        · rw [if_neg h4, spec_l1FromFigures.j1, show ((s.length - 4 : Nat) : Int) = (s.length : Int) - 4 by omega]
      have h1 := fromF_l1 hD hl acc (by omega) (s.length - 4) (by omega) (by omega) (s.length - (s.length - 4)) (k - (s.length - (s.length - 4)) - 1) (s.length - 4) (by omega) (Nat.le_refl _)
      rw [List.drop_take, Nat.sub_self, List.take_zero, dval_nil, show k - (s.length - (s.length - 4)) - 1 + (s.length - (s.length - 4)) + 1 = k by omega] at h1
      rw [hj]
      refine Eq.trans h1 ?_
      have hl4 : (s.take (s.length - 4)).length = s.length - 4 := by rw [List.length_take]; omega
      rw [ih (s.take (s.length - 4)) _ _ (by omega) (hD.take _) (by omega) (by simp; omega) (by omega), readL_cons h0, List.append_assoc]
      rfl
theorem fromF_eq {s : List UInt8} (hs : Digs s) (hl : s.length ≤ 64) (k : Nat) (hk : 800 ≤ k) : spec_l1FromFigures.f k (str s) = some (rep (dval s : Int)) := by
  unfold spec_l1FromFigures.f
  rw [fromF_l0 s.length s [] k (Nat.le_refl _) hs hl (by simp; omega) (by omega), List.nil_append]
  obtain ⟨d1, d2, _⟩ := readL_ok s.length s (Nat.le_refl _) hs
  rw [trimL_rep d1, d2]
def IsBig (s : List UInt8) (n : Bool) (l : List Int) : Prop := BOk n l ∧ s = bigT n l
def ToldB (s : List UInt8) (r : Bool × List Int × Bool) : Prop := (r.2.2 = true ∧ IsBig s r.1 r.2.1) ∨ (r = (false, [], false) ∧ ∀ n l, ¬ IsBig s n l)
theorem ten64 : ((10 ^ 64 : Nat) : Int) = pw 16 := by decide
theorem textL_of {n : Bool} {l : List Int} (h : BOk n l) : textL l = decDigits (val l).toNat := textL_eq l h.2.1 h.2.2.1
theorem val_of_ok {n : Bool} {l : List Int} (h : BOk n l) : 0 ≤ val l ∧ val l < pw 16 := ⟨val_nonneg h.2.1, Int.lt_of_lt_of_le (val_lt h.2.1) (pw_mono h.1)⟩
theorem textL_64 {n : Bool} {l : List Int} (h : BOk n l) : (textL l).length ≤ 64 := by
  obtain ⟨h0, h1⟩ := val_of_ok h
  rw [textL_of h]
  refine decDigits_len_le (by decide) ?_
  have := ten64
  omega
theorem textL_head {l : List Int} : (textL l).head? ≠ some 45 := by
  intro e
  cases h : textL l with
  | nil => rw [h] at e; cases e
  | cons b r =>
    rw [h] at e
    have hb := textL_digs l b (by rw [h]; simp)
    have : b = 45 := Option.some.inj e
    subst this
    exact absurd hb (by decide)
theorem sign_parts (s : List UInt8) : ∃ (g : Bool) (d : List UInt8), s = (if g = true then 45 :: d else d) ∧ (g = false → d.head? ≠ some 45) ∧ trimPrefix s [45] = d ∧ hasPrefix s [45] = g := by
  cases s with
  | nil => exact ⟨false, [], rfl, fun _ => by simp, rfl, rfl⟩
  | cons b r =>
    by_cases h : b = 45
    · subst h
      exact ⟨true, r, rfl, (fun h => absurd h (by decide)), (by unfold trimPrefix hasPrefix; simp), (by unfold hasPrefix; simp)⟩
    · have hp : hasPrefix (b :: r) [45] = false := by
        unfold hasPrefix
        rw [List.isPrefixOf_cons_cons, beq_eq_false_iff_ne.2 (fun e => h e.symm), Bool.false_and]
      exact ⟨false, b :: r, rfl, fun _ e => h (Option.some.inj e), by unfold trimPrefix; rw [hp]; rfl, hp⟩
theorem parts_of {g : Bool} {d : List UInt8} (hg : g = false → d.head? ≠ some 45) {n : Bool} {l : List Int} (h : IsBig (if g = true then 45 :: d else d) n l) : g = n ∧ d = textL l := by
  obtain ⟨ho, e⟩ := h
  unfold bigT at e
  cases g <;> cases n
  · exact ⟨rfl, by simpa using e⟩
  · rw [if_neg (by decide), if_pos rfl] at e
    exact absurd (by rw [e]; rfl) (hg rfl)
  · rw [if_pos rfl, if_neg (by decide)] at e
    exact absurd (by rw [← e]; rfl) (textL_head (l := l))
  · rw [if_pos rfl, if_pos rfl] at e
    exact ⟨rfl, (List.cons.inj e).2⟩
theorem dval_64 {d : List UInt8} (hd : Digs d) (hl : d.length ≤ 64) : (dval d : Int) < pw 16 := by
  have h := dval_lt hd
  have h2 : 10 ^ d.length ≤ 10 ^ 64 := Nat.pow_le_pow_right (by decide) hl
  have := ten64
  omega
theorem bigv_rep (g : Bool) {v : Int} (h : 0 ≤ v) : bigv g (rep v) = if g = true then -v else v := by unfold bigv; rw [rep_val h]
theorem bigR_yes {x : Int} (h1 : -pw 16 < x) (h2 : x < pw 16) : bigR x = (mkN x, mkL x, true) := by unfold bigR; rw [if_pos ⟨h1, h2⟩]
theorem read_of {g : Bool} {d : List UInt8} {n : Bool} {l : List Int} (hgn : g = n) (ho : BOk n l) (hd : d = textL l) : bigv g (rep (dval d : Int)) = bigv n l := by
  subst hgn
  obtain ⟨h0, h1⟩ := val_of_ok ho
  rw [bigv_rep g (by omega), hd, textL_of ho, decDigits_dval, Int.toNat_of_nonneg h0]
  rfl
theorem implBigGet (s : List UInt8) (hs : s.length ≤ 2000000000) : ∃ r, (∀ k, s.length + 2000 ≤ k → impl_BigGet.f k (str s) = some r) ∧ ToldB s r := by
  obtain ⟨g, d, es, hg, tp, hp⟩ := sign_parts s
  have hdl : d.length ≤ s.length := by rw [es]; split <;> simp
  have hcut : lib_CutPrefix.f (str s) (⟨#[45]⟩ : ByteArray) = some (str d, g) := by
    unfold lib_CutPrefix.f
    rw [show (⟨#[45]⟩ : ByteArray) = str [45] from rfl, str_data, str_data, tp, hp]
    rfl
  have yes : ∀ n l, IsBig s n l → g = n ∧ d = textL l := fun n l h => parts_of hg (es ▸ h)
  by_cases hD : Digs d ∧ d ≠ []
  · by_cases hl : d.length ≤ 64
    · have hv := dval_64 hD.1 hl
      have hx : -pw 16 < bigv g (rep (dval d : Int)) ∧ bigv g (rep (dval d : Int)) < pw 16 := by
        rw [bigv_rep g (by omega)]
        split <;> omega
      have hmk := mk_ok hx.1 hx.2
      have hok : okB (mkN (bigv g (rep (dval d : Int)))) (mkL (bigv g (rep (dval d : Int)))) = true := (okB_iff _ _).2 hmk
      by_cases he : bigT (mkN (bigv g (rep (dval d : Int)))) (mkL (bigv g (rep (dval d : Int)))) = s
      · refine ⟨(mkN (bigv g (rep (dval d : Int))), mkL (bigv g (rep (dval d : Int))), true), fun k hk => ?_, .inl ⟨rfl, hmk, he.symm⟩⟩
        obtain ⟨k, rfl⟩ : ∃ j, k = j + 1 := ⟨k - 1, by omega⟩
        unfold impl_BigGet.f
        rw [hcut]; simp only [Str.bS]
        rw [isDigits_eq d (by omega) _ (by omega), decide_eq_true hD]; simp only [Str.bS]
        rw [if_pos trivial, impl_BigGet.j0, str_size, if_neg (by simp; omega), readLimbs_eq hD.1 hl k (by omega)]; simp only [Str.bS]
        rw [big_ge (rep_dig _) (by have := rep_len_le (v := (dval d : Int)) (by omega) hv; omega) g k (by omega), bigR_yes hx.1 hx.2]; simp only [Str.bS]
        rw [if_pos trivial, implBigPut, if_pos hok]; simp only [Str.bS]
        rw [str_toList, str_toList, if_pos he]
      · have no : ∀ n l, ¬ IsBig s n l := by
          intro n l h
          obtain ⟨e1, e2⟩ := yes n l h
          have ev := read_of e1 h.1 e2
          have hr := bigR_ok h.1
          rw [← ev, bigR_yes hx.1 hx.2] at hr
          have h1 := (Prod.mk.inj hr).1
          have h2 := (Prod.mk.inj (Prod.mk.inj hr).2).1
          exact he (by rw [h1, h2]; exact h.2.symm)
        refine ⟨(false, [], false), fun k hk => ?_, .inr ⟨rfl, no⟩⟩
        obtain ⟨k, rfl⟩ : ∃ j, k = j + 1 := ⟨k - 1, by omega⟩
        unfold impl_BigGet.f
        rw [hcut]; simp only [Str.bS]
        rw [isDigits_eq d (by omega) _ (by omega), decide_eq_true hD]; simp only [Str.bS]
        rw [if_pos trivial, impl_BigGet.j0, str_size, if_neg (by simp; omega), readLimbs_eq hD.1 hl k (by omega)]; simp only [Str.bS]
        rw [big_ge (rep_dig _) (by have := rep_len_le (v := (dval d : Int)) (by omega) hv; omega) g k (by omega), bigR_yes hx.1 hx.2]; simp only [Str.bS]
        rw [if_pos trivial, implBigPut, if_pos hok]; simp only [Str.bS]
        rw [str_toList, str_toList, if_neg he]
    · refine ⟨(false, [], false), fun k hk => ?_, .inr ⟨rfl, fun n l h => ?_⟩⟩
      · obtain ⟨k, rfl⟩ : ∃ j, k = j + 1 := ⟨k - 1, by omega⟩
        unfold impl_BigGet.f
        rw [hcut]; simp only [Str.bS]
        rw [isDigits_eq d (by omega) _ (by omega), decide_eq_true hD]; simp only [Str.bS]
        rw [if_pos trivial, impl_BigGet.j0, str_size, if_pos (by simp; omega)]
      · obtain ⟨_, e2⟩ := yes n l h
        have := textL_64 h.1
        rw [← e2] at this
        exact hl this
  · refine ⟨(false, [], false), fun k hk => ?_, .inr ⟨rfl, fun n l h => ?_⟩⟩
    · obtain ⟨k, rfl⟩ : ∃ j, k = j + 1 := ⟨k - 1, by omega⟩
      unfold impl_BigGet.f
      rw [hcut]; simp only [Str.bS]
      rw [isDigits_eq d (by omega) _ (by omega), decide_eq_false hD]; simp only [Str.bS]
      rw [if_neg (by decide), impl_BigGet.j0, if_pos rfl]
    · obtain ⟨_, e2⟩ := yes n l h
      exact hD (e2 ▸ ⟨textL_digs l, textL_ne l⟩)
theorem canon_zero {d : List UInt8} (hd : Digs d) (hc : Canon d) (h : dval d = 0) : d = [48] := by
  have e := decDigits_of hd hc
  rw [h, decDigits, dif_pos (by decide)] at e
  exact e.symm
theorem bt45 {b : UInt8} {r : List UInt8} : ((bt (str (b :: r)) 0) == 45) = decide (b = 45) := by
  rw [str_btD _ (by omega) (by simp)]
  have hb := UInt8.toNat_lt b
  by_cases h : b = 45
  · subst h; rfl
  · rw [decide_eq_false h, beq_eq_false_iff_ne]
    intro e
    have e' : ((b.toNat : Nat) : Int) = 45 := e
    exact h (UInt8.toNat_inj.1 (show b.toNat = (45 : UInt8).toNat by have : (45 : UInt8).toNat = 45 := rfl; omega))
theorem spec_to_j1 (s : List UInt8) {g : Bool} {d : List UInt8} (es : s = if g = true then 45 :: d else d) (hg : g = false → d.head? ≠ some 45) (k : Nat) : spec_BigGet.f (k + 1) (str s) = spec_BigGet.j1 k (str d) g := by
  unfold spec_BigGet.f
  rw [str_size]
  cases g
  · rw [if_neg (by decide)] at es
    subst es
    cases s with
    | nil => rw [if_neg (by simp), spec_BigGet.j0, if_neg (by decide)]
    | cons b r =>
      have hb : b ≠ 45 := fun e => hg rfl (by rw [e]; rfl)
      rw [if_pos (by simp), if_pos (by simp), bt45, decide_eq_false hb, spec_BigGet.j0, if_neg (by decide)]
  · rw [if_pos rfl] at es
    subst es
    rw [if_pos (by simp), if_pos (by simp), bt45, decide_eq_true rfl, spec_BigGet.j0, if_pos rfl, str_size, if_pos (by simp; omega), str_extract]
    simp
theorem specBigGet (s : List UInt8) (hs : s.length ≤ 2000000000) : ∃ r, (∀ k, s.length + 2000 ≤ k → spec_BigGet.f k (str s) = some r) ∧ ToldB s r := by
  obtain ⟨g, d, es, hg, tp, hp⟩ := sign_parts s
  have hdl : d.length ≤ s.length := by rw [es]; split <;> simp
  have yes : ∀ n l, IsBig s n l → g = n ∧ d = textL l := fun n l h => parts_of hg (es ▸ h)
  by_cases hD : Digs d ∧ Canon d
  · by_cases hl : d.length ≤ 64
    · by_cases hz : g = true ∧ d = [48]
      · refine ⟨(false, [], false), fun k hk => ?_, .inr ⟨rfl, fun n l h => ?_⟩⟩
        · obtain ⟨k, rfl⟩ : ∃ j, k = j + 3 := ⟨k - 3, by omega⟩
          rw [spec_to_j1 s es hg, spec_BigGet.j1, isFigures_eq d (by omega) _ (by omega), decide_eq_true hD]; simp only [Str.bS]
          rw [if_pos trivial, str_size, if_neg (by omega), if_pos hz.1, str_toList, hz.2, spec_BigGet.j2, if_pos (by decide)]
        · obtain ⟨e1, e2⟩ := yes n l h
          have hn : n = true := e1 ▸ hz.1
          have hpos := nz_pos h.1.2.1 h.1.2.2.1 (h.1.2.2.2 hn)
          have hd := decDigits_dval (val l).toNat
          rw [← textL_of h.1, ← e2, hz.2] at hd
          have : dval [48] = 0 := rfl
          omega
      · have hv := dval_64 hD.1 hl
        have hx : -pw 16 < bigv g (rep (dval d : Int)) ∧ bigv g (rep (dval d : Int)) < pw 16 := by
          rw [bigv_rep g (by omega)]
          split <;> omega
        have hmk := mk_ok hx.1 hx.2
        have hbig : s = bigT (mkN (bigv g (rep (dval d : Int)))) (mkL (bigv g (rep (dval d : Int)))) := by
          have ht : textL (rep (dval d : Int)) = d := by
            rw [textL_eq _ (rep_dig _) (rep_nz _), rep_val (by omega), Int.toNat_natCast, decDigits_of hD.1 hD.2]
          rw [bigv_rep g (by omega)]
          unfold bigT mkN mkL
          cases g
          · rw [if_neg (by decide)] at es
            simp only [Bool.false_eq_true, if_false]
            rw [decide_eq_false (by omega), if_neg (by decide), if_neg (by omega), ht]
            exact es
          · rw [if_pos rfl] at es
            have hne : dval d ≠ 0 := fun e => hz ⟨rfl, canon_zero hD.1 hD.2 e⟩
            simp only [if_true]
            rw [decide_eq_true (by omega), if_pos rfl, if_pos (by omega), Int.neg_neg, ht]
            exact es
        refine ⟨(mkN (bigv g (rep (dval d : Int))), mkL (bigv g (rep (dval d : Int))), true), fun k hk => ?_, .inl ⟨rfl, hmk, hbig⟩⟩
        obtain ⟨k, rfl⟩ : ∃ j, k = j + 3 := ⟨k - 3, by omega⟩
        have j2 : spec_BigGet.j2 (k + 1) (str d) g false = some (mkN (bigv g (rep (dval d : Int))), mkL (bigv g (rep (dval d : Int))), true) := by
          rw [spec_BigGet.j2, if_neg (by decide), fromF_eq hD.1 hl k (by omega)]; simp only [Str.bS]
          rw [l1Big_ge (rep_dig _) (by have := rep_len_le (v := (dval d : Int)) (by omega) hv; omega) g k (by omega), bigR_yes hx.1 hx.2]; simp only [Str.bS]
        rw [spec_to_j1 s es hg, spec_BigGet.j1, isFigures_eq d (by omega) _ (by omega), decide_eq_true hD]; simp only [Str.bS]
        rw [if_pos trivial, str_size, if_neg (by omega)]
        by_cases hgt : g = true
        · have hd48 : d ≠ [48] := fun e => hz ⟨hgt, e⟩
          rw [if_pos hgt, str_toList, beq_eq_false_iff_ne.2 hd48]
          exact j2
        · rw [if_neg hgt]
          exact j2
    · refine ⟨(false, [], false), fun k hk => ?_, .inr ⟨rfl, fun n l h => ?_⟩⟩
      · obtain ⟨k, rfl⟩ : ∃ j, k = j + 3 := ⟨k - 3, by omega⟩
        rw [spec_to_j1 s es hg, spec_BigGet.j1, isFigures_eq d (by omega) _ (by omega), decide_eq_true hD]; simp only [Str.bS]
        rw [if_pos trivial, str_size, if_pos (by omega), spec_BigGet.j2, if_pos rfl]
      · obtain ⟨_, e2⟩ := yes n l h
        have := textL_64 h.1
        rw [← e2] at this
        exact hl this
  · refine ⟨(false, [], false), fun k hk => ?_, .inr ⟨rfl, fun n l h => ?_⟩⟩
    · obtain ⟨k, rfl⟩ : ∃ j, k = j + 3 := ⟨k - 3, by omega⟩
      rw [spec_to_j1 s es hg, spec_BigGet.j1, isFigures_eq d (by omega) _ (by omega), decide_eq_false hD]; simp only [Str.bS]
      rw [if_neg (by decide), spec_BigGet.j2, if_pos rfl]
    · obtain ⟨_, e2⟩ := yes n l h
      exact hD (e2 ▸ ⟨textL_digs l, by rw [textL_of h.1]; exact decDigits_canon _⟩)
theorem IsBig.uniq {s : List UInt8} {n n' : Bool} {l l' : List Int} (h : IsBig s n l) (h' : IsBig s n' l') : n = n' ∧ l = l' := by
  obtain ⟨g, d, es, hg, _, _⟩ := sign_parts s
  obtain ⟨a1, a2⟩ := parts_of hg (es ▸ h)
  obtain ⟨b1, b2⟩ := parts_of hg (es ▸ h')
  have r1 := read_of a1 h.1 a2
  have r2 := read_of b1 h'.1 b2
  have q1 := bigR_ok h.1
  have q2 := bigR_ok h'.1
  rw [← r1] at q1
  rw [← r2, q1] at q2
  exact ⟨(Prod.mk.inj q2).1, (Prod.mk.inj (Prod.mk.inj q2).2).1⟩
theorem ToldB.uniq {s : List UInt8} {r r' : Bool × List Int × Bool} (h : ToldB s r) (h' : ToldB s r') : r = r' := by
  obtain ⟨a, b, c⟩ := r
  obtain ⟨a', b', c'⟩ := r'
  rcases h with ⟨h1, h2⟩ | ⟨h1, h2⟩ <;> rcases h' with ⟨h1', h2'⟩ | ⟨h1', h2'⟩
  · obtain ⟨e1, e2⟩ := h2.uniq h2'
    simp only at *
    rw [e1, e2, h1, h1']
  · exact absurd h2 (h2' _ _)
  · exact absurd h2' (h2 _ _)
  · rw [h1, h1']
end Go.Proofs.YtdbgpoileffbeaaDoor.Str
end
section
namespace Go.Proofs.YtdbgpoileffbeaaDoor.Pure
open Go.RowKit Go.Proofs.YtdbgpoileffbeaaDoor.Pr Go.Proofs.YtdbgpoileffbeaaDoor.Pw Go.Proofs.YtdbgpoileffbeaaDoor.Ext Go.Proofs.YtdbgpoileffbeaaDoor.Jt Go.Proofs.YtdbgpoileffbeaaDoor.Val Go.Proofs.YtdbgpoileffbeaaDoor.Str Go.Proofs.YtdbgpoileffbeaaDoorW.PrintWords Go.Proofs.YtdbgpoileffbeaaDoorW.PrintLast Go.Proofs.YtdbgpoileffbeaaDoorW.PrintMore
set_option linter.unusedVariables false
set_option linter.unusedSimpArgs false
theorem toldB_len {s : List UInt8} {r : Bool × List Int × Bool} (h : ToldB s r) : r.2.1.length ≤ 16 := by
  rcases h with ⟨_, h, _⟩ | ⟨rfl, _⟩
  · exact h.1
  · simp
theorem FnExactBigGet (s : ByteArray) : ∃ k, laws_FnExactBigGet.f k s = some true := by
  rw [str_eta s]
  generalize s.data.toList = l
  refine ⟨l.length + 9000, ?_⟩
  unfold laws_FnExactBigGet.f
  rw [str_size]
  by_cases h : (l.length : Int) > 1048576
  · rw [if_pos h]
  · rw [if_neg h]
    obtain ⟨r, h1, t1⟩ := implBigGet l (by omega)
    obtain ⟨r', h2, t2⟩ := specBigGet l (by omega)
    obtain rfl := t1.uniq t2
    have hx := toldB_len t1
    obtain ⟨p, hp, p2, p3⟩ := Mk.mark_ge r.1 r.2.1 (by omega) 1 (by omega) (by omega)
    have h0 : ¬ (1 + (r.2.1.length : Int) < 0) := by omega
    rw [h2 _ (by omega)]; simp only [Str.bS]
    rw [h1 _ (by omega)]; simp only [Str.bS]
    rw [eqBig_ge _ (by omega) _ (by omega)]; simp only [Str.bS]
    rw [if_pos trivial, if_neg (by simp), hp _ (by omega)]; simp only [Str.bS]
    rw [p3 _ _ (by omega)]; simp only [Str.bS]
    simp only [if_neg h0, if_true]
    simp
end Go.Proofs.YtdbgpoileffbeaaDoor.Pure
end
section
namespace Go.Proofs.YtdbgpoileffbeaaDoor.LaidE
open Go Go.RowKit Go.Proofs.YtdbgpoileffbeaaDoor.Ext
set_option linter.unusedVariables false
theorem powType : (Tryd.prog.globals[3]?).map (·.type) = some 138 := by kernel_rfl
theorem powData : (Rows.laid_internal_strconv_uint64pow10 : DataW Unit) = Lib.tabData .u64 Lib.pow10Tab := rfl
theorem envI_of {r : List (String × DataW Unit)} {W : World} (h : laidMet Tryd.prog (("internal/strconv.uint64pow10", Rows.laid_internal_strconv_uint64pow10) :: r) W) : EnvI W :=
  Lib.tabIs_of_head gPow powType Tryd.underlying138 Tryd.underlying112 (by kernel_rfl) (by kernel_rfl) (powData ▸ h)
theorem sized_str {H : Type} {P : Program} {ts : List TypeId} {ds : List (DataW H)} (j : Nat) (hsz : (DataW.weightsEach P ts ds).all (· ≤ reachBytes) = true) {t : TypeId} {s : ByteArray} (ht : ts[j]? = some t) (hd : ds[j]? = some (.lit (.string s.data.toList))) : s.size ≤ 140737488351232 := by
  have h1 := sized_string hsz (j := j) (t := t) ht hd
  rw [Array.length_toList] at h1
  exact h1
theorem star : "*" ++ "errors.errorString" = "*errors.errorString" := by decide
theorem rowErr (u : TypeId) (h : Tryd.prog.typeName? 3 u = some "*errors.errorString") : u = 142 :=
  typeName_ptr_named (nm := "errors.errorString") (by rw [star]; kernel_rfl) (by kernel_rfl) (by decide) u (by rw [star]; exact h)
theorem gSyn : Tryd.prog.globalNamed "strconv.ErrSyntax" = some 1 := by kernel_rfl
theorem gRan : Tryd.prog.globalNamed "strconv.ErrRange" = some 2 := by kernel_rfl
theorem gSynType : (Tryd.prog.globals[1]?).map (·.type) = some 91 := by kernel_rfl
theorem gRanType : (Tryd.prog.globals[2]?).map (·.type) = some 91 := by kernel_rfl
theorem cellsE : Tryd.prog.cellsOf 144 = 1 := by kernel_rfl
theorem cellsS : Tryd.prog.cellsOf 9 = 1 := by kernel_rfl
theorem syn_of {r : List (String × DataW Unit)} {W : World} (h : laidMet Tryd.prog (("strconv.ErrSyntax", Rows.laid_strconv_ErrSyntax) :: r) W) : HoldsErr 1 W := by
  obtain ⟨a0, s0, hv0, -, -, -⟩ := laid_sentinel h gSyn gSynType Tryd.underlying91 rowErr Tryd.underlying142 Tryd.underlying144 rfl rfl Tryd.underlying9 cellsE cellsS
  exact ⟨_, by simpa using World.var?_cell gSyn hv0 0, .inr ⟨_, _, rfl⟩⟩
theorem ran_of {r : List (String × DataW Unit)} {W : World} (h : laidMet Tryd.prog (("strconv.ErrRange", Rows.laid_strconv_ErrRange) :: r) W) : HoldsErr 2 W := by
  obtain ⟨a0, s0, hv0, -, -, -⟩ := laid_sentinel h gRan gRanType Tryd.underlying91 rowErr Tryd.underlying142 Tryd.underlying144 rfl rfl Tryd.underlying9 cellsE cellsS
  exact ⟨_, by simpa using World.var?_cell gRan hv0 0, .inr ⟨_, _, rfl⟩⟩
theorem len_of {W : World} (h : W.ShapedOpen Tryd.prog) : ∃ m, W.cell? ⟨0, 0, none⟩ = some (.int .i64 m) :=
  cell_of_shapedOpen_int h (of_decide_eq_true (by kernel_rfl)) (t := 3) (zero := #[.int .i64 0]) (by kernel_rfl) rfl (by kernel_rfl) (by kernel_rfl) Tryd.underlying3
end Go.Proofs.YtdbgpoileffbeaaDoor.LaidE
end
