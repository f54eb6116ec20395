/- For all ints a, b: the program's TruthOr returns what the reference's returns. No condition. -/
import Derived.Test.YtaifkjenoebgiaaPFnExactTruthOrx1
namespace Go.Proofs.Ytaifkjenoebgiaa.Pure
open Go.RowKit Go.Proofs.Ytaifkjenoebgiaa.PFnExactTruthOr Go.Proofs.YtaifkjenoebgiaaW.PrintWords Go.Proofs.YtaifkjenoebgiaaW.PrintLast
set_option linter.unusedVariables false
set_option linter.unusedSimpArgs false
namespace BFnExactTruthOr
theorem isT_out {a : Int} (h : a < 0 ∨ 2 < a) : impl_isTruth.f a = some false ∧ spec_l4Truth.f a = some false := by
  unfold impl_isTruth.f spec_l4Truth.f impl_in.f spec_l1In.f
  by_cases h0 : a ≥ 0
  · have h2 : ¬ a ≤ 2 := by omega
    simp [h0, h2]
  · simp [h0]
theorem isT_in {a : Int} (h0 : 0 ≤ a) (h2 : a ≤ 2) : impl_isTruth.f a = some true ∧ spec_l4Truth.f a = some true := by
  unfold impl_isTruth.f spec_l4Truth.f impl_in.f spec_l1In.f
  have h0' : a ≥ 0 := h0
  simp [h0', h2]
theorem three (a : Int) : (a < 0 ∨ 2 < a) ∨ a = 0 ∨ a = 1 ∨ a = 2 := by omega
end BFnExactTruthOr
open BFnExactTruthOr
theorem FnExactTruthOr : laws_FnExactTruthOr.Pure := by
  intro a b _ _
  refine ⟨5, ?_⟩
  rcases three a with h | h
  · simp [laws_FnExactTruthOr.f, spec_TruthOr.f, impl_TruthOr.f, (isT_out h).1, (isT_out h).2, spec_TruthOr.j0, impl_TruthOr.j0]
  · rcases three b with h' | h'
    · have ha := isT_in (a := a) (by omega) (by omega)
      simp [laws_FnExactTruthOr.f, spec_TruthOr.f, impl_TruthOr.f, ha.1, ha.2, (isT_out h').1, (isT_out h').2, spec_TruthOr.j0, impl_TruthOr.j0]
    · rcases h with rfl | rfl | rfl <;> rcases h' with rfl | rfl | rfl <;> decide +kernel
end Go.Proofs.Ytaifkjenoebgiaa.Pure
