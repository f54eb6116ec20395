/- For every int a: the program's TruthNot returns what the reference's returns. No condition. -/
import Derived.Test.YtaifkjenoebgiaaPFnExactTruthNotx1
namespace Go.Proofs.Ytaifkjenoebgiaa.Pure
open Go.RowKit Go.Proofs.Ytaifkjenoebgiaa.PFnExactTruthNot Go.Proofs.YtaifkjenoebgiaaW.PrintWords Go.Proofs.YtaifkjenoebgiaaW.PrintLast
set_option linter.unusedVariables false
set_option linter.unusedSimpArgs false
namespace BFnExactTruthNot

end BFnExactTruthNot
open BFnExactTruthNot
theorem FnExactTruthNot : laws_FnExactTruthNot.Pure := by
  intro a _
  rcases (show a < 0 ∨ a = 0 ∨ a = 1 ∨ a = 2 ∨ 2 < a by omega) with h | rfl | rfl | rfl | h
  · have h0 : ¬ a ≥ 0 := by omega
    have e0 : ¬ a = 0 := by omega
    have e1 : ¬ a = 1 := by omega
    have e2 : ¬ a = 2 := by omega
    simp [laws_FnExactTruthNot.f, spec_TruthNot.f, impl_TruthNot.f, spec_l4Truth.f, spec_l1In.f, h0, e0, e1, e2]
  · decide +kernel
  · decide +kernel
  · decide +kernel
  · have h0 : a ≥ 0 := by omega
    have h2 : ¬ a ≤ 2 := by omega
    have e0 : ¬ a = 0 := by omega
    have e1 : ¬ a = 1 := by omega
    have e2 : ¬ a = 2 := by omega
    simp [laws_FnExactTruthNot.f, spec_TruthNot.f, impl_TruthNot.f, spec_l4Truth.f, spec_l1In.f, h0, h2, e0, e1, e2]
end Go.Proofs.Ytaifkjenoebgiaa.Pure
