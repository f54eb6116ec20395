/- For every type: the program's TypeOk returns what the reference's returns (the pure side). -/
import Derived.Test.YtaifkjenoebgiaaPFnExactTypeOkx1
namespace Go.Proofs.Ytaifkjenoebgiaa.Pure
open Go.RowKit Go.Proofs.Ytaifkjenoebgiaa.PFnExactTypeOk Go.Proofs.YtaifkjenoebgiaaW.PrintWords Go.Proofs.YtaifkjenoebgiaaW.PrintMore
theorem FnExactTypeOk (a b c : Int) : laws_FnExactTypeOk.f a b c = some true := by
  unfold laws_FnExactTypeOk.f laws_toType.f spec_TypeOk.f spec_l4TypeOk.f impl_TypeOk.f spec_l1In.f impl_in.f
  by_cases h0 : a = 2
  · by_cases h1 : b ≥ 1 <;> by_cases h2 : b ≤ 30 <;> by_cases h3 : c ≥ 0 <;> simp [h0, h1, h2, h3]
    have e : decide (c ≤ mn 12 b) = (if c ≤ 12 then decide (c ≤ b) else false) := by
      unfold mn
      by_cases h5 : c ≤ 12 <;> by_cases h6 : c ≤ b <;> by_cases h7 : b < 12 <;> simp [h5, h6, h7] <;> omega
    rw [e]
    by_cases h5 : c ≤ 12 <;> simp [h5]
  · by_cases h1 : a ≥ 1 <;> by_cases h2 : a ≤ 5 <;> simp [h0, h1, h2]
    by_cases h3 : b = 0 <;> simp [h3]
end Go.Proofs.Ytaifkjenoebgiaa.Pure
