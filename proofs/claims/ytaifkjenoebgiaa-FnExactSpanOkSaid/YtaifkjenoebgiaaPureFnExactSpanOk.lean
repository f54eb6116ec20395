/- For every span: the program's SpanOk returns what the reference's returns (the pure side). -/
import Derived.Test.YtaifkjenoebgiaaPFnExactSpanOkx1
namespace Go.Proofs.Ytaifkjenoebgiaa.Pure
open Go.RowKit Go.Proofs.Ytaifkjenoebgiaa.PFnExactSpanOk
theorem FnExactSpanOk (a b : Int) : laws_FnExactSpanOk.f a b = some true := by
  unfold laws_FnExactSpanOk.f laws_toSpan.f spec_SpanOk.f spec_l3SpanOk.f impl_SpanOk.f spec_l1In.f impl_in.f
  by_cases h1 : a ≥ -120000 <;> by_cases h2 : a ≤ 120000 <;> by_cases h3 : b ≥ -4000000 <;> by_cases h4 : b ≤ 4000000 <;> simp [h1, h2, h3, h4]
end Go.Proofs.Ytaifkjenoebgiaa.Pure
