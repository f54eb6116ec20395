/- For every int n: the program's DayWeek returns what the reference's returns. No condition. -/
import Derived.Test.YtaifkjenoebgiaaPFnExactDayWeekx1
namespace Go.Proofs.Ytaifkjenoebgiaa.Pure
open Go.RowKit Go.Proofs.Ytaifkjenoebgiaa.PFnExactDayWeek Go.Proofs.YtaifkjenoebgiaaW.PrintWords Go.Proofs.YtaifkjenoebgiaaW.PrintLast
set_option linter.unusedVariables false
set_option linter.unusedSimpArgs false
namespace BFnExactDayWeek

end BFnExactDayWeek
open BFnExactDayWeek
theorem FnExactDayWeek : laws_FnExactDayWeek.Pure := by
  intro a _
  unfold laws_FnExactDayWeek.f spec_DayWeek.f impl_DayWeek.f spec_l3Is.f impl_isDay.f spec_l1In.f impl_in.f
  by_cases h1 : a ≥ 1 <;> by_cases h2 : a ≤ 3652059 <;> simp [h1, h2]
end Go.Proofs.Ytaifkjenoebgiaa.Pure
