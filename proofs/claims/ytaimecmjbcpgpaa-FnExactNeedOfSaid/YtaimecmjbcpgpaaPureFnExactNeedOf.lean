/- The program's NeedOf and the reference's NeedOf answer the same at every whole number: proved over the printed functions, with no condition. -/
import Derived.Test.YtaimecmjbcpgpaaPFnExactNeedOfx1
namespace Go.Proofs.Ytaimecmjbcpgpaa.Pure
open Go.RowKit Go.Proofs.Ytaimecmjbcpgpaa.PFnExactNeedOf Go.Proofs.YtaimecmjbcpgpaaW.PrintWords Go.Proofs.YtaimecmjbcpgpaaW.PrintLast

theorem FnExactNeedOf : laws_FnExactNeedOf.Pure := by
  intro a0 _
  unfold laws_FnExactNeedOf.f spec_NeedOf.f impl_NeedOf.f spec_l8F.f impl_isF.f spec_l1In.f impl_within.f spec_l9Need.f laws_eqIntResult.f
  by_cases h1 : 1 ≤ a0 <;> by_cases h2 : a0 ≤ 2 <;> simp [h1, h2]

end Go.Proofs.Ytaimecmjbcpgpaa.Pure
