/- The program's PrimaryOf and the reference's PrimaryOf answer the same at every two whole numbers: proved over the printed functions, with no condition. -/
import Derived.Test.YtaimecmjbcpgpaaPFnExactPrimaryOfx1
namespace Go.Proofs.Ytaimecmjbcpgpaa.Pure
open Go.RowKit Go.Proofs.Ytaimecmjbcpgpaa.PFnExactPrimaryOf Go.Proofs.YtaimecmjbcpgpaaW.PrintWords Go.Proofs.YtaimecmjbcpgpaaW.PrintLast

theorem FnExactPrimaryOf : laws_FnExactPrimaryOf.Pure := by
  intro a0 a1 _ _
  unfold laws_FnExactPrimaryOf.f spec_PrimaryOf.f impl_PrimaryOf.f spec_l8F.f impl_isF.f impl_isView.f spec_l1In.f impl_within.f spec_l9Primary.f impl_primary.f impl_many.f laws_eqIntResult.f
  by_cases h1 : 1 ≤ a0 <;> by_cases h2 : a0 ≤ 2 <;> by_cases h3 : 0 ≤ a1 <;> by_cases h4 : a1 ≤ 20 <;> simp [h1, h2, h3, h4]
  have hw : wrap64 (wrap64 (3 * a0) + 1) ≠ 0 := by unfold wrap64; omega
  simp [hw]

end Go.Proofs.Ytaimecmjbcpgpaa.Pure
