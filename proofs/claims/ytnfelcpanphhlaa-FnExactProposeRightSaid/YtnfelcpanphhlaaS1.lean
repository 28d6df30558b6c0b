/- slices.Sort and slices.Compact of this program, as callees. -/
import Derived.Test.YtnfelcpanphhlaaS0
import Derived.Test.YtnfelcpanphhlaaD1
import Derived.Test.YtnfelcpanphhlaaE0
namespace Go.Av
open Go.Proofs
set_option maxRecDepth 100000
noncomputable def sp161 : FSpec := sortSp
noncomputable def sp162 : FSpec := compSp
theorem so161 : Sound Try.prog 161 sp161 := sort_sound (enters_of Try.func161 rfl (by kernel_rfl)) (fun blk off cap zs w h1 h2 h3 => AnyM.slices_Sort_int Try.laySort blk off cap zs w h1 h2 h3) (fun p cap w => AnyM.slices_Sort_int_none Try.laySort p cap w)
theorem so162 : Sound Try.prog 162 sp162 := comp_sound (enters_of Try.func162 rfl (by kernel_rfl)) (fun blk off cap zs w h1 h2 h3 => AnyG.slices_Compact_int Try.layCompact blk off cap zs w h1 h2 h3) (fun p cap w => AnyG.slices_Compact_int_empty Try.layCompact p cap w)
end Go.Av
