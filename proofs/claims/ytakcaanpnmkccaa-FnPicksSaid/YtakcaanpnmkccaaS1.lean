/- slices.Sort and slices.Compact of this program, as callees. -/
import Derived.Test.YtakcaanpnmkccaaS0
import Derived.Test.YtakcaanpnmkccaaD1
import Derived.Test.YtakcaanpnmkccaaE0
namespace Go.Av
open Go.Proofs
set_option maxRecDepth 100000
noncomputable def sp68 : FSpec := sortSp
noncomputable def sp69 : FSpec := compSp
theorem so68 : Sound Try.prog 68 sp68 := sort_sound (enters_of Try.func68 rfl (by kernel_rfl)) (fun blk off cap zs w h1 h2 h3 => AnyM.slices_Sort_int Try.laySort blk off cap zs w h1 h2 h3) (fun p cap w => AnyM.slices_Sort_int_none Try.laySort p cap w)
theorem so69 : Sound Try.prog 69 sp69 := comp_sound (enters_of Try.func69 rfl (by kernel_rfl)) (fun blk off cap zs w h1 h2 h3 => AnyG.slices_Compact_int Try.layCompact blk off cap zs w h1 h2 h3) (fun p cap w => AnyG.slices_Compact_int_empty Try.layCompact p cap w)
end Go.Av
