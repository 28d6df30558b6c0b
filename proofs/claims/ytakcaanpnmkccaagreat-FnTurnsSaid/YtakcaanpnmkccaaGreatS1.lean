/- slices.Sort and slices.Compact of this program, as callees. -/
import Derived.Test.YtakcaanpnmkccaaGreatS0
import Derived.Test.YtakcaanpnmkccaaGreatD1
import Derived.Test.YtakcaanpnmkccaaGreatE0
namespace Go.Av
open Go.Proofs
set_option maxRecDepth 100000
noncomputable def sp107 : FSpec := sortSp
noncomputable def sp109 : FSpec := compSp
theorem so107 : Sound Tryz.prog 107 sp107 := sort_sound (enters_of Tryz.func107 rfl (by kernel_rfl)) (fun blk off cap zs w h1 h2 h3 => AnyM.slices_Sort_int Tryz.laySort blk off cap zs w h1 h2 h3) (fun p cap w => AnyM.slices_Sort_int_none Tryz.laySort p cap w)
theorem so109 : Sound Tryz.prog 109 sp109 := comp_sound (enters_of Tryz.func109 rfl (by kernel_rfl)) (fun blk off cap zs w h1 h2 h3 => AnyG.slices_Compact_int Tryz.layCompact blk off cap zs w h1 h2 h3) (fun p cap w => AnyG.slices_Compact_int_empty Tryz.layCompact p cap w)
end Go.Av
