/- slices.Sort and slices.Compact of this program, as callees. -/
import Derived.Test.YtfbciaffgpbcoaaGreatS0
import Derived.Test.YtfbciaffgpbcoaaGreatD1
import Derived.Test.YtfbciaffgpbcoaaGreatE0
namespace Go.Av
open Go.Proofs
set_option maxRecDepth 100000
noncomputable def sp78 : FSpec := sortSp
noncomputable def sp100 : FSpec := compSp
theorem so78 : Sound Tryz.prog 78 sp78 := sort_sound (enters_of Tryz.func78 rfl (by kernel_rfl)) (fun blk off cap zs w h1 h2 h3 => AnyM.slices_Sort_int Tryz.laySort blk off cap zs w h1 h2 h3) (fun p cap w => AnyM.slices_Sort_int_none Tryz.laySort p cap w)
theorem so100 : Sound Tryz.prog 100 sp100 := comp_sound (enters_of Tryz.func100 rfl (by kernel_rfl)) (fun blk off cap zs w h1 h2 h3 => AnyG.slices_Compact_int Tryz.layCompact blk off cap zs w h1 h2 h3) (fun p cap w => AnyG.slices_Compact_int_empty Tryz.layCompact p cap w)
end Go.Av
