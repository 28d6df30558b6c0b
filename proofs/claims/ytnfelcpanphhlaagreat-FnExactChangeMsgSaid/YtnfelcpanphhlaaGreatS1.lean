/- slices.Sort and slices.Compact of this program, as callees. -/
import Derived.Test.YtnfelcpanphhlaaGreatS0
import Derived.Test.YtnfelcpanphhlaaGreatD1
import Derived.Test.YtnfelcpanphhlaaGreatE0
namespace Go.Av
open Go.Proofs
set_option maxRecDepth 100000
noncomputable def sp144 : FSpec := sortSp
noncomputable def sp163 : FSpec := compSp
theorem so144 : Sound Tryz.prog 144 sp144 := sort_sound (enters_of Tryz.func144 rfl (by kernel_rfl)) (fun blk off cap zs w h1 h2 h3 => AnyM.slices_Sort_int Tryz.laySort blk off cap zs w h1 h2 h3) (fun p cap w => AnyM.slices_Sort_int_none Tryz.laySort p cap w)
theorem so163 : Sound Tryz.prog 163 sp163 := comp_sound (enters_of Tryz.func163 rfl (by kernel_rfl)) (fun blk off cap zs w h1 h2 h3 => AnyG.slices_Compact_int Tryz.layCompact blk off cap zs w h1 h2 h3) (fun p cap w => AnyG.slices_Compact_int_empty Tryz.layCompact p cap w)
end Go.Av
