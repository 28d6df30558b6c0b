/- The seat's types as a table, and what holds of the program as a whole. -/
import Derived.Test.YtgefdljcommhhaaGreatDoorProg
import Derived.Test.YtgefdljcommhhaaGreatDoorC2
import Derived.KernelRfl
import Derived.IntWalk
namespace Go.Av
open Go.Proofs

noncomputable def tt : TT := tabOf Tryz.prog (List.range 147)
theorem htt : TabOk Tryz.prog tt := tabOk_of _ _
theorem hmix : Tryz.prog.follows .mixedOrders = true := by kernel_rfl

theorem inK64 {n : Int} (h : -9223372036854775808 ≤ n ∧ n ≤ 9223372036854775807) : inK .i64 n := Go.IntWalk.i64_in _ (by omega)

end Go.Av
