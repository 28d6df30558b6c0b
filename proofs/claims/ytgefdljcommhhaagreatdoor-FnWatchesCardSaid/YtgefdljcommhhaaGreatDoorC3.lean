/- The laws' parameters as typed data: what the law's opening gives. Printed by wip/gen/types.py. -/
import Derived.Test.YtgefdljcommhhaaGreatDoorE0
namespace Go.Av
open Go.Proofs
set_option maxRecDepth 100000
set_option linter.unusedVariables false

theorem ta_Lbyte : Tyd Tryz.prog 9 22 false (encL encY 1) (fun xs => xs.length ≤ maxLen ∧ ∀ x ∈ xs, (fun x => (Lit.int .u8 x).wf = true) x) := (tyd_slice Tryz.underlying22 (by kernel_rfl) (tyd_int Tryz.underlying5))

end Go.Av
