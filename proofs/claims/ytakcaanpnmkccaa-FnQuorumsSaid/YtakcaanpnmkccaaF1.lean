/- Does a replica stand among those of some places? -/
import Derived.Test.YtakcaanpnmkccaaE1
import Derived.Test.YtakcaanpnmkccaaP10
namespace Go.Av
open Go.Proofs
set_option maxRecDepth 100000
set_option linter.unusedVariables false
set_option linter.unusedSimpArgs false


end Go.Av
