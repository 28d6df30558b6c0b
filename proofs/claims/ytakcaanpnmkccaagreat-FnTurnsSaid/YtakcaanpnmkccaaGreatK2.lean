/- Copies whose memory is the caller's own. -/
import Derived.Test.YtakcaanpnmkccaaGreatE5
namespace Go.Av
open Go.Proofs
set_option maxRecDepth 100000
set_option linter.unusedVariables false
set_option linter.unusedSimpArgs false

theorem ble_nil {α : Type} [Inhabited α] (enc : α → V) {sz te te' : Nat} {g : Nat → V} : BLe (.arr sz 0 g te) (.arr sz ([] : List α).length (gL enc []) te') := ble_arr (fun i hi => absurd hi (Nat.not_lt_zero i)) (Or.inr (Or.inr (Or.inr rfl)))


end Go.Av
