/- The laws' own helpers: copies, comparisons, sizes. -/
import Derived.Test.YtakcaanpnmkccaaGreatE0
namespace Go.Av
open Go.Proofs
set_option maxRecDepth 100000
set_option linter.unusedVariables false
set_option linter.unusedSimpArgs false

/-- A size that is taken off what is left. -/
def szLen (n : Nat) (left : Int) : Int := if left - n < 0 then -1 else left - n
theorem zele_I : ELe (.int .i64 0) (encI default) := ELe.refl _
theorem zele_Cert : ELe (.agg [.int .i64 0, .int .i64 0, .int .i64 0]) (encCert 1 default) := ELe.refl _
theorem zele_Msg : ELe (.agg [.int .i64 0, .int .i64 0, .int .i64 0, .int .i64 0, .int .i64 0, .nil, .nil]) (encMsg 1 default) :=
  ele_of ⟨PLe.refl _, PLe.refl _, PLe.refl _, PLe.refl _, PLe.refl _, ple_nil _ _, ple_nil _ _, trivial⟩


def szMsgF (m : Msg) (left : Int) : Int := if szLen m.certs.length left < 0 then -1 else if szLen m.refs.length (szLen m.certs.length left) < 0 then -1 else szLen m.refs.length (szLen m.certs.length left)
theorem szLen_le {n : Nat} {left : Int} : szLen n left ≤ left ∨ left < 0 := by unfold szLen; split <;> omega

end Go.Av
