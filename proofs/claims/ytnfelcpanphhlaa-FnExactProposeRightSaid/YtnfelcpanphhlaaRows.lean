/-
  No cell of these rows narrows 'for every input' (looked for: loops, veiled, ifaces, maps, wideKeys, modest, calm, conditions, laid).
  DERIVED. THE GIVEN ROWS OF THIS SEAT. 19 by the template 'for every input the law returns true; each argument reads behind the call as it read before'; 0 by the template 'total and deterministic' (their statements: YtnfelcpanphhlaaTotals.lean).
  GIVEN WITH THE SEED: the statements are not yours to turn. If you find one false, say at which input.
  Laid BY PROGRAM, IN A SANDBOX (cutbox-rows.mjs): the forced cells as the released guide's own fill.sh prints them over the translation 0d091fbc4cc2d971… (all of the seat's roots in one cut). By AI agents, Wed Nov 11 2026. No macro, syntax, notation, axiom, sorry.
-/
import Derived.Test.YtnfelcpanphhlaaChecked
import GoSem.Claim
import GoSem.ClaimJoined
import GoSem.ClaimMapViews
import Derived.JoinedTies
import Derived.KernelRfl
namespace Go.Proofs.Ytnfelcpanphhlaa
/- THE CELL 'sum', in the pinned program and in every row, IS THE sha256 OF THE DUMP (.gsa) THAT YtnfelcpanphhlaaProg.lean LOADS. Nothing in Lean hashes anything: it is a label: what it is worth is what the hold of that sum in a sandbox is worth. -/
noncomputable def Try.pinned : Pinned := { name := "ytnfelcpanphhlaa", sum := "0d091fbc4cc2d9718ee49d3e61cd00528632f7398db2bea0ce79345f45b413e3", checked := Try.checked }
namespace Rows
def none {H : Type} : Left H := { results := [], args := [] }

/-- 'laws.FnExactNeedOf': WHATEVER THE INPUT: true; the input reads as it did. -/
def fnExactNeedOfSpec : ChangeSpec := { name := "fnExactNeedOf", fn := fun _ => fun
  | [d] => { results := [.lit (.bool true)], args := [d] }
  | _ => none }
def fnExactNeedOfRow : OpenClaim := { program := "ytnfelcpanphhlaa", sum := "0d091fbc4cc2d9718ee49d3e61cd00528632f7398db2bea0ce79345f45b413e3", func := "loop.example/g00369/laws.FnExactNeedOf", spec := "fnExactNeedOf", apart := false }
def FnExactNeedOfSaid : Prop := fnExactNeedOfRow.holds Try.pinned (OpenSpec.ofChange fnExactNeedOfSpec)

/-- ITS FALSE NEIGHBOUR: 'it returns false'. Refute it at one input. -/
def fnExactNeedOfWrong : ChangeSpec := { name := "fnExactNeedOf", fn := fun _ => fun
  | [d] => { results := [.lit (.bool false)], args := [d] }
  | _ => none }
def FnExactNeedOfWrongFalsely : Prop := fnExactNeedOfRow.holds Try.pinned (OpenSpec.ofChange fnExactNeedOfWrong)

/-- 'laws.FnExactPrimaryOf': WHATEVER THE INPUT: true; the input reads as it did. -/
def fnExactPrimaryOfSpec : ChangeSpec := { name := "fnExactPrimaryOf", fn := fun _ => fun
  | [d1, d2] => { results := [.lit (.bool true)], args := [d1, d2] }
  | _ => none }
def fnExactPrimaryOfRow : OpenClaim := { program := "ytnfelcpanphhlaa", sum := "0d091fbc4cc2d9718ee49d3e61cd00528632f7398db2bea0ce79345f45b413e3", func := "loop.example/g00369/laws.FnExactPrimaryOf", spec := "fnExactPrimaryOf", apart := false }
def FnExactPrimaryOfSaid : Prop := fnExactPrimaryOfRow.holds Try.pinned (OpenSpec.ofChange fnExactPrimaryOfSpec)

/-- ITS FALSE NEIGHBOUR: 'it returns false'. Refute it at one input. -/
def fnExactPrimaryOfWrong : ChangeSpec := { name := "fnExactPrimaryOf", fn := fun _ => fun
  | [d1, d2] => { results := [.lit (.bool false)], args := [d1, d2] }
  | _ => none }
def FnExactPrimaryOfWrongFalsely : Prop := fnExactPrimaryOfRow.holds Try.pinned (OpenSpec.ofChange fnExactPrimaryOfWrong)

/-- 'laws.FnExactSameMsgs': WHATEVER THE INPUT: true; the input reads as it did. -/
def fnExactSameMsgsSpec : ChangeSpec := { name := "fnExactSameMsgs", fn := fun _ => fun
  | [d1, d2] => { results := [.lit (.bool true)], args := [d1, d2] }
  | _ => none }
def fnExactSameMsgsRow : OpenClaim := { program := "ytnfelcpanphhlaa", sum := "0d091fbc4cc2d9718ee49d3e61cd00528632f7398db2bea0ce79345f45b413e3", func := "loop.example/g00369/laws.FnExactSameMsgs", spec := "fnExactSameMsgs", apart := false }
def FnExactSameMsgsSaid : Prop := fnExactSameMsgsRow.holds Try.pinned (OpenSpec.ofChange fnExactSameMsgsSpec)

/-- ITS FALSE NEIGHBOUR: 'it returns false'. Refute it at one input. -/
def fnExactSameMsgsWrong : ChangeSpec := { name := "fnExactSameMsgs", fn := fun _ => fun
  | [d1, d2] => { results := [.lit (.bool false)], args := [d1, d2] }
  | _ => none }
def FnExactSameMsgsWrongFalsely : Prop := fnExactSameMsgsRow.holds Try.pinned (OpenSpec.ofChange fnExactSameMsgsWrong)

/-- 'laws.FnExactMsgFault': WHATEVER THE INPUT: true; the input reads as it did. -/
def fnExactMsgFaultSpec : ChangeSpec := { name := "fnExactMsgFault", fn := fun _ => fun
  | [d1, d2] => { results := [.lit (.bool true)], args := [d1, d2] }
  | _ => none }
def fnExactMsgFaultRow : OpenClaim := { program := "ytnfelcpanphhlaa", sum := "0d091fbc4cc2d9718ee49d3e61cd00528632f7398db2bea0ce79345f45b413e3", func := "loop.example/g00369/laws.FnExactMsgFault", spec := "fnExactMsgFault", unfollowed := true, recurses := true, apart := false }
def FnExactMsgFaultSaid : Prop := fnExactMsgFaultRow.holds Try.pinned (OpenSpec.ofChange fnExactMsgFaultSpec)

/-- ITS FALSE NEIGHBOUR: 'it returns false'. Refute it at one input. -/
def fnExactMsgFaultWrong : ChangeSpec := { name := "fnExactMsgFault", fn := fun _ => fun
  | [d1, d2] => { results := [.lit (.bool false)], args := [d1, d2] }
  | _ => none }
def FnExactMsgFaultWrongFalsely : Prop := fnExactMsgFaultRow.holds Try.pinned (OpenSpec.ofChange fnExactMsgFaultWrong)

/-- 'laws.FnExactLedgerFault': WHATEVER THE INPUT: true; the input reads as it did. -/
def fnExactLedgerFaultSpec : ChangeSpec := { name := "fnExactLedgerFault", fn := fun _ => fun
  | [d1, d2] => { results := [.lit (.bool true)], args := [d1, d2] }
  | _ => none }
def fnExactLedgerFaultRow : OpenClaim := { program := "ytnfelcpanphhlaa", sum := "0d091fbc4cc2d9718ee49d3e61cd00528632f7398db2bea0ce79345f45b413e3", func := "loop.example/g00369/laws.FnExactLedgerFault", spec := "fnExactLedgerFault", unfollowed := true, recurses := true, apart := false }
def FnExactLedgerFaultSaid : Prop := fnExactLedgerFaultRow.holds Try.pinned (OpenSpec.ofChange fnExactLedgerFaultSpec)

/-- ITS FALSE NEIGHBOUR: 'it returns false'. Refute it at one input. -/
def fnExactLedgerFaultWrong : ChangeSpec := { name := "fnExactLedgerFault", fn := fun _ => fun
  | [d1, d2] => { results := [.lit (.bool false)], args := [d1, d2] }
  | _ => none }
def FnExactLedgerFaultWrongFalsely : Prop := fnExactLedgerFaultRow.holds Try.pinned (OpenSpec.ofChange fnExactLedgerFaultWrong)

/-- 'laws.FnPicks': WHATEVER THE INPUT: true; the input reads as it did. -/
def fnPicksSpec : ChangeSpec := { name := "fnPicks", fn := fun _ => fun
  | [d] => { results := [.lit (.bool true)], args := [d] }
  | _ => none }
def fnPicksRow : OpenClaim := { program := "ytnfelcpanphhlaa", sum := "0d091fbc4cc2d9718ee49d3e61cd00528632f7398db2bea0ce79345f45b413e3", func := "loop.example/g00369/laws.FnPicks", spec := "fnPicks", unfollowed := true, recurses := true, apart := false }
def FnPicksSaid : Prop := fnPicksRow.holds Try.pinned (OpenSpec.ofChange fnPicksSpec)

/-- ITS FALSE NEIGHBOUR: 'it returns false'. Refute it at one input. -/
def fnPicksWrong : ChangeSpec := { name := "fnPicks", fn := fun _ => fun
  | [d] => { results := [.lit (.bool false)], args := [d] }
  | _ => none }
def FnPicksWrongFalsely : Prop := fnPicksRow.holds Try.pinned (OpenSpec.ofChange fnPicksWrong)

/-- 'laws.FnExactSentBy': WHATEVER THE INPUT: true; the input reads as it did. -/
def fnExactSentBySpec : ChangeSpec := { name := "fnExactSentBy", fn := fun _ => fun
  | [d1, d2, d3] => { results := [.lit (.bool true)], args := [d1, d2, d3] }
  | _ => none }
def fnExactSentByRow : OpenClaim := { program := "ytnfelcpanphhlaa", sum := "0d091fbc4cc2d9718ee49d3e61cd00528632f7398db2bea0ce79345f45b413e3", func := "loop.example/g00369/laws.FnExactSentBy", spec := "fnExactSentBy", unfollowed := true, recurses := true, apart := false }
def FnExactSentBySaid : Prop := fnExactSentByRow.holds Try.pinned (OpenSpec.ofChange fnExactSentBySpec)

/-- ITS FALSE NEIGHBOUR: 'it returns false'. Refute it at one input. -/
def fnExactSentByWrong : ChangeSpec := { name := "fnExactSentBy", fn := fun _ => fun
  | [d1, d2, d3] => { results := [.lit (.bool false)], args := [d1, d2, d3] }
  | _ => none }
def FnExactSentByWrongFalsely : Prop := fnExactSentByRow.holds Try.pinned (OpenSpec.ofChange fnExactSentByWrong)

/-- 'laws.FnExactCertsOf': WHATEVER THE INPUT: true; the input reads as it did. -/
def fnExactCertsOfSpec : ChangeSpec := { name := "fnExactCertsOf", fn := fun _ => fun
  | [d1, d2, d3, d4] => { results := [.lit (.bool true)], args := [d1, d2, d3, d4] }
  | _ => none }
def fnExactCertsOfRow : OpenClaim := { program := "ytnfelcpanphhlaa", sum := "0d091fbc4cc2d9718ee49d3e61cd00528632f7398db2bea0ce79345f45b413e3", func := "loop.example/g00369/laws.FnExactCertsOf", spec := "fnExactCertsOf", unfollowed := true, recurses := true, apart := false }
def FnExactCertsOfSaid : Prop := fnExactCertsOfRow.holds Try.pinned (OpenSpec.ofChange fnExactCertsOfSpec)

/-- ITS FALSE NEIGHBOUR: 'it returns false'. Refute it at one input. -/
def fnExactCertsOfWrong : ChangeSpec := { name := "fnExactCertsOf", fn := fun _ => fun
  | [d1, d2, d3, d4] => { results := [.lit (.bool false)], args := [d1, d2, d3, d4] }
  | _ => none }
def FnExactCertsOfWrongFalsely : Prop := fnExactCertsOfRow.holds Try.pinned (OpenSpec.ofChange fnExactCertsOfWrong)

/-- 'laws.FnExactPickOf': WHATEVER THE INPUT: true; the input reads as it did. -/
def fnExactPickOfSpec : ChangeSpec := { name := "fnExactPickOf", fn := fun _ => fun
  | [d1, d2, d3] => { results := [.lit (.bool true)], args := [d1, d2, d3] }
  | _ => none }
def fnExactPickOfRow : OpenClaim := { program := "ytnfelcpanphhlaa", sum := "0d091fbc4cc2d9718ee49d3e61cd00528632f7398db2bea0ce79345f45b413e3", func := "loop.example/g00369/laws.FnExactPickOf", spec := "fnExactPickOf", unfollowed := true, recurses := true, apart := false }
def FnExactPickOfSaid : Prop := fnExactPickOfRow.holds Try.pinned (OpenSpec.ofChange fnExactPickOfSpec)

/-- ITS FALSE NEIGHBOUR: 'it returns false'. Refute it at one input. -/
def fnExactPickOfWrong : ChangeSpec := { name := "fnExactPickOf", fn := fun _ => fun
  | [d1, d2, d3] => { results := [.lit (.bool false)], args := [d1, d2, d3] }
  | _ => none }
def FnExactPickOfWrongFalsely : Prop := fnExactPickOfRow.holds Try.pinned (OpenSpec.ofChange fnExactPickOfWrong)

/-- 'laws.FnExactCertRight': WHATEVER THE INPUT: true; the input reads as it did. -/
def fnExactCertRightSpec : ChangeSpec := { name := "fnExactCertRight", fn := fun _ => fun
  | [d1, d2, d3] => { results := [.lit (.bool true)], args := [d1, d2, d3] }
  | _ => none }
def fnExactCertRightRow : OpenClaim := { program := "ytnfelcpanphhlaa", sum := "0d091fbc4cc2d9718ee49d3e61cd00528632f7398db2bea0ce79345f45b413e3", func := "loop.example/g00369/laws.FnExactCertRight", spec := "fnExactCertRight", unfollowed := true, recurses := true, apart := false }
def FnExactCertRightSaid : Prop := fnExactCertRightRow.holds Try.pinned (OpenSpec.ofChange fnExactCertRightSpec)

/-- ITS FALSE NEIGHBOUR: 'it returns false'. Refute it at one input. -/
def fnExactCertRightWrong : ChangeSpec := { name := "fnExactCertRight", fn := fun _ => fun
  | [d1, d2, d3] => { results := [.lit (.bool false)], args := [d1, d2, d3] }
  | _ => none }
def FnExactCertRightWrongFalsely : Prop := fnExactCertRightRow.holds Try.pinned (OpenSpec.ofChange fnExactCertRightWrong)

/-- 'laws.FnExactChangeRight': WHATEVER THE INPUT: true; the input reads as it did. -/
def fnExactChangeRightSpec : ChangeSpec := { name := "fnExactChangeRight", fn := fun _ => fun
  | [d1, d2, d3] => { results := [.lit (.bool true)], args := [d1, d2, d3] }
  | _ => none }
def fnExactChangeRightRow : OpenClaim := { program := "ytnfelcpanphhlaa", sum := "0d091fbc4cc2d9718ee49d3e61cd00528632f7398db2bea0ce79345f45b413e3", func := "loop.example/g00369/laws.FnExactChangeRight", spec := "fnExactChangeRight", unfollowed := true, recurses := true, apart := false }
def FnExactChangeRightSaid : Prop := fnExactChangeRightRow.holds Try.pinned (OpenSpec.ofChange fnExactChangeRightSpec)

/-- ITS FALSE NEIGHBOUR: 'it returns false'. Refute it at one input. -/
def fnExactChangeRightWrong : ChangeSpec := { name := "fnExactChangeRight", fn := fun _ => fun
  | [d1, d2, d3] => { results := [.lit (.bool false)], args := [d1, d2, d3] }
  | _ => none }
def FnExactChangeRightWrongFalsely : Prop := fnExactChangeRightRow.holds Try.pinned (OpenSpec.ofChange fnExactChangeRightWrong)

/-- 'laws.FnQuorums': WHATEVER THE INPUT: true; the input reads as it did. -/
def fnQuorumsSpec : ChangeSpec := { name := "fnQuorums", fn := fun _ => fun
  | [d] => { results := [.lit (.bool true)], args := [d] }
  | _ => none }
def fnQuorumsRow : OpenClaim := { program := "ytnfelcpanphhlaa", sum := "0d091fbc4cc2d9718ee49d3e61cd00528632f7398db2bea0ce79345f45b413e3", func := "loop.example/g00369/laws.FnQuorums", spec := "fnQuorums", unfollowed := true, recurses := true, apart := false }
def FnQuorumsSaid : Prop := fnQuorumsRow.holds Try.pinned (OpenSpec.ofChange fnQuorumsSpec)

/-- ITS FALSE NEIGHBOUR: 'it returns false'. Refute it at one input. -/
def fnQuorumsWrong : ChangeSpec := { name := "fnQuorums", fn := fun _ => fun
  | [d] => { results := [.lit (.bool false)], args := [d] }
  | _ => none }
def FnQuorumsWrongFalsely : Prop := fnQuorumsRow.holds Try.pinned (OpenSpec.ofChange fnQuorumsWrong)

/-- 'laws.FnLogs': WHATEVER THE INPUT: true; the input reads as it did. -/
def fnLogsSpec : ChangeSpec := { name := "fnLogs", fn := fun _ => fun
  | [d] => { results := [.lit (.bool true)], args := [d] }
  | _ => none }
def fnLogsRow : OpenClaim := { program := "ytnfelcpanphhlaa", sum := "0d091fbc4cc2d9718ee49d3e61cd00528632f7398db2bea0ce79345f45b413e3", func := "loop.example/g00369/laws.FnLogs", spec := "fnLogs", unfollowed := true, recurses := true, apart := false }
def FnLogsSaid : Prop := fnLogsRow.holds Try.pinned (OpenSpec.ofChange fnLogsSpec)

/-- ITS FALSE NEIGHBOUR: 'it returns false'. Refute it at one input. -/
def fnLogsWrong : ChangeSpec := { name := "fnLogs", fn := fun _ => fun
  | [d] => { results := [.lit (.bool false)], args := [d] }
  | _ => none }
def FnLogsWrongFalsely : Prop := fnLogsRow.holds Try.pinned (OpenSpec.ofChange fnLogsWrong)

/-- 'laws.FnExactNewRight': WHATEVER THE INPUT: true; the input reads as it did. -/
def fnExactNewRightSpec : ChangeSpec := { name := "fnExactNewRight", fn := fun _ => fun
  | [d1, d2, d3] => { results := [.lit (.bool true)], args := [d1, d2, d3] }
  | _ => none }
def fnExactNewRightRow : OpenClaim := { program := "ytnfelcpanphhlaa", sum := "0d091fbc4cc2d9718ee49d3e61cd00528632f7398db2bea0ce79345f45b413e3", func := "loop.example/g00369/laws.FnExactNewRight", spec := "fnExactNewRight", unfollowed := true, recurses := true, apart := false }
def FnExactNewRightSaid : Prop := fnExactNewRightRow.holds Try.pinned (OpenSpec.ofChange fnExactNewRightSpec)

/-- ITS FALSE NEIGHBOUR: 'it returns false'. Refute it at one input. -/
def fnExactNewRightWrong : ChangeSpec := { name := "fnExactNewRight", fn := fun _ => fun
  | [d1, d2, d3] => { results := [.lit (.bool false)], args := [d1, d2, d3] }
  | _ => none }
def FnExactNewRightWrongFalsely : Prop := fnExactNewRightRow.holds Try.pinned (OpenSpec.ofChange fnExactNewRightWrong)

/-- 'laws.FnExactVotesFor': WHATEVER THE INPUT: true; the input reads as it did. -/
def fnExactVotesForSpec : ChangeSpec := { name := "fnExactVotesFor", fn := fun _ => fun
  | [d1, d2, d3] => { results := [.lit (.bool true)], args := [d1, d2, d3] }
  | _ => none }
def fnExactVotesForRow : OpenClaim := { program := "ytnfelcpanphhlaa", sum := "0d091fbc4cc2d9718ee49d3e61cd00528632f7398db2bea0ce79345f45b413e3", func := "loop.example/g00369/laws.FnExactVotesFor", spec := "fnExactVotesFor", unfollowed := true, recurses := true, apart := false }
def FnExactVotesForSaid : Prop := fnExactVotesForRow.holds Try.pinned (OpenSpec.ofChange fnExactVotesForSpec)

/-- ITS FALSE NEIGHBOUR: 'it returns false'. Refute it at one input. -/
def fnExactVotesForWrong : ChangeSpec := { name := "fnExactVotesFor", fn := fun _ => fun
  | [d1, d2, d3] => { results := [.lit (.bool false)], args := [d1, d2, d3] }
  | _ => none }
def FnExactVotesForWrongFalsely : Prop := fnExactVotesForRow.holds Try.pinned (OpenSpec.ofChange fnExactVotesForWrong)

/-- 'laws.FnExactDecidedAt': WHATEVER THE INPUT: true; the input reads as it did. -/
def fnExactDecidedAtSpec : ChangeSpec := { name := "fnExactDecidedAt", fn := fun _ => fun
  | [d1, d2, d3] => { results := [.lit (.bool true)], args := [d1, d2, d3] }
  | _ => none }
def fnExactDecidedAtRow : OpenClaim := { program := "ytnfelcpanphhlaa", sum := "0d091fbc4cc2d9718ee49d3e61cd00528632f7398db2bea0ce79345f45b413e3", func := "loop.example/g00369/laws.FnExactDecidedAt", spec := "fnExactDecidedAt", unfollowed := true, recurses := true, apart := false }
def FnExactDecidedAtSaid : Prop := fnExactDecidedAtRow.holds Try.pinned (OpenSpec.ofChange fnExactDecidedAtSpec)

/-- ITS FALSE NEIGHBOUR: 'it returns false'. Refute it at one input. -/
def fnExactDecidedAtWrong : ChangeSpec := { name := "fnExactDecidedAt", fn := fun _ => fun
  | [d1, d2, d3] => { results := [.lit (.bool false)], args := [d1, d2, d3] }
  | _ => none }
def FnExactDecidedAtWrongFalsely : Prop := fnExactDecidedAtRow.holds Try.pinned (OpenSpec.ofChange fnExactDecidedAtWrong)

/-- 'laws.FnExactLogOf': WHATEVER THE INPUT: true; the input reads as it did. -/
def fnExactLogOfSpec : ChangeSpec := { name := "fnExactLogOf", fn := fun _ => fun
  | [d1, d2] => { results := [.lit (.bool true)], args := [d1, d2] }
  | _ => none }
def fnExactLogOfRow : OpenClaim := { program := "ytnfelcpanphhlaa", sum := "0d091fbc4cc2d9718ee49d3e61cd00528632f7398db2bea0ce79345f45b413e3", func := "loop.example/g00369/laws.FnExactLogOf", spec := "fnExactLogOf", unfollowed := true, recurses := true, apart := false }
def FnExactLogOfSaid : Prop := fnExactLogOfRow.holds Try.pinned (OpenSpec.ofChange fnExactLogOfSpec)

/-- ITS FALSE NEIGHBOUR: 'it returns false'. Refute it at one input. -/
def fnExactLogOfWrong : ChangeSpec := { name := "fnExactLogOf", fn := fun _ => fun
  | [d1, d2] => { results := [.lit (.bool false)], args := [d1, d2] }
  | _ => none }
def FnExactLogOfWrongFalsely : Prop := fnExactLogOfRow.holds Try.pinned (OpenSpec.ofChange fnExactLogOfWrong)

/-- 'laws.FnExactChangesFor': WHATEVER THE INPUT: true; the input reads as it did. -/
def fnExactChangesForSpec : ChangeSpec := { name := "fnExactChangesFor", fn := fun _ => fun
  | [d1, d2, d3] => { results := [.lit (.bool true)], args := [d1, d2, d3] }
  | _ => none }
def fnExactChangesForRow : OpenClaim := { program := "ytnfelcpanphhlaa", sum := "0d091fbc4cc2d9718ee49d3e61cd00528632f7398db2bea0ce79345f45b413e3", func := "loop.example/g00369/laws.FnExactChangesFor", spec := "fnExactChangesFor", unfollowed := true, recurses := true, apart := false }
def FnExactChangesForSaid : Prop := fnExactChangesForRow.holds Try.pinned (OpenSpec.ofChange fnExactChangesForSpec)

/-- ITS FALSE NEIGHBOUR: 'it returns false'. Refute it at one input. -/
def fnExactChangesForWrong : ChangeSpec := { name := "fnExactChangesFor", fn := fun _ => fun
  | [d1, d2, d3] => { results := [.lit (.bool false)], args := [d1, d2, d3] }
  | _ => none }
def FnExactChangesForWrongFalsely : Prop := fnExactChangesForRow.holds Try.pinned (OpenSpec.ofChange fnExactChangesForWrong)

/-- 'laws.FnExactProposeRight': WHATEVER THE INPUT: true; the input reads as it did. -/
def fnExactProposeRightSpec : ChangeSpec := { name := "fnExactProposeRight", fn := fun _ => fun
  | [d1, d2, d3, d4] => { results := [.lit (.bool true)], args := [d1, d2, d3, d4] }
  | _ => none }
def fnExactProposeRightRow : OpenClaim := { program := "ytnfelcpanphhlaa", sum := "0d091fbc4cc2d9718ee49d3e61cd00528632f7398db2bea0ce79345f45b413e3", func := "loop.example/g00369/laws.FnExactProposeRight", spec := "fnExactProposeRight", unfollowed := true, recurses := true, apart := false }
def FnExactProposeRightSaid : Prop := fnExactProposeRightRow.holds Try.pinned (OpenSpec.ofChange fnExactProposeRightSpec)

/-- ITS FALSE NEIGHBOUR: 'it returns false'. Refute it at one input. -/
def fnExactProposeRightWrong : ChangeSpec := { name := "fnExactProposeRight", fn := fun _ => fun
  | [d1, d2, d3, d4] => { results := [.lit (.bool false)], args := [d1, d2, d3, d4] }
  | _ => none }
def FnExactProposeRightWrongFalsely : Prop := fnExactProposeRightRow.holds Try.pinned (OpenSpec.ofChange fnExactProposeRightWrong)

/- THE SECOND FORM. 'bulk': how many values and letters a reading holds, each counted each time it is reached (what is shared counts as often as it is met; a slice's spare places count too). A statement '..UptoSaid' is the law's where the arguments, and the package variables that the reading takes, are together of bulk at most 1048576: NARROWER than '..Said'. Prove '..Said' where nothing that the law and all that it calls make is longer than what came in: it says more and counts as full. Else prove '..UptoSaid'. A law counts once. -/
mutual
def uptoBulk {H : Type} : DataW H → Nat
  | .lit (.string bytes) => bytes.length + 1
  | .lit _ => 1
  | .nil => 1
  | .ptr d => uptoBulk d + 1
  | .slice elems spare => uptoBulkAll elems + uptoBulkAll spare + 1
  | .agg parts => uptoBulkAll parts + 1
  | .iface _ d => uptoBulk d + 1
  | .map entries => uptoBulkEntries entries + 1
  | .held _ => 1
def uptoBulkAll {H : Type} : List (DataW H) → Nat
  | [] => 0
  | d :: r => uptoBulk d + uptoBulkAll r
def uptoBulkEntries {H : Type} : List (Lit × DataW H) → Nat
  | [] => 0
  | x :: r => uptoBulkEntry x + uptoBulkEntries r
def uptoBulkEntry {H : Type} : Lit × DataW H → Nat
  | (.string bytes, d) => bytes.length + uptoBulk d + 1
  | (_, d) => uptoBulk d + 1
 end
def uptoSmall : (H : Type) → List (DataW H) → Bool := fun _ ds => decide (uptoBulkAll ds ≤ 1048576)
def OpenSpec.upto (s : _root_.Go.ChangeSpec) : _root_.Go.OpenSpec := { _root_.Go.OpenSpec.ofChange s with cond := some uptoSmall }

/-- 'laws.FnExactNeedOf', WHERE WHAT IT READS IS OF BULK AT MOST 1048576: true; the input reads as it did. -/
def fnExactNeedOfUptoRow : OpenClaim := { program := "ytnfelcpanphhlaa", sum := "0d091fbc4cc2d9718ee49d3e61cd00528632f7398db2bea0ce79345f45b413e3", func := "loop.example/g00369/laws.FnExactNeedOf", spec := "fnExactNeedOf", apart := false, narrowed := true }
def FnExactNeedOfUptoSaid : Prop := fnExactNeedOfUptoRow.holds Try.pinned (OpenSpec.upto fnExactNeedOfSpec)

/-- 'laws.FnExactPrimaryOf', WHERE WHAT IT READS IS OF BULK AT MOST 1048576: true; the input reads as it did. -/
def fnExactPrimaryOfUptoRow : OpenClaim := { program := "ytnfelcpanphhlaa", sum := "0d091fbc4cc2d9718ee49d3e61cd00528632f7398db2bea0ce79345f45b413e3", func := "loop.example/g00369/laws.FnExactPrimaryOf", spec := "fnExactPrimaryOf", apart := false, narrowed := true }
def FnExactPrimaryOfUptoSaid : Prop := fnExactPrimaryOfUptoRow.holds Try.pinned (OpenSpec.upto fnExactPrimaryOfSpec)

/-- 'laws.FnExactSameMsgs', WHERE WHAT IT READS IS OF BULK AT MOST 1048576: true; the input reads as it did. -/
def fnExactSameMsgsUptoRow : OpenClaim := { program := "ytnfelcpanphhlaa", sum := "0d091fbc4cc2d9718ee49d3e61cd00528632f7398db2bea0ce79345f45b413e3", func := "loop.example/g00369/laws.FnExactSameMsgs", spec := "fnExactSameMsgs", apart := false, narrowed := true }
def FnExactSameMsgsUptoSaid : Prop := fnExactSameMsgsUptoRow.holds Try.pinned (OpenSpec.upto fnExactSameMsgsSpec)

/-- 'laws.FnExactMsgFault', WHERE WHAT IT READS IS OF BULK AT MOST 1048576: true; the input reads as it did. -/
def fnExactMsgFaultUptoRow : OpenClaim := { program := "ytnfelcpanphhlaa", sum := "0d091fbc4cc2d9718ee49d3e61cd00528632f7398db2bea0ce79345f45b413e3", func := "loop.example/g00369/laws.FnExactMsgFault", spec := "fnExactMsgFault", unfollowed := true, recurses := true, apart := false, narrowed := true }
def FnExactMsgFaultUptoSaid : Prop := fnExactMsgFaultUptoRow.holds Try.pinned (OpenSpec.upto fnExactMsgFaultSpec)

/-- 'laws.FnExactLedgerFault', WHERE WHAT IT READS IS OF BULK AT MOST 1048576: true; the input reads as it did. -/
def fnExactLedgerFaultUptoRow : OpenClaim := { program := "ytnfelcpanphhlaa", sum := "0d091fbc4cc2d9718ee49d3e61cd00528632f7398db2bea0ce79345f45b413e3", func := "loop.example/g00369/laws.FnExactLedgerFault", spec := "fnExactLedgerFault", unfollowed := true, recurses := true, apart := false, narrowed := true }
def FnExactLedgerFaultUptoSaid : Prop := fnExactLedgerFaultUptoRow.holds Try.pinned (OpenSpec.upto fnExactLedgerFaultSpec)

/-- 'laws.FnPicks', WHERE WHAT IT READS IS OF BULK AT MOST 1048576: true; the input reads as it did. -/
def fnPicksUptoRow : OpenClaim := { program := "ytnfelcpanphhlaa", sum := "0d091fbc4cc2d9718ee49d3e61cd00528632f7398db2bea0ce79345f45b413e3", func := "loop.example/g00369/laws.FnPicks", spec := "fnPicks", unfollowed := true, recurses := true, apart := false, narrowed := true }
def FnPicksUptoSaid : Prop := fnPicksUptoRow.holds Try.pinned (OpenSpec.upto fnPicksSpec)

/-- 'laws.FnExactSentBy', WHERE WHAT IT READS IS OF BULK AT MOST 1048576: true; the input reads as it did. -/
def fnExactSentByUptoRow : OpenClaim := { program := "ytnfelcpanphhlaa", sum := "0d091fbc4cc2d9718ee49d3e61cd00528632f7398db2bea0ce79345f45b413e3", func := "loop.example/g00369/laws.FnExactSentBy", spec := "fnExactSentBy", unfollowed := true, recurses := true, apart := false, narrowed := true }
def FnExactSentByUptoSaid : Prop := fnExactSentByUptoRow.holds Try.pinned (OpenSpec.upto fnExactSentBySpec)

/-- 'laws.FnExactCertsOf', WHERE WHAT IT READS IS OF BULK AT MOST 1048576: true; the input reads as it did. -/
def fnExactCertsOfUptoRow : OpenClaim := { program := "ytnfelcpanphhlaa", sum := "0d091fbc4cc2d9718ee49d3e61cd00528632f7398db2bea0ce79345f45b413e3", func := "loop.example/g00369/laws.FnExactCertsOf", spec := "fnExactCertsOf", unfollowed := true, recurses := true, apart := false, narrowed := true }
def FnExactCertsOfUptoSaid : Prop := fnExactCertsOfUptoRow.holds Try.pinned (OpenSpec.upto fnExactCertsOfSpec)

/-- 'laws.FnExactPickOf', WHERE WHAT IT READS IS OF BULK AT MOST 1048576: true; the input reads as it did. -/
def fnExactPickOfUptoRow : OpenClaim := { program := "ytnfelcpanphhlaa", sum := "0d091fbc4cc2d9718ee49d3e61cd00528632f7398db2bea0ce79345f45b413e3", func := "loop.example/g00369/laws.FnExactPickOf", spec := "fnExactPickOf", unfollowed := true, recurses := true, apart := false, narrowed := true }
def FnExactPickOfUptoSaid : Prop := fnExactPickOfUptoRow.holds Try.pinned (OpenSpec.upto fnExactPickOfSpec)

/-- 'laws.FnExactCertRight', WHERE WHAT IT READS IS OF BULK AT MOST 1048576: true; the input reads as it did. -/
def fnExactCertRightUptoRow : OpenClaim := { program := "ytnfelcpanphhlaa", sum := "0d091fbc4cc2d9718ee49d3e61cd00528632f7398db2bea0ce79345f45b413e3", func := "loop.example/g00369/laws.FnExactCertRight", spec := "fnExactCertRight", unfollowed := true, recurses := true, apart := false, narrowed := true }
def FnExactCertRightUptoSaid : Prop := fnExactCertRightUptoRow.holds Try.pinned (OpenSpec.upto fnExactCertRightSpec)

/-- 'laws.FnExactChangeRight', WHERE WHAT IT READS IS OF BULK AT MOST 1048576: true; the input reads as it did. -/
def fnExactChangeRightUptoRow : OpenClaim := { program := "ytnfelcpanphhlaa", sum := "0d091fbc4cc2d9718ee49d3e61cd00528632f7398db2bea0ce79345f45b413e3", func := "loop.example/g00369/laws.FnExactChangeRight", spec := "fnExactChangeRight", unfollowed := true, recurses := true, apart := false, narrowed := true }
def FnExactChangeRightUptoSaid : Prop := fnExactChangeRightUptoRow.holds Try.pinned (OpenSpec.upto fnExactChangeRightSpec)

/-- 'laws.FnQuorums', WHERE WHAT IT READS IS OF BULK AT MOST 1048576: true; the input reads as it did. -/
def fnQuorumsUptoRow : OpenClaim := { program := "ytnfelcpanphhlaa", sum := "0d091fbc4cc2d9718ee49d3e61cd00528632f7398db2bea0ce79345f45b413e3", func := "loop.example/g00369/laws.FnQuorums", spec := "fnQuorums", unfollowed := true, recurses := true, apart := false, narrowed := true }
def FnQuorumsUptoSaid : Prop := fnQuorumsUptoRow.holds Try.pinned (OpenSpec.upto fnQuorumsSpec)

/-- 'laws.FnLogs', WHERE WHAT IT READS IS OF BULK AT MOST 1048576: true; the input reads as it did. -/
def fnLogsUptoRow : OpenClaim := { program := "ytnfelcpanphhlaa", sum := "0d091fbc4cc2d9718ee49d3e61cd00528632f7398db2bea0ce79345f45b413e3", func := "loop.example/g00369/laws.FnLogs", spec := "fnLogs", unfollowed := true, recurses := true, apart := false, narrowed := true }
def FnLogsUptoSaid : Prop := fnLogsUptoRow.holds Try.pinned (OpenSpec.upto fnLogsSpec)

/-- 'laws.FnExactNewRight', WHERE WHAT IT READS IS OF BULK AT MOST 1048576: true; the input reads as it did. -/
def fnExactNewRightUptoRow : OpenClaim := { program := "ytnfelcpanphhlaa", sum := "0d091fbc4cc2d9718ee49d3e61cd00528632f7398db2bea0ce79345f45b413e3", func := "loop.example/g00369/laws.FnExactNewRight", spec := "fnExactNewRight", unfollowed := true, recurses := true, apart := false, narrowed := true }
def FnExactNewRightUptoSaid : Prop := fnExactNewRightUptoRow.holds Try.pinned (OpenSpec.upto fnExactNewRightSpec)

/-- 'laws.FnExactVotesFor', WHERE WHAT IT READS IS OF BULK AT MOST 1048576: true; the input reads as it did. -/
def fnExactVotesForUptoRow : OpenClaim := { program := "ytnfelcpanphhlaa", sum := "0d091fbc4cc2d9718ee49d3e61cd00528632f7398db2bea0ce79345f45b413e3", func := "loop.example/g00369/laws.FnExactVotesFor", spec := "fnExactVotesFor", unfollowed := true, recurses := true, apart := false, narrowed := true }
def FnExactVotesForUptoSaid : Prop := fnExactVotesForUptoRow.holds Try.pinned (OpenSpec.upto fnExactVotesForSpec)

/-- 'laws.FnExactDecidedAt', WHERE WHAT IT READS IS OF BULK AT MOST 1048576: true; the input reads as it did. -/
def fnExactDecidedAtUptoRow : OpenClaim := { program := "ytnfelcpanphhlaa", sum := "0d091fbc4cc2d9718ee49d3e61cd00528632f7398db2bea0ce79345f45b413e3", func := "loop.example/g00369/laws.FnExactDecidedAt", spec := "fnExactDecidedAt", unfollowed := true, recurses := true, apart := false, narrowed := true }
def FnExactDecidedAtUptoSaid : Prop := fnExactDecidedAtUptoRow.holds Try.pinned (OpenSpec.upto fnExactDecidedAtSpec)

/-- 'laws.FnExactLogOf', WHERE WHAT IT READS IS OF BULK AT MOST 1048576: true; the input reads as it did. -/
def fnExactLogOfUptoRow : OpenClaim := { program := "ytnfelcpanphhlaa", sum := "0d091fbc4cc2d9718ee49d3e61cd00528632f7398db2bea0ce79345f45b413e3", func := "loop.example/g00369/laws.FnExactLogOf", spec := "fnExactLogOf", unfollowed := true, recurses := true, apart := false, narrowed := true }
def FnExactLogOfUptoSaid : Prop := fnExactLogOfUptoRow.holds Try.pinned (OpenSpec.upto fnExactLogOfSpec)

/-- 'laws.FnExactChangesFor', WHERE WHAT IT READS IS OF BULK AT MOST 1048576: true; the input reads as it did. -/
def fnExactChangesForUptoRow : OpenClaim := { program := "ytnfelcpanphhlaa", sum := "0d091fbc4cc2d9718ee49d3e61cd00528632f7398db2bea0ce79345f45b413e3", func := "loop.example/g00369/laws.FnExactChangesFor", spec := "fnExactChangesFor", unfollowed := true, recurses := true, apart := false, narrowed := true }
def FnExactChangesForUptoSaid : Prop := fnExactChangesForUptoRow.holds Try.pinned (OpenSpec.upto fnExactChangesForSpec)

/-- 'laws.FnExactProposeRight', WHERE WHAT IT READS IS OF BULK AT MOST 1048576: true; the input reads as it did. -/
def fnExactProposeRightUptoRow : OpenClaim := { program := "ytnfelcpanphhlaa", sum := "0d091fbc4cc2d9718ee49d3e61cd00528632f7398db2bea0ce79345f45b413e3", func := "loop.example/g00369/laws.FnExactProposeRight", spec := "fnExactProposeRight", unfollowed := true, recurses := true, apart := false, narrowed := true }
def FnExactProposeRightUptoSaid : Prop := fnExactProposeRightUptoRow.holds Try.pinned (OpenSpec.upto fnExactProposeRightSpec)

end Rows
end Go.Proofs.Ytnfelcpanphhlaa
