/-
  No cell of these rows narrows 'for every input' (looked for: loops, veiled, ifaces, maps, wideKeys, modest, calm, conditions, laid).
  DERIVED. THE GIVEN ROWS OF THIS SEAT. 5 by the template 'for every input the law returns true; each argument reads behind the call as it read before'; 0 by the template 'total and deterministic' (their statements: YtaimecmjbcpgpaaTotals.lean).
  GIVEN WITH THE SEED: the statements are not yours to turn. If you find one false, say at which input.
  Laid BY PROGRAM, IN A SANDBOX (cutbox-rows.mjs): the forced cells as the released guide's own fill.sh prints them over the translation 1fd01a7f8530590b… (all of the seat's roots in one cut). By AI agents, Wed Nov 11 2026. No macro, syntax, notation, axiom, sorry.
-/
import Derived.Test.YtaimecmjbcpgpaaChecked
import GoSem.Claim
import GoSem.ClaimJoined
import GoSem.ClaimMapViews
import Derived.JoinedTies
import Derived.KernelRfl
namespace Go.Proofs.Ytaimecmjbcpgpaa
/- THE CELL 'sum', in the pinned program and in every row, IS THE sha256 OF THE DUMP (.gsa) THAT YtaimecmjbcpgpaaProg.lean LOADS. Nothing in Lean hashes anything: it is a label: what it is worth is what the hold of that sum in a sandbox is worth. -/
noncomputable def Try.pinned : Pinned := { name := "ytaimecmjbcpgpaa", sum := "1fd01a7f8530590bcd7bec1cdb0aa676506218e78a18d18df91ed27fc2e1f6e6", checked := Try.checked }
namespace Rows
def none {H : Type} : Left H := { results := [], args := [] }

/-- 'laws.FnExactNeedOf': WHATEVER THE INPUT: true; the input reads as it did. -/
def fnExactNeedOfSpec : ChangeSpec := { name := "fnExactNeedOf", fn := fun _ => fun
  | [d] => { results := [.lit (.bool true)], args := [d] }
  | _ => none }
def fnExactNeedOfRow : OpenClaim := { program := "ytaimecmjbcpgpaa", sum := "1fd01a7f8530590bcd7bec1cdb0aa676506218e78a18d18df91ed27fc2e1f6e6", func := "loop.example/g00369/laws.FnExactNeedOf", spec := "fnExactNeedOf", apart := false }
def FnExactNeedOfSaid : Prop := fnExactNeedOfRow.holds Try.pinned (OpenSpec.ofChange fnExactNeedOfSpec)

/-- ITS FALSE NEIGHBOUR: 'it returns false'. Refute it at one input. -/
def fnExactNeedOfWrong : ChangeSpec := { name := "fnExactNeedOf", fn := fun _ => fun
  | [d] => { results := [.lit (.bool false)], args := [d] }
  | _ => none }
def FnExactNeedOfWrongFalsely : Prop := fnExactNeedOfRow.holds Try.pinned (OpenSpec.ofChange fnExactNeedOfWrong)

/-- 'laws.FnExactPrimaryOf': WHATEVER THE INPUT: true; the input reads as it did. -/
def fnExactPrimaryOfSpec : ChangeSpec := { name := "fnExactPrimaryOf", fn := fun _ => fun
  | [d1, d2] => { results := [.lit (.bool true)], args := [d1, d2] }
  | _ => none }
def fnExactPrimaryOfRow : OpenClaim := { program := "ytaimecmjbcpgpaa", sum := "1fd01a7f8530590bcd7bec1cdb0aa676506218e78a18d18df91ed27fc2e1f6e6", func := "loop.example/g00369/laws.FnExactPrimaryOf", spec := "fnExactPrimaryOf", apart := false }
def FnExactPrimaryOfSaid : Prop := fnExactPrimaryOfRow.holds Try.pinned (OpenSpec.ofChange fnExactPrimaryOfSpec)

/-- ITS FALSE NEIGHBOUR: 'it returns false'. Refute it at one input. -/
def fnExactPrimaryOfWrong : ChangeSpec := { name := "fnExactPrimaryOf", fn := fun _ => fun
  | [d1, d2] => { results := [.lit (.bool false)], args := [d1, d2] }
  | _ => none }
def FnExactPrimaryOfWrongFalsely : Prop := fnExactPrimaryOfRow.holds Try.pinned (OpenSpec.ofChange fnExactPrimaryOfWrong)

/-- 'laws.FnExactSameMsgs': WHATEVER THE INPUT: true; the input reads as it did. -/
def fnExactSameMsgsSpec : ChangeSpec := { name := "fnExactSameMsgs", fn := fun _ => fun
  | [d1, d2] => { results := [.lit (.bool true)], args := [d1, d2] }
  | _ => none }
def fnExactSameMsgsRow : OpenClaim := { program := "ytaimecmjbcpgpaa", sum := "1fd01a7f8530590bcd7bec1cdb0aa676506218e78a18d18df91ed27fc2e1f6e6", func := "loop.example/g00369/laws.FnExactSameMsgs", spec := "fnExactSameMsgs", apart := false }
def FnExactSameMsgsSaid : Prop := fnExactSameMsgsRow.holds Try.pinned (OpenSpec.ofChange fnExactSameMsgsSpec)

/-- ITS FALSE NEIGHBOUR: 'it returns false'. Refute it at one input. -/
def fnExactSameMsgsWrong : ChangeSpec := { name := "fnExactSameMsgs", fn := fun _ => fun
  | [d1, d2] => { results := [.lit (.bool false)], args := [d1, d2] }
  | _ => none }
def FnExactSameMsgsWrongFalsely : Prop := fnExactSameMsgsRow.holds Try.pinned (OpenSpec.ofChange fnExactSameMsgsWrong)

/-- 'laws.FnExactMsgFault': WHATEVER THE INPUT: true; the input reads as it did. -/
def fnExactMsgFaultSpec : ChangeSpec := { name := "fnExactMsgFault", fn := fun _ => fun
  | [d1, d2] => { results := [.lit (.bool true)], args := [d1, d2] }
  | _ => none }
def fnExactMsgFaultRow : OpenClaim := { program := "ytaimecmjbcpgpaa", sum := "1fd01a7f8530590bcd7bec1cdb0aa676506218e78a18d18df91ed27fc2e1f6e6", func := "loop.example/g00369/laws.FnExactMsgFault", spec := "fnExactMsgFault", unfollowed := true, recurses := true, apart := false }
def FnExactMsgFaultSaid : Prop := fnExactMsgFaultRow.holds Try.pinned (OpenSpec.ofChange fnExactMsgFaultSpec)

/-- ITS FALSE NEIGHBOUR: 'it returns false'. Refute it at one input. -/
def fnExactMsgFaultWrong : ChangeSpec := { name := "fnExactMsgFault", fn := fun _ => fun
  | [d1, d2] => { results := [.lit (.bool false)], args := [d1, d2] }
  | _ => none }
def FnExactMsgFaultWrongFalsely : Prop := fnExactMsgFaultRow.holds Try.pinned (OpenSpec.ofChange fnExactMsgFaultWrong)

/-- 'laws.FnExactLedgerFault': WHATEVER THE INPUT: true; the input reads as it did. -/
def fnExactLedgerFaultSpec : ChangeSpec := { name := "fnExactLedgerFault", fn := fun _ => fun
  | [d1, d2] => { results := [.lit (.bool true)], args := [d1, d2] }
  | _ => none }
def fnExactLedgerFaultRow : OpenClaim := { program := "ytaimecmjbcpgpaa", sum := "1fd01a7f8530590bcd7bec1cdb0aa676506218e78a18d18df91ed27fc2e1f6e6", func := "loop.example/g00369/laws.FnExactLedgerFault", spec := "fnExactLedgerFault", unfollowed := true, recurses := true, apart := false }
def FnExactLedgerFaultSaid : Prop := fnExactLedgerFaultRow.holds Try.pinned (OpenSpec.ofChange fnExactLedgerFaultSpec)

/-- ITS FALSE NEIGHBOUR: 'it returns false'. Refute it at one input. -/
def fnExactLedgerFaultWrong : ChangeSpec := { name := "fnExactLedgerFault", fn := fun _ => fun
  | [d1, d2] => { results := [.lit (.bool false)], args := [d1, d2] }
  | _ => none }
def FnExactLedgerFaultWrongFalsely : Prop := fnExactLedgerFaultRow.holds Try.pinned (OpenSpec.ofChange fnExactLedgerFaultWrong)

/- THE SECOND FORM. 'bulk': how many values and letters a reading holds, each counted each time it is reached (what is shared counts as often as it is met; a slice's spare places count too). A statement '..UptoSaid' is the law's where the arguments, and the package variables that the reading takes, are together of bulk at most 1048576: NARROWER than '..Said'. Prove '..Said' where nothing that the law and all that it calls make is longer than what came in: it says more and counts as full. Else prove '..UptoSaid'. A law counts once. -/
mutual
def uptoBulk {H : Type} : DataW H → Nat
  | .lit (.string bytes) => bytes.length + 1
  | .lit _ => 1
  | .nil => 1
  | .ptr d => uptoBulk d + 1
  | .slice elems spare => uptoBulkAll elems + uptoBulkAll spare + 1
  | .agg parts => uptoBulkAll parts + 1
  | .iface _ d => uptoBulk d + 1
  | .map entries => uptoBulkEntries entries + 1
  | .held _ => 1
def uptoBulkAll {H : Type} : List (DataW H) → Nat
  | [] => 0
  | d :: r => uptoBulk d + uptoBulkAll r
def uptoBulkEntries {H : Type} : List (Lit × DataW H) → Nat
  | [] => 0
  | x :: r => uptoBulkEntry x + uptoBulkEntries r
def uptoBulkEntry {H : Type} : Lit × DataW H → Nat
  | (.string bytes, d) => bytes.length + uptoBulk d + 1
  | (_, d) => uptoBulk d + 1
 end
def uptoSmall : (H : Type) → List (DataW H) → Bool := fun _ ds => decide (uptoBulkAll ds ≤ 1048576)
def OpenSpec.upto (s : _root_.Go.ChangeSpec) : _root_.Go.OpenSpec := { _root_.Go.OpenSpec.ofChange s with cond := some uptoSmall }

/-- 'laws.FnExactNeedOf', WHERE WHAT IT READS IS OF BULK AT MOST 1048576: true; the input reads as it did. -/
def fnExactNeedOfUptoRow : OpenClaim := { program := "ytaimecmjbcpgpaa", sum := "1fd01a7f8530590bcd7bec1cdb0aa676506218e78a18d18df91ed27fc2e1f6e6", func := "loop.example/g00369/laws.FnExactNeedOf", spec := "fnExactNeedOf", apart := false, narrowed := true }
def FnExactNeedOfUptoSaid : Prop := fnExactNeedOfUptoRow.holds Try.pinned (OpenSpec.upto fnExactNeedOfSpec)

/-- 'laws.FnExactPrimaryOf', WHERE WHAT IT READS IS OF BULK AT MOST 1048576: true; the input reads as it did. -/
def fnExactPrimaryOfUptoRow : OpenClaim := { program := "ytaimecmjbcpgpaa", sum := "1fd01a7f8530590bcd7bec1cdb0aa676506218e78a18d18df91ed27fc2e1f6e6", func := "loop.example/g00369/laws.FnExactPrimaryOf", spec := "fnExactPrimaryOf", apart := false, narrowed := true }
def FnExactPrimaryOfUptoSaid : Prop := fnExactPrimaryOfUptoRow.holds Try.pinned (OpenSpec.upto fnExactPrimaryOfSpec)

/-- 'laws.FnExactSameMsgs', WHERE WHAT IT READS IS OF BULK AT MOST 1048576: true; the input reads as it did. -/
def fnExactSameMsgsUptoRow : OpenClaim := { program := "ytaimecmjbcpgpaa", sum := "1fd01a7f8530590bcd7bec1cdb0aa676506218e78a18d18df91ed27fc2e1f6e6", func := "loop.example/g00369/laws.FnExactSameMsgs", spec := "fnExactSameMsgs", apart := false, narrowed := true }
def FnExactSameMsgsUptoSaid : Prop := fnExactSameMsgsUptoRow.holds Try.pinned (OpenSpec.upto fnExactSameMsgsSpec)

/-- 'laws.FnExactMsgFault', WHERE WHAT IT READS IS OF BULK AT MOST 1048576: true; the input reads as it did. -/
def fnExactMsgFaultUptoRow : OpenClaim := { program := "ytaimecmjbcpgpaa", sum := "1fd01a7f8530590bcd7bec1cdb0aa676506218e78a18d18df91ed27fc2e1f6e6", func := "loop.example/g00369/laws.FnExactMsgFault", spec := "fnExactMsgFault", unfollowed := true, recurses := true, apart := false, narrowed := true }
def FnExactMsgFaultUptoSaid : Prop := fnExactMsgFaultUptoRow.holds Try.pinned (OpenSpec.upto fnExactMsgFaultSpec)

/-- 'laws.FnExactLedgerFault', WHERE WHAT IT READS IS OF BULK AT MOST 1048576: true; the input reads as it did. -/
def fnExactLedgerFaultUptoRow : OpenClaim := { program := "ytaimecmjbcpgpaa", sum := "1fd01a7f8530590bcd7bec1cdb0aa676506218e78a18d18df91ed27fc2e1f6e6", func := "loop.example/g00369/laws.FnExactLedgerFault", spec := "fnExactLedgerFault", unfollowed := true, recurses := true, apart := false, narrowed := true }
def FnExactLedgerFaultUptoSaid : Prop := fnExactLedgerFaultUptoRow.holds Try.pinned (OpenSpec.upto fnExactLedgerFaultSpec)

end Rows
end Go.Proofs.Ytaimecmjbcpgpaa
