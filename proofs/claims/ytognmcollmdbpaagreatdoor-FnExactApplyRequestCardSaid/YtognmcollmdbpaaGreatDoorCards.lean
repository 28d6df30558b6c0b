/-
  DERIVED. GIVEN WITH THE SEED: THE CARDS: each row of YtognmcollmdbpaaGreatDoorRows.lean that lists a variable, with what it lists TIED to the program's text (the seventh form; the later family's looks); each row that meets fmt, with fmt's text TOLD by the authors' own Lean function (tested against real Go, not proved from fmt's source: count such statements apart). THE CARD IS WHAT COUNTS. Prove the row's statement (the work); the ties are given (YtognmcollmdbpaaGreatDoorTie.lean); close each card by the builder's one call (the guide's Derived/Test/ToyasCard.lean, 'card_holds'). Laid BY PROGRAM, IN A SANDBOX (cutbox-door.mjs). By AI agents, Wed Nov 11 2026. No macro, syntax, notation, axiom, sorry.
-/
import Derived.Test.YtognmcollmdbpaaGreatDoorRows
import GoSem.ClaimSeven
namespace Go.Proofs.YtognmcollmdbpaaGreatDoor
namespace Rows

/-- THE TIED CARD OF 'laws.FnExactRunRequests'. -/
def fnExactRunRequestsCard : Claim7 := { stood := { row := fnExactRunRequestsRow, standIns := [], harness := (true, "c3988cef421e2be790adeac9100721c7dc6946fa0b8ab992db0ad4c19354d7d8"), looks := false }, kinds := [], alts := [], laidByText := true, laidKinds := [.data, .pinned], laidTests := true, laidLooks := .later }
def FnExactRunRequestsCardSaid : Prop := Claim7.holds Tryz.pinned (.plain (OpenSpec.ofChange fnExactRunRequestsSpec)) fnExactRunRequestsCard

/-- THE TIED CARD OF 'laws.FnExactRunWatched'. -/
def fnExactRunWatchedCard : Claim7 := { stood := { row := fnExactRunWatchedRow, standIns := [], harness := (true, "c3988cef421e2be790adeac9100721c7dc6946fa0b8ab992db0ad4c19354d7d8"), looks := false }, kinds := [], alts := [], laidByText := true, laidKinds := [.data, .pinned], laidTests := true, laidLooks := .later }
def FnExactRunWatchedCardSaid : Prop := Claim7.holds Tryz.pinned (.plain (OpenSpec.ofChange fnExactRunWatchedSpec)) fnExactRunWatchedCard

/-- THE TIED CARD OF 'laws.FnExactApplyRequest'. -/
def fnExactApplyRequestCard : Claim7 := { stood := { row := fnExactApplyRequestRow, standIns := [], harness := (true, "c3988cef421e2be790adeac9100721c7dc6946fa0b8ab992db0ad4c19354d7d8"), looks := false }, kinds := [], alts := [], laidByText := true, laidKinds := [.data, .pinned], laidTests := true, laidLooks := .later }
def FnExactApplyRequestCardSaid : Prop := Claim7.holds Tryz.pinned (.plain (OpenSpec.ofChange fnExactApplyRequestSpec)) fnExactApplyRequestCard

/-- THE TIED CARD OF 'laws.FnApplies'. -/
def fnAppliesCard : Claim7 := { stood := { row := fnAppliesRow, standIns := [], harness := (true, "c3988cef421e2be790adeac9100721c7dc6946fa0b8ab992db0ad4c19354d7d8"), looks := false }, kinds := [], alts := [], laidByText := true, laidKinds := [.data, .pinned], laidTests := true, laidLooks := .later }
def FnAppliesCardSaid : Prop := Claim7.holds Tryz.pinned (.plain (OpenSpec.ofChange fnAppliesSpec)) fnAppliesCard

/-- THE TIED CARD OF 'laws.FnTold'. -/
def fnToldCard : Claim7 := { stood := { row := fnToldRow, standIns := [], harness := (true, "c3988cef421e2be790adeac9100721c7dc6946fa0b8ab992db0ad4c19354d7d8"), looks := false }, kinds := [], alts := [], laidByText := true, laidKinds := [.data, .pinned], laidTests := true, laidLooks := .later }
def FnToldCardSaid : Prop := Claim7.holds Tryz.pinned (.plain (OpenSpec.ofChange fnToldSpec)) fnToldCard

/-- THE TIED CARD OF 'laws.FnExactApplyOp'. -/
def fnExactApplyOpCard : Claim7 := { stood := { row := fnExactApplyOpRow, standIns := [], harness := (true, "c3988cef421e2be790adeac9100721c7dc6946fa0b8ab992db0ad4c19354d7d8"), looks := false }, kinds := [], alts := [], laidByText := true, laidKinds := [.data, .pinned], laidTests := true, laidLooks := .later }
def FnExactApplyOpCardSaid : Prop := Claim7.holds Tryz.pinned (.plain (OpenSpec.ofChange fnExactApplyOpSpec)) fnExactApplyOpCard

/-- THE TIED CARD OF 'laws.FnOnce'. -/
def fnOnceCard : Claim7 := { stood := { row := fnOnceRow, standIns := [], harness := (true, "c3988cef421e2be790adeac9100721c7dc6946fa0b8ab992db0ad4c19354d7d8"), looks := false }, kinds := [], alts := [], laidByText := true, laidKinds := [.data, .pinned], laidTests := true, laidLooks := .later }
def FnOnceCardSaid : Prop := Claim7.holds Tryz.pinned (.plain (OpenSpec.ofChange fnOnceSpec)) fnOnceCard

/-- THE TIED CARD OF 'laws.FnAllOrNone'. -/
def fnAllOrNoneCard : Claim7 := { stood := { row := fnAllOrNoneRow, standIns := [], harness := (true, "c3988cef421e2be790adeac9100721c7dc6946fa0b8ab992db0ad4c19354d7d8"), looks := false }, kinds := [], alts := [], laidByText := true, laidKinds := [.data, .pinned], laidTests := true, laidLooks := .later }
def FnAllOrNoneCardSaid : Prop := Claim7.holds Tryz.pinned (.plain (OpenSpec.ofChange fnAllOrNoneSpec)) fnAllOrNoneCard

/-- THE TIED CARD OF 'laws.FnRuns'. -/
def fnRunsCard : Claim7 := { stood := { row := fnRunsRow, standIns := [], harness := (true, "c3988cef421e2be790adeac9100721c7dc6946fa0b8ab992db0ad4c19354d7d8"), looks := false }, kinds := [], alts := [], laidByText := true, laidKinds := [.data, .pinned], laidTests := true, laidLooks := .later }
def FnRunsCardSaid : Prop := Claim7.holds Tryz.pinned (.plain (OpenSpec.ofChange fnRunsSpec)) fnRunsCard

/-- THE TIED CARD OF 'laws.FnEvents'. -/
def fnEventsCard : Claim7 := { stood := { row := fnEventsRow, standIns := [], harness := (true, "c3988cef421e2be790adeac9100721c7dc6946fa0b8ab992db0ad4c19354d7d8"), looks := false }, kinds := [], alts := [], laidByText := true, laidKinds := [.data, .pinned], laidTests := true, laidLooks := .later }
def FnEventsCardSaid : Prop := Claim7.holds Tryz.pinned (.plain (OpenSpec.ofChange fnEventsSpec)) fnEventsCard

/-- THE SECOND FORM's CARD OF 'laws.FnExactRunRequests'. -/
def fnExactRunRequestsUptoCard : Claim7 := { stood := { row := fnExactRunRequestsUptoRow, standIns := [], harness := (true, "c3988cef421e2be790adeac9100721c7dc6946fa0b8ab992db0ad4c19354d7d8"), looks := false }, kinds := [], alts := [], laidByText := true, laidKinds := [.data, .pinned], laidTests := true, laidLooks := .later }
def FnExactRunRequestsUptoCardSaid : Prop := Claim7.holds Tryz.pinned (.plain (OpenSpec.upto fnExactRunRequestsSpec)) fnExactRunRequestsUptoCard

/-- THE SECOND FORM's CARD OF 'laws.FnExactRunWatched'. -/
def fnExactRunWatchedUptoCard : Claim7 := { stood := { row := fnExactRunWatchedUptoRow, standIns := [], harness := (true, "c3988cef421e2be790adeac9100721c7dc6946fa0b8ab992db0ad4c19354d7d8"), looks := false }, kinds := [], alts := [], laidByText := true, laidKinds := [.data, .pinned], laidTests := true, laidLooks := .later }
def FnExactRunWatchedUptoCardSaid : Prop := Claim7.holds Tryz.pinned (.plain (OpenSpec.upto fnExactRunWatchedSpec)) fnExactRunWatchedUptoCard

/-- THE SECOND FORM's CARD OF 'laws.FnExactApplyRequest'. -/
def fnExactApplyRequestUptoCard : Claim7 := { stood := { row := fnExactApplyRequestUptoRow, standIns := [], harness := (true, "c3988cef421e2be790adeac9100721c7dc6946fa0b8ab992db0ad4c19354d7d8"), looks := false }, kinds := [], alts := [], laidByText := true, laidKinds := [.data, .pinned], laidTests := true, laidLooks := .later }
def FnExactApplyRequestUptoCardSaid : Prop := Claim7.holds Tryz.pinned (.plain (OpenSpec.upto fnExactApplyRequestSpec)) fnExactApplyRequestUptoCard

/-- THE SECOND FORM's CARD OF 'laws.FnApplies'. -/
def fnAppliesUptoCard : Claim7 := { stood := { row := fnAppliesUptoRow, standIns := [], harness := (true, "c3988cef421e2be790adeac9100721c7dc6946fa0b8ab992db0ad4c19354d7d8"), looks := false }, kinds := [], alts := [], laidByText := true, laidKinds := [.data, .pinned], laidTests := true, laidLooks := .later }
def FnAppliesUptoCardSaid : Prop := Claim7.holds Tryz.pinned (.plain (OpenSpec.upto fnAppliesSpec)) fnAppliesUptoCard

/-- THE SECOND FORM's CARD OF 'laws.FnTold'. -/
def fnToldUptoCard : Claim7 := { stood := { row := fnToldUptoRow, standIns := [], harness := (true, "c3988cef421e2be790adeac9100721c7dc6946fa0b8ab992db0ad4c19354d7d8"), looks := false }, kinds := [], alts := [], laidByText := true, laidKinds := [.data, .pinned], laidTests := true, laidLooks := .later }
def FnToldUptoCardSaid : Prop := Claim7.holds Tryz.pinned (.plain (OpenSpec.upto fnToldSpec)) fnToldUptoCard

/-- THE SECOND FORM's CARD OF 'laws.FnExactApplyOp'. -/
def fnExactApplyOpUptoCard : Claim7 := { stood := { row := fnExactApplyOpUptoRow, standIns := [], harness := (true, "c3988cef421e2be790adeac9100721c7dc6946fa0b8ab992db0ad4c19354d7d8"), looks := false }, kinds := [], alts := [], laidByText := true, laidKinds := [.data, .pinned], laidTests := true, laidLooks := .later }
def FnExactApplyOpUptoCardSaid : Prop := Claim7.holds Tryz.pinned (.plain (OpenSpec.upto fnExactApplyOpSpec)) fnExactApplyOpUptoCard

/-- THE SECOND FORM's CARD OF 'laws.FnOnce'. -/
def fnOnceUptoCard : Claim7 := { stood := { row := fnOnceUptoRow, standIns := [], harness := (true, "c3988cef421e2be790adeac9100721c7dc6946fa0b8ab992db0ad4c19354d7d8"), looks := false }, kinds := [], alts := [], laidByText := true, laidKinds := [.data, .pinned], laidTests := true, laidLooks := .later }
def FnOnceUptoCardSaid : Prop := Claim7.holds Tryz.pinned (.plain (OpenSpec.upto fnOnceSpec)) fnOnceUptoCard

/-- THE SECOND FORM's CARD OF 'laws.FnAllOrNone'. -/
def fnAllOrNoneUptoCard : Claim7 := { stood := { row := fnAllOrNoneUptoRow, standIns := [], harness := (true, "c3988cef421e2be790adeac9100721c7dc6946fa0b8ab992db0ad4c19354d7d8"), looks := false }, kinds := [], alts := [], laidByText := true, laidKinds := [.data, .pinned], laidTests := true, laidLooks := .later }
def FnAllOrNoneUptoCardSaid : Prop := Claim7.holds Tryz.pinned (.plain (OpenSpec.upto fnAllOrNoneSpec)) fnAllOrNoneUptoCard

/-- THE SECOND FORM's CARD OF 'laws.FnRuns'. -/
def fnRunsUptoCard : Claim7 := { stood := { row := fnRunsUptoRow, standIns := [], harness := (true, "c3988cef421e2be790adeac9100721c7dc6946fa0b8ab992db0ad4c19354d7d8"), looks := false }, kinds := [], alts := [], laidByText := true, laidKinds := [.data, .pinned], laidTests := true, laidLooks := .later }
def FnRunsUptoCardSaid : Prop := Claim7.holds Tryz.pinned (.plain (OpenSpec.upto fnRunsSpec)) fnRunsUptoCard

/-- THE SECOND FORM's CARD OF 'laws.FnEvents'. -/
def fnEventsUptoCard : Claim7 := { stood := { row := fnEventsUptoRow, standIns := [], harness := (true, "c3988cef421e2be790adeac9100721c7dc6946fa0b8ab992db0ad4c19354d7d8"), looks := false }, kinds := [], alts := [], laidByText := true, laidKinds := [.data, .pinned], laidTests := true, laidLooks := .later }
def FnEventsUptoCardSaid : Prop := Claim7.holds Tryz.pinned (.plain (OpenSpec.upto fnEventsSpec)) fnEventsUptoCard
end Rows
end Go.Proofs.YtognmcollmdbpaaGreatDoor
