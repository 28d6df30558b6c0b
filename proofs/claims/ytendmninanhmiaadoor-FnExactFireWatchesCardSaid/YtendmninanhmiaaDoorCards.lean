/-
  DERIVED. GIVEN WITH THE SEED: THE CARDS: each row of YtendmninanhmiaaDoorRows.lean that lists a variable, with what it lists TIED to the program's text (the seventh form; the later family's looks); each row that meets fmt, with fmt's text TOLD by the authors' own Lean function (tested against real Go, not proved from fmt's source: count such statements apart). THE CARD IS WHAT COUNTS. Prove the row's statement (the work); the ties are given (YtendmninanhmiaaDoorTie.lean); close each card by the builder's one call (the guide's Derived/Test/ToyasCard.lean, 'card_holds'). Laid BY PROGRAM, IN A SANDBOX (cutbox-door.mjs). By AI agents, Wed Nov 11 2026. No macro, syntax, notation, axiom, sorry.
-/
import Derived.Test.YtendmninanhmiaaDoorRows
import GoSem.ClaimSeven
namespace Go.Proofs.YtendmninanhmiaaDoor
namespace Rows

/-- THE TIED CARD OF 'laws.FnExactWatchesFault'. -/
def fnExactWatchesFaultCard : Claim7 := { stood := { row := fnExactWatchesFaultRow, standIns := [], harness := (true, "271e7ddb052e1142225d23759bd0b4ebefa6fe864ad0b525e2c931588a5f5450"), looks := false }, kinds := [], alts := [], laidByText := true, laidKinds := [.data, .pinned], laidTests := true, laidLooks := .later }
def FnExactWatchesFaultCardSaid : Prop := Claim7.holds Tryd.pinned (.plain (OpenSpec.ofChange fnExactWatchesFaultSpec)) fnExactWatchesFaultCard

/-- THE TIED CARD OF 'laws.FnExactEventText'. -/
def fnExactEventTextCard : Claim7 := { stood := { row := fnExactEventTextRow, standIns := [], harness := (true, "271e7ddb052e1142225d23759bd0b4ebefa6fe864ad0b525e2c931588a5f5450"), looks := false }, kinds := [], alts := [], laidByText := true, laidKinds := [.data, .data, .data, .data, .pinned], laidTests := true, laidLooks := .later }
def FnExactEventTextCardSaid : Prop := Claim7.holds Tryd.pinned (.plain (OpenSpec.ofChange fnExactEventTextSpec)) fnExactEventTextCard

/-- THE TIED CARD OF 'laws.FnExactAddWatch'. -/
def fnExactAddWatchCard : Claim7 := { stood := { row := fnExactAddWatchRow, standIns := [], harness := (true, "271e7ddb052e1142225d23759bd0b4ebefa6fe864ad0b525e2c931588a5f5450"), looks := false }, kinds := [], alts := [], laidByText := true, laidKinds := [.data, .pinned], laidTests := true, laidLooks := .later }
def FnExactAddWatchCardSaid : Prop := Claim7.holds Tryd.pinned (.plain (OpenSpec.ofChange fnExactAddWatchSpec)) fnExactAddWatchCard

/-- THE TIED CARD OF 'laws.FnExactChangeOf'. -/
def fnExactChangeOfCard : Claim7 := { stood := { row := fnExactChangeOfRow, standIns := [], harness := (true, "271e7ddb052e1142225d23759bd0b4ebefa6fe864ad0b525e2c931588a5f5450"), looks := false }, kinds := [], alts := [], laidByText := true, laidKinds := [.data, .pinned], laidTests := true, laidLooks := .later }
def FnExactChangeOfCardSaid : Prop := Claim7.holds Tryd.pinned (.plain (OpenSpec.ofChange fnExactChangeOfSpec)) fnExactChangeOfCard

/-- THE TIED CARD OF 'laws.FnExactStateFault'. -/
def fnExactStateFaultCard : Claim7 := { stood := { row := fnExactStateFaultRow, standIns := [], harness := (true, "271e7ddb052e1142225d23759bd0b4ebefa6fe864ad0b525e2c931588a5f5450"), looks := false }, kinds := [], alts := [], laidByText := true, laidKinds := [.data, .pinned], laidTests := true, laidLooks := .later }
def FnExactStateFaultCardSaid : Prop := Claim7.holds Tryd.pinned (.plain (OpenSpec.ofChange fnExactStateFaultSpec)) fnExactStateFaultCard

/-- THE TIED CARD OF 'laws.FnExactMarkOf'. -/
def fnExactMarkOfCard : Claim7 := { stood := { row := fnExactMarkOfRow, standIns := [], harness := (true, "271e7ddb052e1142225d23759bd0b4ebefa6fe864ad0b525e2c931588a5f5450"), looks := false }, kinds := [], alts := [], laidByText := true, laidKinds := [.data, .pinned], laidTests := true, laidLooks := .later }
def FnExactMarkOfCardSaid : Prop := Claim7.holds Tryd.pinned (.plain (OpenSpec.ofChange fnExactMarkOfSpec)) fnExactMarkOfCard

/-- THE TIED CARD OF 'laws.FnExactFireWatches'. -/
def fnExactFireWatchesCard : Claim7 := { stood := { row := fnExactFireWatchesRow, standIns := [], harness := (true, "271e7ddb052e1142225d23759bd0b4ebefa6fe864ad0b525e2c931588a5f5450"), looks := false }, kinds := [], alts := [], laidByText := true, laidKinds := [.data, .pinned], laidTests := true, laidLooks := .later }
def FnExactFireWatchesCardSaid : Prop := Claim7.holds Tryd.pinned (.plain (OpenSpec.ofChange fnExactFireWatchesSpec)) fnExactFireWatchesCard

/-- THE TIED CARD OF 'laws.FnExactRootIn'. -/
def fnExactRootInCard : Claim7 := { stood := { row := fnExactRootInRow, standIns := [], harness := (true, "271e7ddb052e1142225d23759bd0b4ebefa6fe864ad0b525e2c931588a5f5450"), looks := false }, kinds := [], alts := [], laidByText := true, laidKinds := [.data, .pinned], laidTests := true, laidLooks := .later }
def FnExactRootInCardSaid : Prop := Claim7.holds Tryd.pinned (.plain (OpenSpec.ofChange fnExactRootInSpec)) fnExactRootInCard

/-- THE SECOND FORM's CARD OF 'laws.FnExactWatchesFault'. -/
def fnExactWatchesFaultUptoCard : Claim7 := { stood := { row := fnExactWatchesFaultUptoRow, standIns := [], harness := (true, "271e7ddb052e1142225d23759bd0b4ebefa6fe864ad0b525e2c931588a5f5450"), looks := false }, kinds := [], alts := [], laidByText := true, laidKinds := [.data, .pinned], laidTests := true, laidLooks := .later }
def FnExactWatchesFaultUptoCardSaid : Prop := Claim7.holds Tryd.pinned (.plain (OpenSpec.upto fnExactWatchesFaultSpec)) fnExactWatchesFaultUptoCard

/-- THE SECOND FORM's CARD OF 'laws.FnExactEventText'. -/
def fnExactEventTextUptoCard : Claim7 := { stood := { row := fnExactEventTextUptoRow, standIns := [], harness := (true, "271e7ddb052e1142225d23759bd0b4ebefa6fe864ad0b525e2c931588a5f5450"), looks := false }, kinds := [], alts := [], laidByText := true, laidKinds := [.data, .data, .data, .data, .pinned], laidTests := true, laidLooks := .later }
def FnExactEventTextUptoCardSaid : Prop := Claim7.holds Tryd.pinned (.plain (OpenSpec.upto fnExactEventTextSpec)) fnExactEventTextUptoCard

/-- THE SECOND FORM's CARD OF 'laws.FnExactAddWatch'. -/
def fnExactAddWatchUptoCard : Claim7 := { stood := { row := fnExactAddWatchUptoRow, standIns := [], harness := (true, "271e7ddb052e1142225d23759bd0b4ebefa6fe864ad0b525e2c931588a5f5450"), looks := false }, kinds := [], alts := [], laidByText := true, laidKinds := [.data, .pinned], laidTests := true, laidLooks := .later }
def FnExactAddWatchUptoCardSaid : Prop := Claim7.holds Tryd.pinned (.plain (OpenSpec.upto fnExactAddWatchSpec)) fnExactAddWatchUptoCard

/-- THE SECOND FORM's CARD OF 'laws.FnExactChangeOf'. -/
def fnExactChangeOfUptoCard : Claim7 := { stood := { row := fnExactChangeOfUptoRow, standIns := [], harness := (true, "271e7ddb052e1142225d23759bd0b4ebefa6fe864ad0b525e2c931588a5f5450"), looks := false }, kinds := [], alts := [], laidByText := true, laidKinds := [.data, .pinned], laidTests := true, laidLooks := .later }
def FnExactChangeOfUptoCardSaid : Prop := Claim7.holds Tryd.pinned (.plain (OpenSpec.upto fnExactChangeOfSpec)) fnExactChangeOfUptoCard

/-- THE SECOND FORM's CARD OF 'laws.FnExactStateFault'. -/
def fnExactStateFaultUptoCard : Claim7 := { stood := { row := fnExactStateFaultUptoRow, standIns := [], harness := (true, "271e7ddb052e1142225d23759bd0b4ebefa6fe864ad0b525e2c931588a5f5450"), looks := false }, kinds := [], alts := [], laidByText := true, laidKinds := [.data, .pinned], laidTests := true, laidLooks := .later }
def FnExactStateFaultUptoCardSaid : Prop := Claim7.holds Tryd.pinned (.plain (OpenSpec.upto fnExactStateFaultSpec)) fnExactStateFaultUptoCard

/-- THE SECOND FORM's CARD OF 'laws.FnExactMarkOf'. -/
def fnExactMarkOfUptoCard : Claim7 := { stood := { row := fnExactMarkOfUptoRow, standIns := [], harness := (true, "271e7ddb052e1142225d23759bd0b4ebefa6fe864ad0b525e2c931588a5f5450"), looks := false }, kinds := [], alts := [], laidByText := true, laidKinds := [.data, .pinned], laidTests := true, laidLooks := .later }
def FnExactMarkOfUptoCardSaid : Prop := Claim7.holds Tryd.pinned (.plain (OpenSpec.upto fnExactMarkOfSpec)) fnExactMarkOfUptoCard

/-- THE SECOND FORM's CARD OF 'laws.FnExactFireWatches'. -/
def fnExactFireWatchesUptoCard : Claim7 := { stood := { row := fnExactFireWatchesUptoRow, standIns := [], harness := (true, "271e7ddb052e1142225d23759bd0b4ebefa6fe864ad0b525e2c931588a5f5450"), looks := false }, kinds := [], alts := [], laidByText := true, laidKinds := [.data, .pinned], laidTests := true, laidLooks := .later }
def FnExactFireWatchesUptoCardSaid : Prop := Claim7.holds Tryd.pinned (.plain (OpenSpec.upto fnExactFireWatchesSpec)) fnExactFireWatchesUptoCard

/-- THE SECOND FORM's CARD OF 'laws.FnExactRootIn'. -/
def fnExactRootInUptoCard : Claim7 := { stood := { row := fnExactRootInUptoRow, standIns := [], harness := (true, "271e7ddb052e1142225d23759bd0b4ebefa6fe864ad0b525e2c931588a5f5450"), looks := false }, kinds := [], alts := [], laidByText := true, laidKinds := [.data, .pinned], laidTests := true, laidLooks := .later }
def FnExactRootInUptoCardSaid : Prop := Claim7.holds Tryd.pinned (.plain (OpenSpec.upto fnExactRootInSpec)) fnExactRootInUptoCard
end Rows
end Go.Proofs.YtendmninanhmiaaDoor
