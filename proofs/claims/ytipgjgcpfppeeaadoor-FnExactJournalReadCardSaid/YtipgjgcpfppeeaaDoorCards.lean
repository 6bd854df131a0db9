/-
  DERIVED. GIVEN WITH THE SEED: THE CARDS: each row of YtipgjgcpfppeeaaDoorRows.lean that lists a variable, with what it lists TIED to the program's text (the seventh form; the later family's looks); each row that meets fmt, with fmt's text TOLD by the authors' own Lean function (tested against real Go, not proved from fmt's source: count such statements apart). THE CARD IS WHAT COUNTS. Prove the row's statement (the work); the ties are given (YtipgjgcpfppeeaaDoorTie.lean); close each card by the builder's one call (the guide's Derived/Test/ToyasCard.lean, 'card_holds'). Laid BY PROGRAM, IN A SANDBOX (cutbox-door.mjs). By AI agents, Wed Nov 11 2026. No macro, syntax, notation, axiom, sorry.
-/
import Derived.Test.YtipgjgcpfppeeaaDoorRows
import GoSem.ClaimSeven
namespace Go.Proofs.YtipgjgcpfppeeaaDoor
namespace Rows

/-- THE TIED CARD OF 'laws.FnExactOpText'. -/
def fnExactOpTextCard : Claim7 := { stood := { row := fnExactOpTextRow, standIns := [], harness := (true, "f4f87aca6647d9292c3873010a5e5aece1e5d143ab66fa14c4ce502f090f9750"), looks := true }, kinds := [], alts := [], laidByText := true, laidKinds := [.data, .data, .data], laidTests := true, laidLooks := .later }
def FnExactOpTextCardSaid : Prop := Claim7.holds Tryd.pinned (.plain (OpenSpec.ofChange fnExactOpTextSpec)) fnExactOpTextCard

/-- THE TIED CARD OF 'laws.FnExactJournalText'. -/
def fnExactJournalTextCard : Claim7 := { stood := { row := fnExactJournalTextRow, standIns := [], harness := (true, "f4f87aca6647d9292c3873010a5e5aece1e5d143ab66fa14c4ce502f090f9750"), looks := true }, kinds := [], alts := [], laidByText := true, laidKinds := [.data, .data, .data], laidTests := true, laidLooks := .later }
def FnExactJournalTextCardSaid : Prop := Claim7.holds Tryd.pinned (.plain (OpenSpec.ofChange fnExactJournalTextSpec)) fnExactJournalTextCard

/-- THE TIED CARD OF 'laws.FnExactJournalCut'. -/
def fnExactJournalCutCard : Claim7 := { stood := { row := fnExactJournalCutRow, standIns := [], harness := (true, "f4f87aca6647d9292c3873010a5e5aece1e5d143ab66fa14c4ce502f090f9750"), looks := true }, kinds := [], alts := [], laidByText := true, laidKinds := [.data, .data, .data, .data, .sentinel, .sentinel, .pinned], laidTests := true, laidLooks := .later }
def FnExactJournalCutCardSaid : Prop := Claim7.holds Tryd.pinned (.plain (OpenSpec.ofChange fnExactJournalCutSpec)) fnExactJournalCutCard

/-- THE TIED CARD OF 'laws.FnExactJournalRead'. -/
def fnExactJournalReadCard : Claim7 := { stood := { row := fnExactJournalReadRow, standIns := [], harness := (true, "f4f87aca6647d9292c3873010a5e5aece1e5d143ab66fa14c4ce502f090f9750"), looks := true }, kinds := [], alts := [], laidByText := true, laidKinds := [.data, .data, .data, .data, .sentinel, .sentinel, .pinned], laidTests := true, laidLooks := .later }
def FnExactJournalReadCardSaid : Prop := Claim7.holds Tryd.pinned (.plain (OpenSpec.ofChange fnExactJournalReadSpec)) fnExactJournalReadCard

/-- THE SECOND FORM's CARD OF 'laws.FnExactOpText'. -/
def fnExactOpTextUptoCard : Claim7 := { stood := { row := fnExactOpTextUptoRow, standIns := [], harness := (true, "f4f87aca6647d9292c3873010a5e5aece1e5d143ab66fa14c4ce502f090f9750"), looks := true }, kinds := [], alts := [], laidByText := true, laidKinds := [.data, .data, .data], laidTests := true, laidLooks := .later }
def FnExactOpTextUptoCardSaid : Prop := Claim7.holds Tryd.pinned (.plain (OpenSpec.upto fnExactOpTextSpec)) fnExactOpTextUptoCard

/-- THE SECOND FORM's CARD OF 'laws.FnExactJournalText'. -/
def fnExactJournalTextUptoCard : Claim7 := { stood := { row := fnExactJournalTextUptoRow, standIns := [], harness := (true, "f4f87aca6647d9292c3873010a5e5aece1e5d143ab66fa14c4ce502f090f9750"), looks := true }, kinds := [], alts := [], laidByText := true, laidKinds := [.data, .data, .data], laidTests := true, laidLooks := .later }
def FnExactJournalTextUptoCardSaid : Prop := Claim7.holds Tryd.pinned (.plain (OpenSpec.upto fnExactJournalTextSpec)) fnExactJournalTextUptoCard

/-- THE SECOND FORM's CARD OF 'laws.FnExactJournalCut'. -/
def fnExactJournalCutUptoCard : Claim7 := { stood := { row := fnExactJournalCutUptoRow, standIns := [], harness := (true, "f4f87aca6647d9292c3873010a5e5aece1e5d143ab66fa14c4ce502f090f9750"), looks := true }, kinds := [], alts := [], laidByText := true, laidKinds := [.data, .data, .data, .data, .sentinel, .sentinel, .pinned], laidTests := true, laidLooks := .later }
def FnExactJournalCutUptoCardSaid : Prop := Claim7.holds Tryd.pinned (.plain (OpenSpec.upto fnExactJournalCutSpec)) fnExactJournalCutUptoCard

/-- THE SECOND FORM's CARD OF 'laws.FnExactJournalRead'. -/
def fnExactJournalReadUptoCard : Claim7 := { stood := { row := fnExactJournalReadUptoRow, standIns := [], harness := (true, "f4f87aca6647d9292c3873010a5e5aece1e5d143ab66fa14c4ce502f090f9750"), looks := true }, kinds := [], alts := [], laidByText := true, laidKinds := [.data, .data, .data, .data, .sentinel, .sentinel, .pinned], laidTests := true, laidLooks := .later }
def FnExactJournalReadUptoCardSaid : Prop := Claim7.holds Tryd.pinned (.plain (OpenSpec.upto fnExactJournalReadSpec)) fnExactJournalReadUptoCard
end Rows
end Go.Proofs.YtipgjgcpfppeeaaDoor
