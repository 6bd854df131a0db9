/-
  DERIVED. GIVEN WITH THE SEED: THE CARDS: each row of YtnoanpohmppnaaaGreatDoorRows.lean that lists a variable, with what it lists TIED to the program's text (the seventh form; the later family's looks); each row that meets fmt, with fmt's text TOLD by the authors' own Lean function (tested against real Go, not proved from fmt's source: count such statements apart). THE CARD IS WHAT COUNTS. Prove the row's statement (the work); the ties are given (YtnoanpohmppnaaaGreatDoorTie.lean); close each card by the builder's one call (the guide's Derived/Test/ToyasCard.lean, 'card_holds'). Laid BY PROGRAM, IN A SANDBOX (cutbox-door.mjs). By AI agents, Wed Nov 11 2026. No macro, syntax, notation, axiom, sorry.
-/
import Derived.Test.YtnoanpohmppnaaaGreatDoorRows
import GoSem.ClaimSeven
namespace Go.Proofs.YtnoanpohmppnaaaGreatDoor
namespace Rows

/-- THE TIED CARD OF 'laws.FnExactReportText'. -/
def fnExactReportTextCard : Claim7 := { stood := { row := fnExactReportTextRow, standIns := [], harness := (true, "ae5bd03edf76527fbb4ee59e1806aa51834def087223f0396836022bce0a3a5a"), looks := false }, kinds := [], alts := [], laidByText := true, laidKinds := [.data, .data, .data], laidTests := true, laidLooks := .later }
def FnExactReportTextCardSaid : Prop := Claim7.holds Tryz.pinned (.plain (OpenSpec.ofChange fnExactReportTextSpec)) fnExactReportTextCard

/-- THE TIED CARD OF 'laws.FnExactReportWhy'. -/
def fnExactReportWhyCard : Claim7 := { stood := { row := fnExactReportWhyRow, standIns := [], harness := (true, "ae5bd03edf76527fbb4ee59e1806aa51834def087223f0396836022bce0a3a5a"), looks := false }, kinds := [], alts := [], laidByText := true, laidKinds := [.data, .data, .data], laidTests := true, laidLooks := .later }
def FnExactReportWhyCardSaid : Prop := Claim7.holds Tryz.pinned (.plain (OpenSpec.ofChange fnExactReportWhySpec)) fnExactReportWhyCard

/-- THE SECOND FORM's CARD OF 'laws.FnExactReportText'. -/
def fnExactReportTextUptoCard : Claim7 := { stood := { row := fnExactReportTextUptoRow, standIns := [], harness := (true, "ae5bd03edf76527fbb4ee59e1806aa51834def087223f0396836022bce0a3a5a"), looks := false }, kinds := [], alts := [], laidByText := true, laidKinds := [.data, .data, .data], laidTests := true, laidLooks := .later }
def FnExactReportTextUptoCardSaid : Prop := Claim7.holds Tryz.pinned (.plain (OpenSpec.upto fnExactReportTextSpec)) fnExactReportTextUptoCard

/-- THE SECOND FORM's CARD OF 'laws.FnExactReportWhy'. -/
def fnExactReportWhyUptoCard : Claim7 := { stood := { row := fnExactReportWhyUptoRow, standIns := [], harness := (true, "ae5bd03edf76527fbb4ee59e1806aa51834def087223f0396836022bce0a3a5a"), looks := false }, kinds := [], alts := [], laidByText := true, laidKinds := [.data, .data, .data], laidTests := true, laidLooks := .later }
def FnExactReportWhyUptoCardSaid : Prop := Claim7.holds Tryz.pinned (.plain (OpenSpec.upto fnExactReportWhySpec)) fnExactReportWhyUptoCard
end Rows
end Go.Proofs.YtnoanpohmppnaaaGreatDoor
