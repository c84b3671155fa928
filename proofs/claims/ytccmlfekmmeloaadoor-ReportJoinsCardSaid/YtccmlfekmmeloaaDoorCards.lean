/-
  DERIVED. GIVEN WITH THE SEED: THE CARDS: each row of YtccmlfekmmeloaaDoorRows.lean that lists a variable, with what it lists TIED to the program's text (the seventh form; the later family's looks); each row that meets fmt, with fmt's text TOLD by the authors' own Lean function (tested against real Go, not proved from fmt's source: count such statements apart). THE CARD IS WHAT COUNTS. Prove the row's statement (the work); the ties are given (YtccmlfekmmeloaaDoorTie.lean); close each card by the builder's one call (the guide's Derived/Test/ToyasCard.lean, 'card_holds'). Laid BY PROGRAM, IN A SANDBOX (cutbox-door.mjs). By AI agents, Wed Nov 11 2026. No macro, syntax, notation, axiom, sorry.
-/
import Derived.Test.YtccmlfekmmeloaaDoorRows
import GoSem.ClaimSeven
namespace Go.Proofs.YtccmlfekmmeloaaDoor
namespace Rows

/-- THE TIED CARD OF 'broughamlaw37.ReportNumbers'. -/
def reportNumbersCard : Claim7 := { stood := { row := reportNumbersRow, standIns := [], harness := (true, "8967623d05b98aa0b75df74850bed7ff949f26226d864e3ed4869ef63c2a0ed4"), looks := false }, kinds := [], alts := [], laidByText := true, laidKinds := [.data, .pinned], laidTests := true, laidLooks := .later }
def ReportNumbersCardSaid : Prop := Claim7.holds Tryd.pinned (.plain (OpenSpec.ofChange reportNumbersSpec)) reportNumbersCard

/-- THE TIED CARD OF 'broughamlaw37.ReportTables'. -/
def reportTablesCard : Claim7 := { stood := { row := reportTablesRow, standIns := [], harness := (true, "8967623d05b98aa0b75df74850bed7ff949f26226d864e3ed4869ef63c2a0ed4"), looks := false }, kinds := [], alts := [], laidByText := true, laidKinds := [.data, .pinned], laidTests := true, laidLooks := .later }
def ReportTablesCardSaid : Prop := Claim7.holds Tryd.pinned (.plain (OpenSpec.ofChange reportTablesSpec)) reportTablesCard

/-- THE TIED CARD OF 'broughamlaw37.ReportJoins'. -/
def reportJoinsCard : Claim7 := { stood := { row := reportJoinsRow, standIns := [], harness := (true, "8967623d05b98aa0b75df74850bed7ff949f26226d864e3ed4869ef63c2a0ed4"), looks := false }, kinds := [], alts := [], laidByText := true, laidKinds := [.data, .pinned], laidTests := true, laidLooks := .later }
def ReportJoinsCardSaid : Prop := Claim7.holds Tryd.pinned (.plain (OpenSpec.ofChange reportJoinsSpec)) reportJoinsCard

/-- THE SECOND FORM's CARD OF 'broughamlaw37.ReportNumbers'. -/
def reportNumbersUptoCard : Claim7 := { stood := { row := reportNumbersUptoRow, standIns := [], harness := (true, "8967623d05b98aa0b75df74850bed7ff949f26226d864e3ed4869ef63c2a0ed4"), looks := false }, kinds := [], alts := [], laidByText := true, laidKinds := [.data, .pinned], laidTests := true, laidLooks := .later }
def ReportNumbersUptoCardSaid : Prop := Claim7.holds Tryd.pinned (.plain (OpenSpec.upto reportNumbersSpec)) reportNumbersUptoCard

/-- THE SECOND FORM's CARD OF 'broughamlaw37.ReportTables'. -/
def reportTablesUptoCard : Claim7 := { stood := { row := reportTablesUptoRow, standIns := [], harness := (true, "8967623d05b98aa0b75df74850bed7ff949f26226d864e3ed4869ef63c2a0ed4"), looks := false }, kinds := [], alts := [], laidByText := true, laidKinds := [.data, .pinned], laidTests := true, laidLooks := .later }
def ReportTablesUptoCardSaid : Prop := Claim7.holds Tryd.pinned (.plain (OpenSpec.upto reportTablesSpec)) reportTablesUptoCard

/-- THE SECOND FORM's CARD OF 'broughamlaw37.ReportJoins'. -/
def reportJoinsUptoCard : Claim7 := { stood := { row := reportJoinsUptoRow, standIns := [], harness := (true, "8967623d05b98aa0b75df74850bed7ff949f26226d864e3ed4869ef63c2a0ed4"), looks := false }, kinds := [], alts := [], laidByText := true, laidKinds := [.data, .pinned], laidTests := true, laidLooks := .later }
def ReportJoinsUptoCardSaid : Prop := Claim7.holds Tryd.pinned (.plain (OpenSpec.upto reportJoinsSpec)) reportJoinsUptoCard
end Rows
end Go.Proofs.YtccmlfekmmeloaaDoor
