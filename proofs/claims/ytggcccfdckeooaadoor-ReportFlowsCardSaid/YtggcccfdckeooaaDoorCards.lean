/-
  DERIVED. GIVEN WITH THE SEED: THE CARDS: each row of YtggcccfdckeooaaDoorRows.lean that lists a variable, with what it lists TIED to the program's text (the seventh form; the later family's looks); each row that meets fmt, with fmt's text TOLD by the authors' own Lean function (tested against real Go, not proved from fmt's source: count such statements apart). THE CARD IS WHAT COUNTS. Prove the row's statement (the work); the ties are given (YtggcccfdckeooaaDoorTie.lean); close each card by the builder's one call (the guide's Derived/Test/ToyasCard.lean, 'card_holds'). Laid BY PROGRAM, IN A SANDBOX (cutbox-door.mjs). By AI agents, Wed Nov 11 2026. No macro, syntax, notation, axiom, sorry.
-/
import Derived.Test.YtggcccfdckeooaaDoorRows
import GoSem.ClaimSeven
namespace Go.Proofs.YtggcccfdckeooaaDoor
namespace Rows

/-- THE TIED CARD OF 'broughamlaw37.ReportBars'. -/
def reportBarsCard : Claim7 := { stood := { row := reportBarsRow, standIns := [], harness := (true, "d9f94589f4e042c65d1cb5279027ead9be8f607bfe76b3e169c10f99483419cd"), looks := false }, kinds := [], alts := [], laidByText := true, laidKinds := [.data, .pinned], laidTests := true, laidLooks := .later }
def ReportBarsCardSaid : Prop := Claim7.holds Tryd.pinned (.plain (OpenSpec.ofChange reportBarsSpec)) reportBarsCard

/-- THE TIED CARD OF 'broughamlaw37.ReportFlows'. -/
def reportFlowsCard : Claim7 := { stood := { row := reportFlowsRow, standIns := [], harness := (true, "d9f94589f4e042c65d1cb5279027ead9be8f607bfe76b3e169c10f99483419cd"), looks := false }, kinds := [], alts := [], laidByText := true, laidKinds := [.data, .pinned], laidTests := true, laidLooks := .later }
def ReportFlowsCardSaid : Prop := Claim7.holds Tryd.pinned (.plain (OpenSpec.ofChange reportFlowsSpec)) reportFlowsCard

/-- THE SECOND FORM's CARD OF 'broughamlaw37.ReportBars'. -/
def reportBarsUptoCard : Claim7 := { stood := { row := reportBarsUptoRow, standIns := [], harness := (true, "d9f94589f4e042c65d1cb5279027ead9be8f607bfe76b3e169c10f99483419cd"), looks := false }, kinds := [], alts := [], laidByText := true, laidKinds := [.data, .pinned], laidTests := true, laidLooks := .later }
def ReportBarsUptoCardSaid : Prop := Claim7.holds Tryd.pinned (.plain (OpenSpec.upto reportBarsSpec)) reportBarsUptoCard

/-- THE SECOND FORM's CARD OF 'broughamlaw37.ReportFlows'. -/
def reportFlowsUptoCard : Claim7 := { stood := { row := reportFlowsUptoRow, standIns := [], harness := (true, "d9f94589f4e042c65d1cb5279027ead9be8f607bfe76b3e169c10f99483419cd"), looks := false }, kinds := [], alts := [], laidByText := true, laidKinds := [.data, .pinned], laidTests := true, laidLooks := .later }
def ReportFlowsUptoCardSaid : Prop := Claim7.holds Tryd.pinned (.plain (OpenSpec.upto reportFlowsSpec)) reportFlowsUptoCard
end Rows
end Go.Proofs.YtggcccfdckeooaaDoor
