/-
  DERIVED. GIVEN WITH THE SEED: THE CARDS: each row of YtbmbimholikljaaDoorRows.lean that lists a variable, with what it lists TIED to the program's text (the seventh form; the later family's looks); each row that meets fmt, with fmt's text TOLD by the authors' own Lean function (tested against real Go, not proved from fmt's source: count such statements apart). THE CARD IS WHAT COUNTS. Prove the row's statement (the work); the ties are given (YtbmbimholikljaaDoorTie.lean); close each card by the builder's one call (the guide's Derived/Test/ToyasCard.lean, 'card_holds'). Laid BY PROGRAM, IN A SANDBOX (cutbox-door.mjs). By AI agents, Wed Nov 11 2026. No macro, syntax, notation, axiom, sorry.
-/
import Derived.Test.YtbmbimholikljaaDoorRows
import GoSem.ClaimSeven
namespace Go.Proofs.YtbmbimholikljaaDoor
namespace Rows

/-- THE TIED CARD OF 'broughamlaw37.ReportBars'. -/
def reportBarsCard : Claim7 := { stood := { row := reportBarsRow, standIns := [], harness := (true, "adcbbdc003efd063a9a809b803c37d47192a50c792fa6d7e4cf1b4191be777a5"), looks := false }, kinds := [], alts := [], laidByText := true, laidKinds := [.data, .pinned], laidTests := true, laidLooks := .later }
def ReportBarsCardSaid : Prop := Claim7.holds Tryd.pinned (.plain (OpenSpec.ofChange reportBarsSpec)) reportBarsCard

/-- THE SECOND FORM's CARD OF 'broughamlaw37.ReportBars'. -/
def reportBarsUptoCard : Claim7 := { stood := { row := reportBarsUptoRow, standIns := [], harness := (true, "adcbbdc003efd063a9a809b803c37d47192a50c792fa6d7e4cf1b4191be777a5"), looks := false }, kinds := [], alts := [], laidByText := true, laidKinds := [.data, .pinned], laidTests := true, laidLooks := .later }
def ReportBarsUptoCardSaid : Prop := Claim7.holds Tryd.pinned (.plain (OpenSpec.upto reportBarsSpec)) reportBarsUptoCard
end Rows
end Go.Proofs.YtbmbimholikljaaDoor
