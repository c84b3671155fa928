/-
  No cell of these rows narrows 'for every input' (looked for: loops, veiled, ifaces, maps, wideKeys, modest, calm, conditions, laid).
  DERIVED. THE GIVEN ROWS OF THIS SEAT. 12 by the template 'for every input the law returns true; each argument reads behind the call as it read before'; 0 by the template 'total and deterministic' (their statements: YtegocoicdcpgaaaTotals.lean).
  GIVEN WITH THE SEED: the statements are not yours to turn. If you find one false, say at which input.
  Laid BY PROGRAM, IN A SANDBOX (cutbox-rows.mjs): the forced cells as the released guide's own fill.sh prints them over the translation 032c12386d37d4ac… (all of the seat's roots in one cut). By AI agents, Wed Nov 11 2026. No macro, syntax, notation, axiom, sorry.
-/
import Derived.Test.YtegocoicdcpgaaaChecked
import GoSem.Claim
import GoSem.ClaimJoined
import GoSem.ClaimMapViews
import Derived.JoinedTies
import Derived.KernelRfl
namespace Go.Proofs.Ytegocoicdcpgaaa
/- THE CELL 'sum', in the pinned program and in every row, IS THE sha256 OF THE DUMP (.gsa) THAT YtegocoicdcpgaaaProg.lean LOADS. Nothing in Lean hashes anything: it is a label: what it is worth is what the hold of that sum in a sandbox is worth. -/
noncomputable def Try.pinned : Pinned := { name := "ytegocoicdcpgaaa", sum := "032c12386d37d4ac1e055d500e4c6b945c35ef8074916b1e5e1b4d22eb514fe7", checked := Try.checked }
namespace Rows
def none {H : Type} : Left H := { results := [], args := [] }

/-- 'broughamlaw05.RingOrder': WHATEVER THE INPUT: true; the input reads as it did. -/
def ringOrderSpec : ChangeSpec := { name := "ringOrder", fn := fun _ => fun
  | [d1, d2, d3] => { results := [.lit (.bool true)], args := [d1, d2, d3] }
  | _ => none }
def ringOrderRow : OpenClaim := { program := "ytegocoicdcpgaaa", sum := "032c12386d37d4ac1e055d500e4c6b945c35ef8074916b1e5e1b4d22eb514fe7", func := "brougham/broughamlaw05.RingOrder", spec := "ringOrder", apart := false }
def RingOrderSaid : Prop := ringOrderRow.holds Try.pinned (OpenSpec.ofChange ringOrderSpec)

/-- ITS FALSE NEIGHBOUR: 'it returns false'. Refute it at one input. -/
def ringOrderWrong : ChangeSpec := { name := "ringOrder", fn := fun _ => fun
  | [d1, d2, d3] => { results := [.lit (.bool false)], args := [d1, d2, d3] }
  | _ => none }
def RingOrderWrongFalsely : Prop := ringOrderRow.holds Try.pinned (OpenSpec.ofChange ringOrderWrong)

/-- 'broughamlaw05.RingSets': WHATEVER THE INPUT: true; the input reads as it did. -/
def ringSetsSpec : ChangeSpec := { name := "ringSets", fn := fun _ => fun
  | [d1, d2, d3] => { results := [.lit (.bool true)], args := [d1, d2, d3] }
  | _ => none }
def ringSetsRow : OpenClaim := { program := "ytegocoicdcpgaaa", sum := "032c12386d37d4ac1e055d500e4c6b945c35ef8074916b1e5e1b4d22eb514fe7", func := "brougham/broughamlaw05.RingSets", spec := "ringSets", apart := false }
def RingSetsSaid : Prop := ringSetsRow.holds Try.pinned (OpenSpec.ofChange ringSetsSpec)

/-- ITS FALSE NEIGHBOUR: 'it returns false'. Refute it at one input. -/
def ringSetsWrong : ChangeSpec := { name := "ringSets", fn := fun _ => fun
  | [d1, d2, d3] => { results := [.lit (.bool false)], args := [d1, d2, d3] }
  | _ => none }
def RingSetsWrongFalsely : Prop := ringSetsRow.holds Try.pinned (OpenSpec.ofChange ringSetsWrong)

/-- 'broughamlaw44.HistRows': WHATEVER THE INPUT: true; the input reads as it did. -/
def histRowsSpec : ChangeSpec := { name := "histRows", fn := fun _ => fun
  | [d1, d2] => { results := [.lit (.bool true)], args := [d1, d2] }
  | _ => none }
def histRowsRow : OpenClaim := { program := "ytegocoicdcpgaaa", sum := "032c12386d37d4ac1e055d500e4c6b945c35ef8074916b1e5e1b4d22eb514fe7", func := "brougham/broughamlaw44.HistRows", spec := "histRows", apart := false }
def HistRowsSaid : Prop := histRowsRow.holds Try.pinned (OpenSpec.ofChange histRowsSpec)

/-- ITS FALSE NEIGHBOUR: 'it returns false'. Refute it at one input. -/
def histRowsWrong : ChangeSpec := { name := "histRows", fn := fun _ => fun
  | [d1, d2] => { results := [.lit (.bool false)], args := [d1, d2] }
  | _ => none }
def HistRowsWrongFalsely : Prop := histRowsRow.holds Try.pinned (OpenSpec.ofChange histRowsWrong)

/-- 'broughamlaw16.FlightEnds': WHATEVER THE INPUT: true; the input reads as it did. -/
def flightEndsSpec : ChangeSpec := { name := "flightEnds", fn := fun _ => fun
  | [d1, d2, d3] => { results := [.lit (.bool true)], args := [d1, d2, d3] }
  | _ => none }
def flightEndsRow : OpenClaim := { program := "ytegocoicdcpgaaa", sum := "032c12386d37d4ac1e055d500e4c6b945c35ef8074916b1e5e1b4d22eb514fe7", func := "brougham/broughamlaw16.FlightEnds", spec := "flightEnds", apart := false }
def FlightEndsSaid : Prop := flightEndsRow.holds Try.pinned (OpenSpec.ofChange flightEndsSpec)

/-- ITS FALSE NEIGHBOUR: 'it returns false'. Refute it at one input. -/
def flightEndsWrong : ChangeSpec := { name := "flightEnds", fn := fun _ => fun
  | [d1, d2, d3] => { results := [.lit (.bool false)], args := [d1, d2, d3] }
  | _ => none }
def FlightEndsWrongFalsely : Prop := flightEndsRow.holds Try.pinned (OpenSpec.ofChange flightEndsWrong)

/-- 'broughamlaw44.HistPlays': WHATEVER THE INPUT: true; the input reads as it did. -/
def histPlaysSpec : ChangeSpec := { name := "histPlays", fn := fun _ => fun
  | [d1, d2, d3] => { results := [.lit (.bool true)], args := [d1, d2, d3] }
  | _ => none }
def histPlaysRow : OpenClaim := { program := "ytegocoicdcpgaaa", sum := "032c12386d37d4ac1e055d500e4c6b945c35ef8074916b1e5e1b4d22eb514fe7", func := "brougham/broughamlaw44.HistPlays", spec := "histPlays", apart := false }
def HistPlaysSaid : Prop := histPlaysRow.holds Try.pinned (OpenSpec.ofChange histPlaysSpec)

/-- ITS FALSE NEIGHBOUR: 'it returns false'. Refute it at one input. -/
def histPlaysWrong : ChangeSpec := { name := "histPlays", fn := fun _ => fun
  | [d1, d2, d3] => { results := [.lit (.bool false)], args := [d1, d2, d3] }
  | _ => none }
def HistPlaysWrongFalsely : Prop := histPlaysRow.holds Try.pinned (OpenSpec.ofChange histPlaysWrong)

/-- 'broughamlaw17.OutletOrder': WHATEVER THE INPUT: true; the input reads as it did. -/
def outletOrderSpec : ChangeSpec := { name := "outletOrder", fn := fun _ => fun
  | [d1, d2, d3] => { results := [.lit (.bool true)], args := [d1, d2, d3] }
  | _ => none }
def outletOrderRow : OpenClaim := { program := "ytegocoicdcpgaaa", sum := "032c12386d37d4ac1e055d500e4c6b945c35ef8074916b1e5e1b4d22eb514fe7", func := "brougham/broughamlaw17.OutletOrder", spec := "outletOrder", apart := false }
def OutletOrderSaid : Prop := outletOrderRow.holds Try.pinned (OpenSpec.ofChange outletOrderSpec)

/-- ITS FALSE NEIGHBOUR: 'it returns false'. Refute it at one input. -/
def outletOrderWrong : ChangeSpec := { name := "outletOrder", fn := fun _ => fun
  | [d1, d2, d3] => { results := [.lit (.bool false)], args := [d1, d2, d3] }
  | _ => none }
def OutletOrderWrongFalsely : Prop := outletOrderRow.holds Try.pinned (OpenSpec.ofChange outletOrderWrong)

/-- 'broughamlaw17.OutletDone': WHATEVER THE INPUT: true; the input reads as it did. -/
def outletDoneSpec : ChangeSpec := { name := "outletDone", fn := fun _ => fun
  | [d1, d2, d3] => { results := [.lit (.bool true)], args := [d1, d2, d3] }
  | _ => none }
def outletDoneRow : OpenClaim := { program := "ytegocoicdcpgaaa", sum := "032c12386d37d4ac1e055d500e4c6b945c35ef8074916b1e5e1b4d22eb514fe7", func := "brougham/broughamlaw17.OutletDone", spec := "outletDone", apart := false }
def OutletDoneSaid : Prop := outletDoneRow.holds Try.pinned (OpenSpec.ofChange outletDoneSpec)

/-- ITS FALSE NEIGHBOUR: 'it returns false'. Refute it at one input. -/
def outletDoneWrong : ChangeSpec := { name := "outletDone", fn := fun _ => fun
  | [d1, d2, d3] => { results := [.lit (.bool false)], args := [d1, d2, d3] }
  | _ => none }
def OutletDoneWrongFalsely : Prop := outletDoneRow.holds Try.pinned (OpenSpec.ofChange outletDoneWrong)

/-- 'broughamlaw20.AddrsBack': WHATEVER THE INPUT: true; the input reads as it did. -/
def addrsBackSpec : ChangeSpec := { name := "addrsBack", fn := fun _ => fun
  | [d1, d2] => { results := [.lit (.bool true)], args := [d1, d2] }
  | _ => none }
def addrsBackRow : OpenClaim := { program := "ytegocoicdcpgaaa", sum := "032c12386d37d4ac1e055d500e4c6b945c35ef8074916b1e5e1b4d22eb514fe7", func := "brougham/broughamlaw20.AddrsBack", spec := "addrsBack", unfollowed := true, recurses := true, apart := false }
def AddrsBackSaid : Prop := addrsBackRow.holds Try.pinned (OpenSpec.ofChange addrsBackSpec)

/-- ITS FALSE NEIGHBOUR: 'it returns false'. Refute it at one input. -/
def addrsBackWrong : ChangeSpec := { name := "addrsBack", fn := fun _ => fun
  | [d1, d2] => { results := [.lit (.bool false)], args := [d1, d2] }
  | _ => none }
def AddrsBackWrongFalsely : Prop := addrsBackRow.holds Try.pinned (OpenSpec.ofChange addrsBackWrong)

/-- 'broughamlaw17.OutletPlays': WHATEVER THE INPUT: true; the input reads as it did. -/
def outletPlaysSpec : ChangeSpec := { name := "outletPlays", fn := fun _ => fun
  | [d1, d2, d3] => { results := [.lit (.bool true)], args := [d1, d2, d3] }
  | _ => none }
def outletPlaysRow : OpenClaim := { program := "ytegocoicdcpgaaa", sum := "032c12386d37d4ac1e055d500e4c6b945c35ef8074916b1e5e1b4d22eb514fe7", func := "brougham/broughamlaw17.OutletPlays", spec := "outletPlays", apart := false }
def OutletPlaysSaid : Prop := outletPlaysRow.holds Try.pinned (OpenSpec.ofChange outletPlaysSpec)

/-- ITS FALSE NEIGHBOUR: 'it returns false'. Refute it at one input. -/
def outletPlaysWrong : ChangeSpec := { name := "outletPlays", fn := fun _ => fun
  | [d1, d2, d3] => { results := [.lit (.bool false)], args := [d1, d2, d3] }
  | _ => none }
def OutletPlaysWrongFalsely : Prop := outletPlaysRow.holds Try.pinned (OpenSpec.ofChange outletPlaysWrong)

/-- 'broughamlaw42.HeapPlays': WHATEVER THE INPUT: true; the input reads as it did. -/
def heapPlaysSpec : ChangeSpec := { name := "heapPlays", fn := fun _ => fun
  | [d1, d2] => { results := [.lit (.bool true)], args := [d1, d2] }
  | _ => none }
def heapPlaysRow : OpenClaim := { program := "ytegocoicdcpgaaa", sum := "032c12386d37d4ac1e055d500e4c6b945c35ef8074916b1e5e1b4d22eb514fe7", func := "brougham/broughamlaw42.HeapPlays", spec := "heapPlays", apart := false }
def HeapPlaysSaid : Prop := heapPlaysRow.holds Try.pinned (OpenSpec.ofChange heapPlaysSpec)

/-- ITS FALSE NEIGHBOUR: 'it returns false'. Refute it at one input. -/
def heapPlaysWrong : ChangeSpec := { name := "heapPlays", fn := fun _ => fun
  | [d1, d2] => { results := [.lit (.bool false)], args := [d1, d2] }
  | _ => none }
def HeapPlaysWrongFalsely : Prop := heapPlaysRow.holds Try.pinned (OpenSpec.ofChange heapPlaysWrong)

/-- 'broughamlaw42.HeapSorts': WHATEVER THE INPUT: true; the input reads as it did. -/
def heapSortsSpec : ChangeSpec := { name := "heapSorts", fn := fun _ => fun
  | [d] => { results := [.lit (.bool true)], args := [d] }
  | _ => none }
def heapSortsRow : OpenClaim := { program := "ytegocoicdcpgaaa", sum := "032c12386d37d4ac1e055d500e4c6b945c35ef8074916b1e5e1b4d22eb514fe7", func := "brougham/broughamlaw42.HeapSorts", spec := "heapSorts", apart := false }
def HeapSortsSaid : Prop := heapSortsRow.holds Try.pinned (OpenSpec.ofChange heapSortsSpec)

/-- ITS FALSE NEIGHBOUR: 'it returns false'. Refute it at one input. -/
def heapSortsWrong : ChangeSpec := { name := "heapSorts", fn := fun _ => fun
  | [d] => { results := [.lit (.bool false)], args := [d] }
  | _ => none }
def HeapSortsWrongFalsely : Prop := heapSortsRow.holds Try.pinned (OpenSpec.ofChange heapSortsWrong)

/-- 'broughamlaw16.FlightPlays': WHATEVER THE INPUT: true; the input reads as it did. -/
def flightPlaysSpec : ChangeSpec := { name := "flightPlays", fn := fun _ => fun
  | [d1, d2] => { results := [.lit (.bool true)], args := [d1, d2] }
  | _ => none }
def flightPlaysRow : OpenClaim := { program := "ytegocoicdcpgaaa", sum := "032c12386d37d4ac1e055d500e4c6b945c35ef8074916b1e5e1b4d22eb514fe7", func := "brougham/broughamlaw16.FlightPlays", spec := "flightPlays", apart := false }
def FlightPlaysSaid : Prop := flightPlaysRow.holds Try.pinned (OpenSpec.ofChange flightPlaysSpec)

/-- ITS FALSE NEIGHBOUR: 'it returns false'. Refute it at one input. -/
def flightPlaysWrong : ChangeSpec := { name := "flightPlays", fn := fun _ => fun
  | [d1, d2] => { results := [.lit (.bool false)], args := [d1, d2] }
  | _ => none }
def FlightPlaysWrongFalsely : Prop := flightPlaysRow.holds Try.pinned (OpenSpec.ofChange flightPlaysWrong)

/- THE SECOND FORM. 'bulk': how many values and letters a reading holds, each counted each time it is reached (what is shared counts as often as it is met; a slice's spare places count too). A statement '..UptoSaid' is the law's where the arguments, and the package variables that the reading takes, are together of bulk at most 1048576: NARROWER than '..Said'. Prove '..Said' where nothing that the law and all that it calls make is longer than what came in: it says more and counts as full. Else prove '..UptoSaid'. A law counts once. -/
mutual
def uptoBulk {H : Type} : DataW H → Nat
  | .lit (.string bytes) => bytes.length + 1
  | .lit _ => 1
  | .nil => 1
  | .ptr d => uptoBulk d + 1
  | .slice elems spare => uptoBulkAll elems + uptoBulkAll spare + 1
  | .agg parts => uptoBulkAll parts + 1
  | .iface _ d => uptoBulk d + 1
  | .map entries => uptoBulkEntries entries + 1
  | .held _ => 1
def uptoBulkAll {H : Type} : List (DataW H) → Nat
  | [] => 0
  | d :: r => uptoBulk d + uptoBulkAll r
def uptoBulkEntries {H : Type} : List (Lit × DataW H) → Nat
  | [] => 0
  | x :: r => uptoBulkEntry x + uptoBulkEntries r
def uptoBulkEntry {H : Type} : Lit × DataW H → Nat
  | (.string bytes, d) => bytes.length + uptoBulk d + 1
  | (_, d) => uptoBulk d + 1
 end
def uptoSmall : (H : Type) → List (DataW H) → Bool := fun _ ds => decide (uptoBulkAll ds ≤ 1048576)
def OpenSpec.upto (s : _root_.Go.ChangeSpec) : _root_.Go.OpenSpec := { _root_.Go.OpenSpec.ofChange s with cond := some uptoSmall }

/-- 'broughamlaw05.RingOrder', WHERE WHAT IT READS IS OF BULK AT MOST 1048576: true; the input reads as it did. -/
def ringOrderUptoRow : OpenClaim := { program := "ytegocoicdcpgaaa", sum := "032c12386d37d4ac1e055d500e4c6b945c35ef8074916b1e5e1b4d22eb514fe7", func := "brougham/broughamlaw05.RingOrder", spec := "ringOrder", apart := false, narrowed := true }
def RingOrderUptoSaid : Prop := ringOrderUptoRow.holds Try.pinned (OpenSpec.upto ringOrderSpec)

/-- 'broughamlaw05.RingSets', WHERE WHAT IT READS IS OF BULK AT MOST 1048576: true; the input reads as it did. -/
def ringSetsUptoRow : OpenClaim := { program := "ytegocoicdcpgaaa", sum := "032c12386d37d4ac1e055d500e4c6b945c35ef8074916b1e5e1b4d22eb514fe7", func := "brougham/broughamlaw05.RingSets", spec := "ringSets", apart := false, narrowed := true }
def RingSetsUptoSaid : Prop := ringSetsUptoRow.holds Try.pinned (OpenSpec.upto ringSetsSpec)

/-- 'broughamlaw44.HistRows', WHERE WHAT IT READS IS OF BULK AT MOST 1048576: true; the input reads as it did. -/
def histRowsUptoRow : OpenClaim := { program := "ytegocoicdcpgaaa", sum := "032c12386d37d4ac1e055d500e4c6b945c35ef8074916b1e5e1b4d22eb514fe7", func := "brougham/broughamlaw44.HistRows", spec := "histRows", apart := false, narrowed := true }
def HistRowsUptoSaid : Prop := histRowsUptoRow.holds Try.pinned (OpenSpec.upto histRowsSpec)

/-- 'broughamlaw16.FlightEnds', WHERE WHAT IT READS IS OF BULK AT MOST 1048576: true; the input reads as it did. -/
def flightEndsUptoRow : OpenClaim := { program := "ytegocoicdcpgaaa", sum := "032c12386d37d4ac1e055d500e4c6b945c35ef8074916b1e5e1b4d22eb514fe7", func := "brougham/broughamlaw16.FlightEnds", spec := "flightEnds", apart := false, narrowed := true }
def FlightEndsUptoSaid : Prop := flightEndsUptoRow.holds Try.pinned (OpenSpec.upto flightEndsSpec)

/-- 'broughamlaw44.HistPlays', WHERE WHAT IT READS IS OF BULK AT MOST 1048576: true; the input reads as it did. -/
def histPlaysUptoRow : OpenClaim := { program := "ytegocoicdcpgaaa", sum := "032c12386d37d4ac1e055d500e4c6b945c35ef8074916b1e5e1b4d22eb514fe7", func := "brougham/broughamlaw44.HistPlays", spec := "histPlays", apart := false, narrowed := true }
def HistPlaysUptoSaid : Prop := histPlaysUptoRow.holds Try.pinned (OpenSpec.upto histPlaysSpec)

/-- 'broughamlaw17.OutletOrder', WHERE WHAT IT READS IS OF BULK AT MOST 1048576: true; the input reads as it did. -/
def outletOrderUptoRow : OpenClaim := { program := "ytegocoicdcpgaaa", sum := "032c12386d37d4ac1e055d500e4c6b945c35ef8074916b1e5e1b4d22eb514fe7", func := "brougham/broughamlaw17.OutletOrder", spec := "outletOrder", apart := false, narrowed := true }
def OutletOrderUptoSaid : Prop := outletOrderUptoRow.holds Try.pinned (OpenSpec.upto outletOrderSpec)

/-- 'broughamlaw17.OutletDone', WHERE WHAT IT READS IS OF BULK AT MOST 1048576: true; the input reads as it did. -/
def outletDoneUptoRow : OpenClaim := { program := "ytegocoicdcpgaaa", sum := "032c12386d37d4ac1e055d500e4c6b945c35ef8074916b1e5e1b4d22eb514fe7", func := "brougham/broughamlaw17.OutletDone", spec := "outletDone", apart := false, narrowed := true }
def OutletDoneUptoSaid : Prop := outletDoneUptoRow.holds Try.pinned (OpenSpec.upto outletDoneSpec)

/-- 'broughamlaw20.AddrsBack', WHERE WHAT IT READS IS OF BULK AT MOST 1048576: true; the input reads as it did. -/
def addrsBackUptoRow : OpenClaim := { program := "ytegocoicdcpgaaa", sum := "032c12386d37d4ac1e055d500e4c6b945c35ef8074916b1e5e1b4d22eb514fe7", func := "brougham/broughamlaw20.AddrsBack", spec := "addrsBack", unfollowed := true, recurses := true, apart := false, narrowed := true }
def AddrsBackUptoSaid : Prop := addrsBackUptoRow.holds Try.pinned (OpenSpec.upto addrsBackSpec)

/-- 'broughamlaw17.OutletPlays', WHERE WHAT IT READS IS OF BULK AT MOST 1048576: true; the input reads as it did. -/
def outletPlaysUptoRow : OpenClaim := { program := "ytegocoicdcpgaaa", sum := "032c12386d37d4ac1e055d500e4c6b945c35ef8074916b1e5e1b4d22eb514fe7", func := "brougham/broughamlaw17.OutletPlays", spec := "outletPlays", apart := false, narrowed := true }
def OutletPlaysUptoSaid : Prop := outletPlaysUptoRow.holds Try.pinned (OpenSpec.upto outletPlaysSpec)

/-- 'broughamlaw42.HeapPlays', WHERE WHAT IT READS IS OF BULK AT MOST 1048576: true; the input reads as it did. -/
def heapPlaysUptoRow : OpenClaim := { program := "ytegocoicdcpgaaa", sum := "032c12386d37d4ac1e055d500e4c6b945c35ef8074916b1e5e1b4d22eb514fe7", func := "brougham/broughamlaw42.HeapPlays", spec := "heapPlays", apart := false, narrowed := true }
def HeapPlaysUptoSaid : Prop := heapPlaysUptoRow.holds Try.pinned (OpenSpec.upto heapPlaysSpec)

/-- 'broughamlaw42.HeapSorts', WHERE WHAT IT READS IS OF BULK AT MOST 1048576: true; the input reads as it did. -/
def heapSortsUptoRow : OpenClaim := { program := "ytegocoicdcpgaaa", sum := "032c12386d37d4ac1e055d500e4c6b945c35ef8074916b1e5e1b4d22eb514fe7", func := "brougham/broughamlaw42.HeapSorts", spec := "heapSorts", apart := false, narrowed := true }
def HeapSortsUptoSaid : Prop := heapSortsUptoRow.holds Try.pinned (OpenSpec.upto heapSortsSpec)

/-- 'broughamlaw16.FlightPlays', WHERE WHAT IT READS IS OF BULK AT MOST 1048576: true; the input reads as it did. -/
def flightPlaysUptoRow : OpenClaim := { program := "ytegocoicdcpgaaa", sum := "032c12386d37d4ac1e055d500e4c6b945c35ef8074916b1e5e1b4d22eb514fe7", func := "brougham/broughamlaw16.FlightPlays", spec := "flightPlays", apart := false, narrowed := true }
def FlightPlaysUptoSaid : Prop := flightPlaysUptoRow.holds Try.pinned (OpenSpec.upto flightPlaysSpec)

end Rows
end Go.Proofs.Ytegocoicdcpgaaa
