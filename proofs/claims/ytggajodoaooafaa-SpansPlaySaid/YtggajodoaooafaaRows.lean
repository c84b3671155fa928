/-
  No cell of these rows narrows 'for every input' (looked for: loops, veiled, ifaces, maps, wideKeys, modest, calm, conditions, laid).
  DERIVED. THE GIVEN ROWS OF THIS SEAT. 12 by the template 'for every input the law returns true; each argument reads behind the call as it read before'; 0 by the template 'total and deterministic' (their statements: YtggajodoaooafaaTotals.lean).
  GIVEN WITH THE SEED: the statements are not yours to turn. If you find one false, say at which input.
  Laid BY PROGRAM, IN A SANDBOX (cutbox-rows.mjs): the forced cells as the released guide's own fill.sh prints them over the translation 55da2278aa8cc924… (all of the seat's roots in one cut). By AI agents, Wed Nov 11 2026. No macro, syntax, notation, axiom, sorry.
-/
import Derived.Test.YtggajodoaooafaaChecked
import GoSem.Claim
import GoSem.ClaimJoined
import GoSem.ClaimMapViews
import Derived.JoinedTies
import Derived.KernelRfl
namespace Go.Proofs.Ytggajodoaooafaa
/- THE CELL 'sum', in the pinned program and in every row, IS THE sha256 OF THE DUMP (.gsa) THAT YtggajodoaooafaaProg.lean LOADS. Nothing in Lean hashes anything: it is a label: what it is worth is what the hold of that sum in a sandbox is worth. -/
noncomputable def Try.pinned : Pinned := { name := "ytggajodoaooafaa", sum := "55da2278aa8cc924b89385dea063b924ec4218ddb8f108fca32d902e9ced462b", checked := Try.checked }
namespace Rows
def none {H : Type} : Left H := { results := [], args := [] }

/-- 'broughamlaw33.AttackForetells': WHATEVER THE INPUT: true; the input reads as it did. -/
def attackForetellsSpec : ChangeSpec := { name := "attackForetells", fn := fun _ => fun
  | [d1, d2, d3] => { results := [.lit (.bool true)], args := [d1, d2, d3] }
  | _ => none }
def attackForetellsRow : OpenClaim := { program := "ytggajodoaooafaa", sum := "55da2278aa8cc924b89385dea063b924ec4218ddb8f108fca32d902e9ced462b", func := "brougham/broughamlaw33.AttackForetells", spec := "attackForetells", apart := false }
def AttackForetellsSaid : Prop := attackForetellsRow.holds Try.pinned (OpenSpec.ofChange attackForetellsSpec)

/-- ITS FALSE NEIGHBOUR: 'it returns false'. Refute it at one input. -/
def attackForetellsWrong : ChangeSpec := { name := "attackForetells", fn := fun _ => fun
  | [d1, d2, d3] => { results := [.lit (.bool false)], args := [d1, d2, d3] }
  | _ => none }
def AttackForetellsWrongFalsely : Prop := attackForetellsRow.holds Try.pinned (OpenSpec.ofChange attackForetellsWrong)

/-- 'broughamlaw33.AttackMakes': WHATEVER THE INPUT: true; the input reads as it did. -/
def attackMakesSpec : ChangeSpec := { name := "attackMakes", fn := fun _ => fun
  | [d1, d2] => { results := [.lit (.bool true)], args := [d1, d2] }
  | _ => none }
def attackMakesRow : OpenClaim := { program := "ytggajodoaooafaa", sum := "55da2278aa8cc924b89385dea063b924ec4218ddb8f108fca32d902e9ced462b", func := "brougham/broughamlaw33.AttackMakes", spec := "attackMakes", recurses := true, apart := false }
def AttackMakesSaid : Prop := attackMakesRow.holds Try.pinned (OpenSpec.ofChange attackMakesSpec)

/-- ITS FALSE NEIGHBOUR: 'it returns false'. Refute it at one input. -/
def attackMakesWrong : ChangeSpec := { name := "attackMakes", fn := fun _ => fun
  | [d1, d2] => { results := [.lit (.bool false)], args := [d1, d2] }
  | _ => none }
def AttackMakesWrongFalsely : Prop := attackMakesRow.holds Try.pinned (OpenSpec.ofChange attackMakesWrong)

/-- 'broughamlaw32.LinkDraws': WHATEVER THE INPUT: true; the input reads as it did. -/
def linkDrawsSpec : ChangeSpec := { name := "linkDraws", fn := fun _ => fun
  | [d1, d2, d3] => { results := [.lit (.bool true)], args := [d1, d2, d3] }
  | _ => none }
def linkDrawsRow : OpenClaim := { program := "ytggajodoaooafaa", sum := "55da2278aa8cc924b89385dea063b924ec4218ddb8f108fca32d902e9ced462b", func := "brougham/broughamlaw32.LinkDraws", spec := "linkDraws", unfollowed := true, recurses := true, apart := false }
def LinkDrawsSaid : Prop := linkDrawsRow.holds Try.pinned (OpenSpec.ofChange linkDrawsSpec)

/-- ITS FALSE NEIGHBOUR: 'it returns false'. Refute it at one input. -/
def linkDrawsWrong : ChangeSpec := { name := "linkDraws", fn := fun _ => fun
  | [d1, d2, d3] => { results := [.lit (.bool false)], args := [d1, d2, d3] }
  | _ => none }
def LinkDrawsWrongFalsely : Prop := linkDrawsRow.holds Try.pinned (OpenSpec.ofChange linkDrawsWrong)

/-- 'broughamlaw32.LinkPlays': WHATEVER THE INPUT: true; the input reads as it did. -/
def linkPlaysSpec : ChangeSpec := { name := "linkPlays", fn := fun _ => fun
  | [d1, d2, d3] => { results := [.lit (.bool true)], args := [d1, d2, d3] }
  | _ => none }
def linkPlaysRow : OpenClaim := { program := "ytggajodoaooafaa", sum := "55da2278aa8cc924b89385dea063b924ec4218ddb8f108fca32d902e9ced462b", func := "brougham/broughamlaw32.LinkPlays", spec := "linkPlays", unfollowed := true, recurses := true, apart := false }
def LinkPlaysSaid : Prop := linkPlaysRow.holds Try.pinned (OpenSpec.ofChange linkPlaysSpec)

/-- ITS FALSE NEIGHBOUR: 'it returns false'. Refute it at one input. -/
def linkPlaysWrong : ChangeSpec := { name := "linkPlays", fn := fun _ => fun
  | [d1, d2, d3] => { results := [.lit (.bool false)], args := [d1, d2, d3] }
  | _ => none }
def LinkPlaysWrongFalsely : Prop := linkPlaysRow.holds Try.pinned (OpenSpec.ofChange linkPlaysWrong)

/-- 'broughamlaw32.LinkKeeps': WHATEVER THE INPUT: true; the input reads as it did. -/
def linkKeepsSpec : ChangeSpec := { name := "linkKeeps", fn := fun _ => fun
  | [d1, d2, d3] => { results := [.lit (.bool true)], args := [d1, d2, d3] }
  | _ => none }
def linkKeepsRow : OpenClaim := { program := "ytggajodoaooafaa", sum := "55da2278aa8cc924b89385dea063b924ec4218ddb8f108fca32d902e9ced462b", func := "brougham/broughamlaw32.LinkKeeps", spec := "linkKeeps", unfollowed := true, recurses := true, apart := false }
def LinkKeepsSaid : Prop := linkKeepsRow.holds Try.pinned (OpenSpec.ofChange linkKeepsSpec)

/-- ITS FALSE NEIGHBOUR: 'it returns false'. Refute it at one input. -/
def linkKeepsWrong : ChangeSpec := { name := "linkKeeps", fn := fun _ => fun
  | [d1, d2, d3] => { results := [.lit (.bool false)], args := [d1, d2, d3] }
  | _ => none }
def LinkKeepsWrongFalsely : Prop := linkKeepsRow.holds Try.pinned (OpenSpec.ofChange linkKeepsWrong)

/-- 'broughamlaw19.SchedOrders': WHATEVER THE INPUT: true; the input reads as it did. -/
def schedOrdersSpec : ChangeSpec := { name := "schedOrders", fn := fun _ => fun
  | [d1, d2] => { results := [.lit (.bool true)], args := [d1, d2] }
  | _ => none }
def schedOrdersRow : OpenClaim := { program := "ytggajodoaooafaa", sum := "55da2278aa8cc924b89385dea063b924ec4218ddb8f108fca32d902e9ced462b", func := "brougham/broughamlaw19.SchedOrders", spec := "schedOrders", unfollowed := true, recurses := true, apart := false }
def SchedOrdersSaid : Prop := schedOrdersRow.holds Try.pinned (OpenSpec.ofChange schedOrdersSpec)

/-- ITS FALSE NEIGHBOUR: 'it returns false'. Refute it at one input. -/
def schedOrdersWrong : ChangeSpec := { name := "schedOrders", fn := fun _ => fun
  | [d1, d2] => { results := [.lit (.bool false)], args := [d1, d2] }
  | _ => none }
def SchedOrdersWrongFalsely : Prop := schedOrdersRow.holds Try.pinned (OpenSpec.ofChange schedOrdersWrong)

/-- 'broughamlaw19.SchedChooses': WHATEVER THE INPUT: true; the input reads as it did. -/
def schedChoosesSpec : ChangeSpec := { name := "schedChooses", fn := fun _ => fun
  | [d1, d2] => { results := [.lit (.bool true)], args := [d1, d2] }
  | _ => none }
def schedChoosesRow : OpenClaim := { program := "ytggajodoaooafaa", sum := "55da2278aa8cc924b89385dea063b924ec4218ddb8f108fca32d902e9ced462b", func := "brougham/broughamlaw19.SchedChooses", spec := "schedChooses", unfollowed := true, recurses := true, apart := false }
def SchedChoosesSaid : Prop := schedChoosesRow.holds Try.pinned (OpenSpec.ofChange schedChoosesSpec)

/-- ITS FALSE NEIGHBOUR: 'it returns false'. Refute it at one input. -/
def schedChoosesWrong : ChangeSpec := { name := "schedChooses", fn := fun _ => fun
  | [d1, d2] => { results := [.lit (.bool false)], args := [d1, d2] }
  | _ => none }
def SchedChoosesWrongFalsely : Prop := schedChoosesRow.holds Try.pinned (OpenSpec.ofChange schedChoosesWrong)

/-- 'broughamlaw19.SchedFits': WHATEVER THE INPUT: true; the input reads as it did. -/
def schedFitsSpec : ChangeSpec := { name := "schedFits", fn := fun _ => fun
  | [d1, d2] => { results := [.lit (.bool true)], args := [d1, d2] }
  | _ => none }
def schedFitsRow : OpenClaim := { program := "ytggajodoaooafaa", sum := "55da2278aa8cc924b89385dea063b924ec4218ddb8f108fca32d902e9ced462b", func := "brougham/broughamlaw19.SchedFits", spec := "schedFits", unfollowed := true, recurses := true, apart := false }
def SchedFitsSaid : Prop := schedFitsRow.holds Try.pinned (OpenSpec.ofChange schedFitsSpec)

/-- ITS FALSE NEIGHBOUR: 'it returns false'. Refute it at one input. -/
def schedFitsWrong : ChangeSpec := { name := "schedFits", fn := fun _ => fun
  | [d1, d2] => { results := [.lit (.bool false)], args := [d1, d2] }
  | _ => none }
def SchedFitsWrongFalsely : Prop := schedFitsRow.holds Try.pinned (OpenSpec.ofChange schedFitsWrong)

/-- 'broughamlaw19.SchedTurns': WHATEVER THE INPUT: true; the input reads as it did. -/
def schedTurnsSpec : ChangeSpec := { name := "schedTurns", fn := fun _ => fun
  | [d1, d2] => { results := [.lit (.bool true)], args := [d1, d2] }
  | _ => none }
def schedTurnsRow : OpenClaim := { program := "ytggajodoaooafaa", sum := "55da2278aa8cc924b89385dea063b924ec4218ddb8f108fca32d902e9ced462b", func := "brougham/broughamlaw19.SchedTurns", spec := "schedTurns", unfollowed := true, recurses := true, apart := false }
def SchedTurnsSaid : Prop := schedTurnsRow.holds Try.pinned (OpenSpec.ofChange schedTurnsSpec)

/-- ITS FALSE NEIGHBOUR: 'it returns false'. Refute it at one input. -/
def schedTurnsWrong : ChangeSpec := { name := "schedTurns", fn := fun _ => fun
  | [d1, d2] => { results := [.lit (.bool false)], args := [d1, d2] }
  | _ => none }
def SchedTurnsWrongFalsely : Prop := schedTurnsRow.holds Try.pinned (OpenSpec.ofChange schedTurnsWrong)

/-- 'broughamlaw38.PlanBounds': WHATEVER THE INPUT: true; the input reads as it did. -/
def planBoundsSpec : ChangeSpec := { name := "planBounds", fn := fun _ => fun
  | [d1, d2, d3] => { results := [.lit (.bool true)], args := [d1, d2, d3] }
  | _ => none }
def planBoundsRow : OpenClaim := { program := "ytggajodoaooafaa", sum := "55da2278aa8cc924b89385dea063b924ec4218ddb8f108fca32d902e9ced462b", func := "brougham/broughamlaw38.PlanBounds", spec := "planBounds", unfollowed := true, recurses := true, apart := false }
def PlanBoundsSaid : Prop := planBoundsRow.holds Try.pinned (OpenSpec.ofChange planBoundsSpec)

/-- ITS FALSE NEIGHBOUR: 'it returns false'. Refute it at one input. -/
def planBoundsWrong : ChangeSpec := { name := "planBounds", fn := fun _ => fun
  | [d1, d2, d3] => { results := [.lit (.bool false)], args := [d1, d2, d3] }
  | _ => none }
def PlanBoundsWrongFalsely : Prop := planBoundsRow.holds Try.pinned (OpenSpec.ofChange planBoundsWrong)

/-- 'broughamlaw06.SpansFill': WHATEVER THE INPUT: true; the input reads as it did. -/
def spansFillSpec : ChangeSpec := { name := "spansFill", fn := fun _ => fun
  | [d1, d2, d3] => { results := [.lit (.bool true)], args := [d1, d2, d3] }
  | _ => none }
def spansFillRow : OpenClaim := { program := "ytggajodoaooafaa", sum := "55da2278aa8cc924b89385dea063b924ec4218ddb8f108fca32d902e9ced462b", func := "brougham/broughamlaw06.SpansFill", spec := "spansFill", inPlace := ["slices.overlaps[brougham/spans.Span]"], unfollowed := true, recurses := true, apart := false }
def SpansFillSaid : Prop := spansFillRow.holds Try.pinned (OpenSpec.ofChange spansFillSpec)

/-- ITS FALSE NEIGHBOUR: 'it returns false'. Refute it at one input. -/
def spansFillWrong : ChangeSpec := { name := "spansFill", fn := fun _ => fun
  | [d1, d2, d3] => { results := [.lit (.bool false)], args := [d1, d2, d3] }
  | _ => none }
def SpansFillWrongFalsely : Prop := spansFillRow.holds Try.pinned (OpenSpec.ofChange spansFillWrong)

/-- 'broughamlaw06.SpansPlay': WHATEVER THE INPUT: true; the input reads as it did. -/
def spansPlaySpec : ChangeSpec := { name := "spansPlay", fn := fun _ => fun
  | [d1, d2, d3] => { results := [.lit (.bool true)], args := [d1, d2, d3] }
  | _ => none }
def spansPlayRow : OpenClaim := { program := "ytggajodoaooafaa", sum := "55da2278aa8cc924b89385dea063b924ec4218ddb8f108fca32d902e9ced462b", func := "brougham/broughamlaw06.SpansPlay", spec := "spansPlay", inPlace := ["slices.overlaps[brougham/spans.Span]"], unfollowed := true, recurses := true, apart := false }
def SpansPlaySaid : Prop := spansPlayRow.holds Try.pinned (OpenSpec.ofChange spansPlaySpec)

/-- ITS FALSE NEIGHBOUR: 'it returns false'. Refute it at one input. -/
def spansPlayWrong : ChangeSpec := { name := "spansPlay", fn := fun _ => fun
  | [d1, d2, d3] => { results := [.lit (.bool false)], args := [d1, d2, d3] }
  | _ => none }
def SpansPlayWrongFalsely : Prop := spansPlayRow.holds Try.pinned (OpenSpec.ofChange spansPlayWrong)

/- THE SECOND FORM. 'bulk': how many values and letters a reading holds, each counted each time it is reached (what is shared counts as often as it is met; a slice's spare places count too). A statement '..UptoSaid' is the law's where the arguments, and the package variables that the reading takes, are together of bulk at most 1048576: NARROWER than '..Said'. Prove '..Said' where nothing that the law and all that it calls make is longer than what came in: it says more and counts as full. Else prove '..UptoSaid'. A law counts once. -/
mutual
def uptoBulk {H : Type} : DataW H → Nat
  | .lit (.string bytes) => bytes.length + 1
  | .lit _ => 1
  | .nil => 1
  | .ptr d => uptoBulk d + 1
  | .slice elems spare => uptoBulkAll elems + uptoBulkAll spare + 1
  | .agg parts => uptoBulkAll parts + 1
  | .iface _ d => uptoBulk d + 1
  | .map entries => uptoBulkEntries entries + 1
  | .held _ => 1
def uptoBulkAll {H : Type} : List (DataW H) → Nat
  | [] => 0
  | d :: r => uptoBulk d + uptoBulkAll r
def uptoBulkEntries {H : Type} : List (Lit × DataW H) → Nat
  | [] => 0
  | x :: r => uptoBulkEntry x + uptoBulkEntries r
def uptoBulkEntry {H : Type} : Lit × DataW H → Nat
  | (.string bytes, d) => bytes.length + uptoBulk d + 1
  | (_, d) => uptoBulk d + 1
 end
def uptoSmall : (H : Type) → List (DataW H) → Bool := fun _ ds => decide (uptoBulkAll ds ≤ 1048576)
def OpenSpec.upto (s : _root_.Go.ChangeSpec) : _root_.Go.OpenSpec := { _root_.Go.OpenSpec.ofChange s with cond := some uptoSmall }

/-- 'broughamlaw33.AttackForetells', WHERE WHAT IT READS IS OF BULK AT MOST 1048576: true; the input reads as it did. -/
def attackForetellsUptoRow : OpenClaim := { program := "ytggajodoaooafaa", sum := "55da2278aa8cc924b89385dea063b924ec4218ddb8f108fca32d902e9ced462b", func := "brougham/broughamlaw33.AttackForetells", spec := "attackForetells", apart := false, narrowed := true }
def AttackForetellsUptoSaid : Prop := attackForetellsUptoRow.holds Try.pinned (OpenSpec.upto attackForetellsSpec)

/-- 'broughamlaw33.AttackMakes', WHERE WHAT IT READS IS OF BULK AT MOST 1048576: true; the input reads as it did. -/
def attackMakesUptoRow : OpenClaim := { program := "ytggajodoaooafaa", sum := "55da2278aa8cc924b89385dea063b924ec4218ddb8f108fca32d902e9ced462b", func := "brougham/broughamlaw33.AttackMakes", spec := "attackMakes", recurses := true, apart := false, narrowed := true }
def AttackMakesUptoSaid : Prop := attackMakesUptoRow.holds Try.pinned (OpenSpec.upto attackMakesSpec)

/-- 'broughamlaw32.LinkDraws', WHERE WHAT IT READS IS OF BULK AT MOST 1048576: true; the input reads as it did. -/
def linkDrawsUptoRow : OpenClaim := { program := "ytggajodoaooafaa", sum := "55da2278aa8cc924b89385dea063b924ec4218ddb8f108fca32d902e9ced462b", func := "brougham/broughamlaw32.LinkDraws", spec := "linkDraws", unfollowed := true, recurses := true, apart := false, narrowed := true }
def LinkDrawsUptoSaid : Prop := linkDrawsUptoRow.holds Try.pinned (OpenSpec.upto linkDrawsSpec)

/-- 'broughamlaw32.LinkPlays', WHERE WHAT IT READS IS OF BULK AT MOST 1048576: true; the input reads as it did. -/
def linkPlaysUptoRow : OpenClaim := { program := "ytggajodoaooafaa", sum := "55da2278aa8cc924b89385dea063b924ec4218ddb8f108fca32d902e9ced462b", func := "brougham/broughamlaw32.LinkPlays", spec := "linkPlays", unfollowed := true, recurses := true, apart := false, narrowed := true }
def LinkPlaysUptoSaid : Prop := linkPlaysUptoRow.holds Try.pinned (OpenSpec.upto linkPlaysSpec)

/-- 'broughamlaw32.LinkKeeps', WHERE WHAT IT READS IS OF BULK AT MOST 1048576: true; the input reads as it did. -/
def linkKeepsUptoRow : OpenClaim := { program := "ytggajodoaooafaa", sum := "55da2278aa8cc924b89385dea063b924ec4218ddb8f108fca32d902e9ced462b", func := "brougham/broughamlaw32.LinkKeeps", spec := "linkKeeps", unfollowed := true, recurses := true, apart := false, narrowed := true }
def LinkKeepsUptoSaid : Prop := linkKeepsUptoRow.holds Try.pinned (OpenSpec.upto linkKeepsSpec)

/-- 'broughamlaw19.SchedOrders', WHERE WHAT IT READS IS OF BULK AT MOST 1048576: true; the input reads as it did. -/
def schedOrdersUptoRow : OpenClaim := { program := "ytggajodoaooafaa", sum := "55da2278aa8cc924b89385dea063b924ec4218ddb8f108fca32d902e9ced462b", func := "brougham/broughamlaw19.SchedOrders", spec := "schedOrders", unfollowed := true, recurses := true, apart := false, narrowed := true }
def SchedOrdersUptoSaid : Prop := schedOrdersUptoRow.holds Try.pinned (OpenSpec.upto schedOrdersSpec)

/-- 'broughamlaw19.SchedChooses', WHERE WHAT IT READS IS OF BULK AT MOST 1048576: true; the input reads as it did. -/
def schedChoosesUptoRow : OpenClaim := { program := "ytggajodoaooafaa", sum := "55da2278aa8cc924b89385dea063b924ec4218ddb8f108fca32d902e9ced462b", func := "brougham/broughamlaw19.SchedChooses", spec := "schedChooses", unfollowed := true, recurses := true, apart := false, narrowed := true }
def SchedChoosesUptoSaid : Prop := schedChoosesUptoRow.holds Try.pinned (OpenSpec.upto schedChoosesSpec)

/-- 'broughamlaw19.SchedFits', WHERE WHAT IT READS IS OF BULK AT MOST 1048576: true; the input reads as it did. -/
def schedFitsUptoRow : OpenClaim := { program := "ytggajodoaooafaa", sum := "55da2278aa8cc924b89385dea063b924ec4218ddb8f108fca32d902e9ced462b", func := "brougham/broughamlaw19.SchedFits", spec := "schedFits", unfollowed := true, recurses := true, apart := false, narrowed := true }
def SchedFitsUptoSaid : Prop := schedFitsUptoRow.holds Try.pinned (OpenSpec.upto schedFitsSpec)

/-- 'broughamlaw19.SchedTurns', WHERE WHAT IT READS IS OF BULK AT MOST 1048576: true; the input reads as it did. -/
def schedTurnsUptoRow : OpenClaim := { program := "ytggajodoaooafaa", sum := "55da2278aa8cc924b89385dea063b924ec4218ddb8f108fca32d902e9ced462b", func := "brougham/broughamlaw19.SchedTurns", spec := "schedTurns", unfollowed := true, recurses := true, apart := false, narrowed := true }
def SchedTurnsUptoSaid : Prop := schedTurnsUptoRow.holds Try.pinned (OpenSpec.upto schedTurnsSpec)

/-- 'broughamlaw38.PlanBounds', WHERE WHAT IT READS IS OF BULK AT MOST 1048576: true; the input reads as it did. -/
def planBoundsUptoRow : OpenClaim := { program := "ytggajodoaooafaa", sum := "55da2278aa8cc924b89385dea063b924ec4218ddb8f108fca32d902e9ced462b", func := "brougham/broughamlaw38.PlanBounds", spec := "planBounds", unfollowed := true, recurses := true, apart := false, narrowed := true }
def PlanBoundsUptoSaid : Prop := planBoundsUptoRow.holds Try.pinned (OpenSpec.upto planBoundsSpec)

/-- 'broughamlaw06.SpansFill', WHERE WHAT IT READS IS OF BULK AT MOST 1048576: true; the input reads as it did. -/
def spansFillUptoRow : OpenClaim := { program := "ytggajodoaooafaa", sum := "55da2278aa8cc924b89385dea063b924ec4218ddb8f108fca32d902e9ced462b", func := "brougham/broughamlaw06.SpansFill", spec := "spansFill", inPlace := ["slices.overlaps[brougham/spans.Span]"], unfollowed := true, recurses := true, apart := false, narrowed := true }
def SpansFillUptoSaid : Prop := spansFillUptoRow.holds Try.pinned (OpenSpec.upto spansFillSpec)

/-- 'broughamlaw06.SpansPlay', WHERE WHAT IT READS IS OF BULK AT MOST 1048576: true; the input reads as it did. -/
def spansPlayUptoRow : OpenClaim := { program := "ytggajodoaooafaa", sum := "55da2278aa8cc924b89385dea063b924ec4218ddb8f108fca32d902e9ced462b", func := "brougham/broughamlaw06.SpansPlay", spec := "spansPlay", inPlace := ["slices.overlaps[brougham/spans.Span]"], unfollowed := true, recurses := true, apart := false, narrowed := true }
def SpansPlayUptoSaid : Prop := spansPlayUptoRow.holds Try.pinned (OpenSpec.upto spansPlaySpec)

end Rows
end Go.Proofs.Ytggajodoaooafaa
