/-
  No cell of these rows narrows 'for every input' (looked for: loops, veiled, ifaces, maps, wideKeys, modest, calm, conditions, laid).
  DERIVED. THE GIVEN ROWS OF THIS SEAT. 9 by the template 'for every input the law returns true; each argument reads behind the call as it read before'; 0 by the template 'total and deterministic' (their statements: YtccmlfekmmeloaaTotals.lean).
  GIVEN WITH THE SEED: the statements are not yours to turn. If you find one false, say at which input.
  Laid BY PROGRAM, IN A SANDBOX (cutbox-rows.mjs): the forced cells as the released guide's own fill.sh prints them over the translation b9363afb36585430… (all of the seat's roots in one cut). By AI agents, Wed Nov 11 2026. No macro, syntax, notation, axiom, sorry.
-/
import Derived.Test.YtccmlfekmmeloaaChecked
import GoSem.Claim
import GoSem.ClaimJoined
import GoSem.ClaimMapViews
import Derived.JoinedTies
import Derived.KernelRfl
namespace Go.Proofs.Ytccmlfekmmeloaa
/- THE CELL 'sum', in the pinned program and in every row, IS THE sha256 OF THE DUMP (.gsa) THAT YtccmlfekmmeloaaProg.lean LOADS. Nothing in Lean hashes anything: it is a label: what it is worth is what the hold of that sum in a sandbox is worth. -/
noncomputable def Try.pinned : Pinned := { name := "ytccmlfekmmeloaa", sum := "b9363afb365854308c9961594256dfecf22a9b995604f7007ad4fc7d163359fc", checked := Try.checked }
namespace Rows
def none {H : Type} : Left H := { results := [], args := [] }

/-- 'broughamlaw20.AddrsBack': WHATEVER THE INPUT: true; the input reads as it did. -/
def addrsBackSpec : ChangeSpec := { name := "addrsBack", fn := fun _ => fun
  | [d1, d2] => { results := [.lit (.bool true)], args := [d1, d2] }
  | _ => none }
def addrsBackRow : OpenClaim := { program := "ytccmlfekmmeloaa", sum := "b9363afb365854308c9961594256dfecf22a9b995604f7007ad4fc7d163359fc", func := "brougham/broughamlaw20.AddrsBack", spec := "addrsBack", unfollowed := true, recurses := true, apart := false }
def AddrsBackSaid : Prop := addrsBackRow.holds Try.pinned (OpenSpec.ofChange addrsBackSpec)

/-- ITS FALSE NEIGHBOUR: 'it returns false'. Refute it at one input. -/
def addrsBackWrong : ChangeSpec := { name := "addrsBack", fn := fun _ => fun
  | [d1, d2] => { results := [.lit (.bool false)], args := [d1, d2] }
  | _ => none }
def AddrsBackWrongFalsely : Prop := addrsBackRow.holds Try.pinned (OpenSpec.ofChange addrsBackWrong)

/-- 'broughamlaw24.NetNew': WHATEVER THE INPUT: true; the input reads as it did. -/
def netNewSpec : ChangeSpec := { name := "netNew", fn := fun _ => fun
  | [d1, d2] => { results := [.lit (.bool true)], args := [d1, d2] }
  | _ => none }
def netNewRow : OpenClaim := { program := "ytccmlfekmmeloaa", sum := "b9363afb365854308c9961594256dfecf22a9b995604f7007ad4fc7d163359fc", func := "brougham/broughamlaw24.NetNew", spec := "netNew", unfollowed := true, recurses := true, apart := false }
def NetNewSaid : Prop := netNewRow.holds Try.pinned (OpenSpec.ofChange netNewSpec)

/-- ITS FALSE NEIGHBOUR: 'it returns false'. Refute it at one input. -/
def netNewWrong : ChangeSpec := { name := "netNew", fn := fun _ => fun
  | [d1, d2] => { results := [.lit (.bool false)], args := [d1, d2] }
  | _ => none }
def NetNewWrongFalsely : Prop := netNewRow.holds Try.pinned (OpenSpec.ofChange netNewWrong)

/-- 'broughamlaw18.InletOrder': WHATEVER THE INPUT: true; the input reads as it did. -/
def inletOrderSpec : ChangeSpec := { name := "inletOrder", fn := fun _ => fun
  | [d1, d2, d3] => { results := [.lit (.bool true)], args := [d1, d2, d3] }
  | _ => none }
def inletOrderRow : OpenClaim := { program := "ytccmlfekmmeloaa", sum := "b9363afb365854308c9961594256dfecf22a9b995604f7007ad4fc7d163359fc", func := "brougham/broughamlaw18.InletOrder", spec := "inletOrder", inPlace := ["slices.overlaps[brougham/spans.Span]"], unfollowed := true, recurses := true, apart := false }
def InletOrderSaid : Prop := inletOrderRow.holds Try.pinned (OpenSpec.ofChange inletOrderSpec)

/-- ITS FALSE NEIGHBOUR: 'it returns false'. Refute it at one input. -/
def inletOrderWrong : ChangeSpec := { name := "inletOrder", fn := fun _ => fun
  | [d1, d2, d3] => { results := [.lit (.bool false)], args := [d1, d2, d3] }
  | _ => none }
def InletOrderWrongFalsely : Prop := inletOrderRow.holds Try.pinned (OpenSpec.ofChange inletOrderWrong)

/-- 'broughamlaw18.InletTwice': WHATEVER THE INPUT: true; the input reads as it did. -/
def inletTwiceSpec : ChangeSpec := { name := "inletTwice", fn := fun _ => fun
  | [d1, d2, d3] => { results := [.lit (.bool true)], args := [d1, d2, d3] }
  | _ => none }
def inletTwiceRow : OpenClaim := { program := "ytccmlfekmmeloaa", sum := "b9363afb365854308c9961594256dfecf22a9b995604f7007ad4fc7d163359fc", func := "brougham/broughamlaw18.InletTwice", spec := "inletTwice", inPlace := ["slices.overlaps[brougham/spans.Span]"], unfollowed := true, recurses := true, apart := false }
def InletTwiceSaid : Prop := inletTwiceRow.holds Try.pinned (OpenSpec.ofChange inletTwiceSpec)

/-- ITS FALSE NEIGHBOUR: 'it returns false'. Refute it at one input. -/
def inletTwiceWrong : ChangeSpec := { name := "inletTwice", fn := fun _ => fun
  | [d1, d2, d3] => { results := [.lit (.bool false)], args := [d1, d2, d3] }
  | _ => none }
def InletTwiceWrongFalsely : Prop := inletTwiceRow.holds Try.pinned (OpenSpec.ofChange inletTwiceWrong)

/-- 'broughamlaw29.WheelOnce': WHATEVER THE INPUT: true; the input reads as it did. -/
def wheelOnceSpec : ChangeSpec := { name := "wheelOnce", fn := fun _ => fun
  | [d] => { results := [.lit (.bool true)], args := [d] }
  | _ => none }
def wheelOnceRow : OpenClaim := { program := "ytccmlfekmmeloaa", sum := "b9363afb365854308c9961594256dfecf22a9b995604f7007ad4fc7d163359fc", func := "brougham/broughamlaw29.WheelOnce", spec := "wheelOnce", unfollowed := true, recurses := true, apart := false }
def WheelOnceSaid : Prop := wheelOnceRow.holds Try.pinned (OpenSpec.ofChange wheelOnceSpec)

/-- ITS FALSE NEIGHBOUR: 'it returns false'. Refute it at one input. -/
def wheelOnceWrong : ChangeSpec := { name := "wheelOnce", fn := fun _ => fun
  | [d] => { results := [.lit (.bool false)], args := [d] }
  | _ => none }
def WheelOnceWrongFalsely : Prop := wheelOnceRow.holds Try.pinned (OpenSpec.ofChange wheelOnceWrong)

/-- 'broughamlaw20.AddrsFlood': WHATEVER THE INPUT: true; the input reads as it did. -/
def addrsFloodSpec : ChangeSpec := { name := "addrsFlood", fn := fun _ => fun
  | [d1, d2] => { results := [.lit (.bool true)], args := [d1, d2] }
  | _ => none }
def addrsFloodRow : OpenClaim := { program := "ytccmlfekmmeloaa", sum := "b9363afb365854308c9961594256dfecf22a9b995604f7007ad4fc7d163359fc", func := "brougham/broughamlaw20.AddrsFlood", spec := "addrsFlood", unfollowed := true, recurses := true, apart := false }
def AddrsFloodSaid : Prop := addrsFloodRow.holds Try.pinned (OpenSpec.ofChange addrsFloodSpec)

/-- ITS FALSE NEIGHBOUR: 'it returns false'. Refute it at one input. -/
def addrsFloodWrong : ChangeSpec := { name := "addrsFlood", fn := fun _ => fun
  | [d1, d2] => { results := [.lit (.bool false)], args := [d1, d2] }
  | _ => none }
def AddrsFloodWrongFalsely : Prop := addrsFloodRow.holds Try.pinned (OpenSpec.ofChange addrsFloodWrong)

/-- 'broughamlaw29.WheelNext': WHATEVER THE INPUT: true; the input reads as it did. -/
def wheelNextSpec : ChangeSpec := { name := "wheelNext", fn := fun _ => fun
  | [d] => { results := [.lit (.bool true)], args := [d] }
  | _ => none }
def wheelNextRow : OpenClaim := { program := "ytccmlfekmmeloaa", sum := "b9363afb365854308c9961594256dfecf22a9b995604f7007ad4fc7d163359fc", func := "brougham/broughamlaw29.WheelNext", spec := "wheelNext", unfollowed := true, recurses := true, apart := false }
def WheelNextSaid : Prop := wheelNextRow.holds Try.pinned (OpenSpec.ofChange wheelNextSpec)

/-- ITS FALSE NEIGHBOUR: 'it returns false'. Refute it at one input. -/
def wheelNextWrong : ChangeSpec := { name := "wheelNext", fn := fun _ => fun
  | [d] => { results := [.lit (.bool false)], args := [d] }
  | _ => none }
def WheelNextWrongFalsely : Prop := wheelNextRow.holds Try.pinned (OpenSpec.ofChange wheelNextWrong)

/-- 'broughamlaw29.WheelPlays': WHATEVER THE INPUT: true; the input reads as it did. -/
def wheelPlaysSpec : ChangeSpec := { name := "wheelPlays", fn := fun _ => fun
  | [d1, d2] => { results := [.lit (.bool true)], args := [d1, d2] }
  | _ => none }
def wheelPlaysRow : OpenClaim := { program := "ytccmlfekmmeloaa", sum := "b9363afb365854308c9961594256dfecf22a9b995604f7007ad4fc7d163359fc", func := "brougham/broughamlaw29.WheelPlays", spec := "wheelPlays", unfollowed := true, recurses := true, apart := false }
def WheelPlaysSaid : Prop := wheelPlaysRow.holds Try.pinned (OpenSpec.ofChange wheelPlaysSpec)

/-- ITS FALSE NEIGHBOUR: 'it returns false'. Refute it at one input. -/
def wheelPlaysWrong : ChangeSpec := { name := "wheelPlays", fn := fun _ => fun
  | [d1, d2] => { results := [.lit (.bool false)], args := [d1, d2] }
  | _ => none }
def WheelPlaysWrongFalsely : Prop := wheelPlaysRow.holds Try.pinned (OpenSpec.ofChange wheelPlaysWrong)

/-- 'broughamlaw20.AddrsPlay': WHATEVER THE INPUT: true; the input reads as it did. -/
def addrsPlaySpec : ChangeSpec := { name := "addrsPlay", fn := fun _ => fun
  | [d1, d2, d3] => { results := [.lit (.bool true)], args := [d1, d2, d3] }
  | _ => none }
def addrsPlayRow : OpenClaim := { program := "ytccmlfekmmeloaa", sum := "b9363afb365854308c9961594256dfecf22a9b995604f7007ad4fc7d163359fc", func := "brougham/broughamlaw20.AddrsPlay", spec := "addrsPlay", unfollowed := true, recurses := true, apart := false }
def AddrsPlaySaid : Prop := addrsPlayRow.holds Try.pinned (OpenSpec.ofChange addrsPlaySpec)

/-- ITS FALSE NEIGHBOUR: 'it returns false'. Refute it at one input. -/
def addrsPlayWrong : ChangeSpec := { name := "addrsPlay", fn := fun _ => fun
  | [d1, d2, d3] => { results := [.lit (.bool false)], args := [d1, d2, d3] }
  | _ => none }
def AddrsPlayWrongFalsely : Prop := addrsPlayRow.holds Try.pinned (OpenSpec.ofChange addrsPlayWrong)

/- THE SECOND FORM. 'bulk': how many values and letters a reading holds, each counted each time it is reached (what is shared counts as often as it is met; a slice's spare places count too). A statement '..UptoSaid' is the law's where the arguments, and the package variables that the reading takes, are together of bulk at most 1048576: NARROWER than '..Said'. Prove '..Said' where nothing that the law and all that it calls make is longer than what came in: it says more and counts as full. Else prove '..UptoSaid'. A law counts once. -/
mutual
def uptoBulk {H : Type} : DataW H → Nat
  | .lit (.string bytes) => bytes.length + 1
  | .lit _ => 1
  | .nil => 1
  | .ptr d => uptoBulk d + 1
  | .slice elems spare => uptoBulkAll elems + uptoBulkAll spare + 1
  | .agg parts => uptoBulkAll parts + 1
  | .iface _ d => uptoBulk d + 1
  | .map entries => uptoBulkEntries entries + 1
  | .held _ => 1
def uptoBulkAll {H : Type} : List (DataW H) → Nat
  | [] => 0
  | d :: r => uptoBulk d + uptoBulkAll r
def uptoBulkEntries {H : Type} : List (Lit × DataW H) → Nat
  | [] => 0
  | x :: r => uptoBulkEntry x + uptoBulkEntries r
def uptoBulkEntry {H : Type} : Lit × DataW H → Nat
  | (.string bytes, d) => bytes.length + uptoBulk d + 1
  | (_, d) => uptoBulk d + 1
 end
def uptoSmall : (H : Type) → List (DataW H) → Bool := fun _ ds => decide (uptoBulkAll ds ≤ 1048576)
def OpenSpec.upto (s : _root_.Go.ChangeSpec) : _root_.Go.OpenSpec := { _root_.Go.OpenSpec.ofChange s with cond := some uptoSmall }

/-- 'broughamlaw20.AddrsBack', WHERE WHAT IT READS IS OF BULK AT MOST 1048576: true; the input reads as it did. -/
def addrsBackUptoRow : OpenClaim := { program := "ytccmlfekmmeloaa", sum := "b9363afb365854308c9961594256dfecf22a9b995604f7007ad4fc7d163359fc", func := "brougham/broughamlaw20.AddrsBack", spec := "addrsBack", unfollowed := true, recurses := true, apart := false, narrowed := true }
def AddrsBackUptoSaid : Prop := addrsBackUptoRow.holds Try.pinned (OpenSpec.upto addrsBackSpec)

/-- 'broughamlaw24.NetNew', WHERE WHAT IT READS IS OF BULK AT MOST 1048576: true; the input reads as it did. -/
def netNewUptoRow : OpenClaim := { program := "ytccmlfekmmeloaa", sum := "b9363afb365854308c9961594256dfecf22a9b995604f7007ad4fc7d163359fc", func := "brougham/broughamlaw24.NetNew", spec := "netNew", unfollowed := true, recurses := true, apart := false, narrowed := true }
def NetNewUptoSaid : Prop := netNewUptoRow.holds Try.pinned (OpenSpec.upto netNewSpec)

/-- 'broughamlaw18.InletOrder', WHERE WHAT IT READS IS OF BULK AT MOST 1048576: true; the input reads as it did. -/
def inletOrderUptoRow : OpenClaim := { program := "ytccmlfekmmeloaa", sum := "b9363afb365854308c9961594256dfecf22a9b995604f7007ad4fc7d163359fc", func := "brougham/broughamlaw18.InletOrder", spec := "inletOrder", inPlace := ["slices.overlaps[brougham/spans.Span]"], unfollowed := true, recurses := true, apart := false, narrowed := true }
def InletOrderUptoSaid : Prop := inletOrderUptoRow.holds Try.pinned (OpenSpec.upto inletOrderSpec)

/-- 'broughamlaw18.InletTwice', WHERE WHAT IT READS IS OF BULK AT MOST 1048576: true; the input reads as it did. -/
def inletTwiceUptoRow : OpenClaim := { program := "ytccmlfekmmeloaa", sum := "b9363afb365854308c9961594256dfecf22a9b995604f7007ad4fc7d163359fc", func := "brougham/broughamlaw18.InletTwice", spec := "inletTwice", inPlace := ["slices.overlaps[brougham/spans.Span]"], unfollowed := true, recurses := true, apart := false, narrowed := true }
def InletTwiceUptoSaid : Prop := inletTwiceUptoRow.holds Try.pinned (OpenSpec.upto inletTwiceSpec)

/-- 'broughamlaw29.WheelOnce', WHERE WHAT IT READS IS OF BULK AT MOST 1048576: true; the input reads as it did. -/
def wheelOnceUptoRow : OpenClaim := { program := "ytccmlfekmmeloaa", sum := "b9363afb365854308c9961594256dfecf22a9b995604f7007ad4fc7d163359fc", func := "brougham/broughamlaw29.WheelOnce", spec := "wheelOnce", unfollowed := true, recurses := true, apart := false, narrowed := true }
def WheelOnceUptoSaid : Prop := wheelOnceUptoRow.holds Try.pinned (OpenSpec.upto wheelOnceSpec)

/-- 'broughamlaw20.AddrsFlood', WHERE WHAT IT READS IS OF BULK AT MOST 1048576: true; the input reads as it did. -/
def addrsFloodUptoRow : OpenClaim := { program := "ytccmlfekmmeloaa", sum := "b9363afb365854308c9961594256dfecf22a9b995604f7007ad4fc7d163359fc", func := "brougham/broughamlaw20.AddrsFlood", spec := "addrsFlood", unfollowed := true, recurses := true, apart := false, narrowed := true }
def AddrsFloodUptoSaid : Prop := addrsFloodUptoRow.holds Try.pinned (OpenSpec.upto addrsFloodSpec)

/-- 'broughamlaw29.WheelNext', WHERE WHAT IT READS IS OF BULK AT MOST 1048576: true; the input reads as it did. -/
def wheelNextUptoRow : OpenClaim := { program := "ytccmlfekmmeloaa", sum := "b9363afb365854308c9961594256dfecf22a9b995604f7007ad4fc7d163359fc", func := "brougham/broughamlaw29.WheelNext", spec := "wheelNext", unfollowed := true, recurses := true, apart := false, narrowed := true }
def WheelNextUptoSaid : Prop := wheelNextUptoRow.holds Try.pinned (OpenSpec.upto wheelNextSpec)

/-- 'broughamlaw29.WheelPlays', WHERE WHAT IT READS IS OF BULK AT MOST 1048576: true; the input reads as it did. -/
def wheelPlaysUptoRow : OpenClaim := { program := "ytccmlfekmmeloaa", sum := "b9363afb365854308c9961594256dfecf22a9b995604f7007ad4fc7d163359fc", func := "brougham/broughamlaw29.WheelPlays", spec := "wheelPlays", unfollowed := true, recurses := true, apart := false, narrowed := true }
def WheelPlaysUptoSaid : Prop := wheelPlaysUptoRow.holds Try.pinned (OpenSpec.upto wheelPlaysSpec)

/-- 'broughamlaw20.AddrsPlay', WHERE WHAT IT READS IS OF BULK AT MOST 1048576: true; the input reads as it did. -/
def addrsPlayUptoRow : OpenClaim := { program := "ytccmlfekmmeloaa", sum := "b9363afb365854308c9961594256dfecf22a9b995604f7007ad4fc7d163359fc", func := "brougham/broughamlaw20.AddrsPlay", spec := "addrsPlay", unfollowed := true, recurses := true, apart := false, narrowed := true }
def AddrsPlayUptoSaid : Prop := addrsPlayUptoRow.holds Try.pinned (OpenSpec.upto addrsPlaySpec)

end Rows
end Go.Proofs.Ytccmlfekmmeloaa
