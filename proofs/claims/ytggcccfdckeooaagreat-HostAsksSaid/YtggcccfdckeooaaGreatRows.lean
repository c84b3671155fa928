/-
  No cell of these rows narrows 'for every input' (looked for: loops, veiled, ifaces, maps, wideKeys, modest, calm, conditions, laid).
  DERIVED. THE GIVEN ROWS OF THIS SEAT. 4 by the template 'for every input the law returns true; each argument reads behind the call as it read before'; 0 by the template 'total and deterministic' (their statements: YtggcccfdckeooaaGreatTotals.lean).
  GIVEN WITH THE SEED: the statements are not yours to turn. If you find one false, say at which input.
  Laid BY PROGRAM, IN A SANDBOX (cutbox-rows.mjs): the forced cells as the released guide's own fill.sh prints them over the translation cc40a53d2b021cac… (all of the seat's roots in one cut). By AI agents, Wed Nov 11 2026. No macro, syntax, notation, axiom, sorry.
-/
import Derived.Test.YtggcccfdckeooaaGreatChecked
import GoSem.Claim
import GoSem.ClaimJoined
import GoSem.ClaimMapViews
import Derived.JoinedTies
import Derived.KernelRfl
namespace Go.Proofs.YtggcccfdckeooaaGreat
/- THE CELL 'sum', in the pinned program and in every row, IS THE sha256 OF THE DUMP (.gsa) THAT YtggcccfdckeooaaGreatProg.lean LOADS. Nothing in Lean hashes anything: it is a label: what it is worth is what the hold of that sum in a sandbox is worth. -/
noncomputable def Tryz.pinned : Pinned := { name := "ytggcccfdckeooaagreat", sum := "cc40a53d2b021cacf7d697583e1b56a29160fd446019d83f62ef39443b43e4b7", checked := Tryz.checked }
namespace Rows
def none {H : Type} : Left H := { results := [], args := [] }

/-- 'broughamlaw27.AuditFits': WHATEVER THE INPUT: true; the input reads as it did. -/
def auditFitsSpec : ChangeSpec := { name := "auditFits", fn := fun _ => fun
  | [d1, d2, d3] => { results := [.lit (.bool true)], args := [d1, d2, d3] }
  | _ => none }
def auditFitsRow : OpenClaim := { program := "ytggcccfdckeooaagreat", sum := "cc40a53d2b021cacf7d697583e1b56a29160fd446019d83f62ef39443b43e4b7", func := "brougham/broughamlaw27.AuditFits", spec := "auditFits", inPlace := ["internal/abi.NoEscape", "internal/bytealg.MakeNoZero"], unfollowed := true, recurses := true, apart := false }
def AuditFitsSaid : Prop := auditFitsRow.holds Tryz.pinned (OpenSpec.ofChange auditFitsSpec)

/-- ITS FALSE NEIGHBOUR: 'it returns false'. Refute it at one input. -/
def auditFitsWrong : ChangeSpec := { name := "auditFits", fn := fun _ => fun
  | [d1, d2, d3] => { results := [.lit (.bool false)], args := [d1, d2, d3] }
  | _ => none }
def AuditFitsWrongFalsely : Prop := auditFitsRow.holds Tryz.pinned (OpenSpec.ofChange auditFitsWrong)

/-- 'broughamlaw23.HostRight': WHATEVER THE INPUT: true; the input reads as it did. -/
def hostRightSpec : ChangeSpec := { name := "hostRight", fn := fun _ => fun
  | [d] => { results := [.lit (.bool true)], args := [d] }
  | _ => none }
def hostRightRow : OpenClaim := { program := "ytggcccfdckeooaagreat", sum := "cc40a53d2b021cacf7d697583e1b56a29160fd446019d83f62ef39443b43e4b7", func := "brougham/broughamlaw23.HostRight", spec := "hostRight", inPlace := ["slices.overlaps[brougham/spans.Span]"], unfollowed := true, recurses := true, apart := false }
def HostRightSaid : Prop := hostRightRow.holds Tryz.pinned (OpenSpec.ofChange hostRightSpec)

/-- ITS FALSE NEIGHBOUR: 'it returns false'. Refute it at one input. -/
def hostRightWrong : ChangeSpec := { name := "hostRight", fn := fun _ => fun
  | [d] => { results := [.lit (.bool false)], args := [d] }
  | _ => none }
def HostRightWrongFalsely : Prop := hostRightRow.holds Tryz.pinned (OpenSpec.ofChange hostRightWrong)

/-- 'broughamlaw23.HostAsks': WHATEVER THE INPUT: true; the input reads as it did. -/
def hostAsksSpec : ChangeSpec := { name := "hostAsks", fn := fun _ => fun
  | [d1, d2, d3] => { results := [.lit (.bool true)], args := [d1, d2, d3] }
  | _ => none }
def hostAsksRow : OpenClaim := { program := "ytggcccfdckeooaagreat", sum := "cc40a53d2b021cacf7d697583e1b56a29160fd446019d83f62ef39443b43e4b7", func := "brougham/broughamlaw23.HostAsks", spec := "hostAsks", inPlace := ["slices.overlaps[brougham/spans.Span]"], unfollowed := true, recurses := true, apart := false }
def HostAsksSaid : Prop := hostAsksRow.holds Tryz.pinned (OpenSpec.ofChange hostAsksSpec)

/-- ITS FALSE NEIGHBOUR: 'it returns false'. Refute it at one input. -/
def hostAsksWrong : ChangeSpec := { name := "hostAsks", fn := fun _ => fun
  | [d1, d2, d3] => { results := [.lit (.bool false)], args := [d1, d2, d3] }
  | _ => none }
def HostAsksWrongFalsely : Prop := hostAsksRow.holds Tryz.pinned (OpenSpec.ofChange hostAsksWrong)

/-- 'broughamlaw23.HostRefuses': WHATEVER THE INPUT: true; the input reads as it did. -/
def hostRefusesSpec : ChangeSpec := { name := "hostRefuses", fn := fun _ => fun
  | [d1, d2, d3] => { results := [.lit (.bool true)], args := [d1, d2, d3] }
  | _ => none }
def hostRefusesRow : OpenClaim := { program := "ytggcccfdckeooaagreat", sum := "cc40a53d2b021cacf7d697583e1b56a29160fd446019d83f62ef39443b43e4b7", func := "brougham/broughamlaw23.HostRefuses", spec := "hostRefuses", inPlace := ["slices.overlaps[brougham/spans.Span]"], unfollowed := true, recurses := true, apart := false }
def HostRefusesSaid : Prop := hostRefusesRow.holds Tryz.pinned (OpenSpec.ofChange hostRefusesSpec)

/-- ITS FALSE NEIGHBOUR: 'it returns false'. Refute it at one input. -/
def hostRefusesWrong : ChangeSpec := { name := "hostRefuses", fn := fun _ => fun
  | [d1, d2, d3] => { results := [.lit (.bool false)], args := [d1, d2, d3] }
  | _ => none }
def HostRefusesWrongFalsely : Prop := hostRefusesRow.holds Tryz.pinned (OpenSpec.ofChange hostRefusesWrong)

/- THE SECOND FORM. 'bulk': how many values and letters a reading holds, each counted each time it is reached (what is shared counts as often as it is met; a slice's spare places count too). A statement '..UptoSaid' is the law's where the arguments, and the package variables that the reading takes, are together of bulk at most 1048576: NARROWER than '..Said'. Prove '..Said' where nothing that the law and all that it calls make is longer than what came in: it says more and counts as full. Else prove '..UptoSaid'. A law counts once. -/
mutual
def uptoBulk {H : Type} : DataW H → Nat
  | .lit (.string bytes) => bytes.length + 1
  | .lit _ => 1
  | .nil => 1
  | .ptr d => uptoBulk d + 1
  | .slice elems spare => uptoBulkAll elems + uptoBulkAll spare + 1
  | .agg parts => uptoBulkAll parts + 1
  | .iface _ d => uptoBulk d + 1
  | .map entries => uptoBulkEntries entries + 1
  | .held _ => 1
def uptoBulkAll {H : Type} : List (DataW H) → Nat
  | [] => 0
  | d :: r => uptoBulk d + uptoBulkAll r
def uptoBulkEntries {H : Type} : List (Lit × DataW H) → Nat
  | [] => 0
  | x :: r => uptoBulkEntry x + uptoBulkEntries r
def uptoBulkEntry {H : Type} : Lit × DataW H → Nat
  | (.string bytes, d) => bytes.length + uptoBulk d + 1
  | (_, d) => uptoBulk d + 1
 end
def uptoSmall : (H : Type) → List (DataW H) → Bool := fun _ ds => decide (uptoBulkAll ds ≤ 1048576)
def OpenSpec.upto (s : _root_.Go.ChangeSpec) : _root_.Go.OpenSpec := { _root_.Go.OpenSpec.ofChange s with cond := some uptoSmall }

/-- 'broughamlaw27.AuditFits', WHERE WHAT IT READS IS OF BULK AT MOST 1048576: true; the input reads as it did. -/
def auditFitsUptoRow : OpenClaim := { program := "ytggcccfdckeooaagreat", sum := "cc40a53d2b021cacf7d697583e1b56a29160fd446019d83f62ef39443b43e4b7", func := "brougham/broughamlaw27.AuditFits", spec := "auditFits", inPlace := ["internal/abi.NoEscape", "internal/bytealg.MakeNoZero"], unfollowed := true, recurses := true, apart := false, narrowed := true }
def AuditFitsUptoSaid : Prop := auditFitsUptoRow.holds Tryz.pinned (OpenSpec.upto auditFitsSpec)

/-- 'broughamlaw23.HostRight', WHERE WHAT IT READS IS OF BULK AT MOST 1048576: true; the input reads as it did. -/
def hostRightUptoRow : OpenClaim := { program := "ytggcccfdckeooaagreat", sum := "cc40a53d2b021cacf7d697583e1b56a29160fd446019d83f62ef39443b43e4b7", func := "brougham/broughamlaw23.HostRight", spec := "hostRight", inPlace := ["slices.overlaps[brougham/spans.Span]"], unfollowed := true, recurses := true, apart := false, narrowed := true }
def HostRightUptoSaid : Prop := hostRightUptoRow.holds Tryz.pinned (OpenSpec.upto hostRightSpec)

/-- 'broughamlaw23.HostAsks', WHERE WHAT IT READS IS OF BULK AT MOST 1048576: true; the input reads as it did. -/
def hostAsksUptoRow : OpenClaim := { program := "ytggcccfdckeooaagreat", sum := "cc40a53d2b021cacf7d697583e1b56a29160fd446019d83f62ef39443b43e4b7", func := "brougham/broughamlaw23.HostAsks", spec := "hostAsks", inPlace := ["slices.overlaps[brougham/spans.Span]"], unfollowed := true, recurses := true, apart := false, narrowed := true }
def HostAsksUptoSaid : Prop := hostAsksUptoRow.holds Tryz.pinned (OpenSpec.upto hostAsksSpec)

/-- 'broughamlaw23.HostRefuses', WHERE WHAT IT READS IS OF BULK AT MOST 1048576: true; the input reads as it did. -/
def hostRefusesUptoRow : OpenClaim := { program := "ytggcccfdckeooaagreat", sum := "cc40a53d2b021cacf7d697583e1b56a29160fd446019d83f62ef39443b43e4b7", func := "brougham/broughamlaw23.HostRefuses", spec := "hostRefuses", inPlace := ["slices.overlaps[brougham/spans.Span]"], unfollowed := true, recurses := true, apart := false, narrowed := true }
def HostRefusesUptoSaid : Prop := hostRefusesUptoRow.holds Tryz.pinned (OpenSpec.upto hostRefusesSpec)

end Rows
end Go.Proofs.YtggcccfdckeooaaGreat
