/- What the code of some functions says, as the core reads it; each reading is checked by the kernel. -/
import Derived.Test.YtedgfhklpfmjaaaGreatBrSeat
set_option linter.unusedVariables false
set_option maxRecDepth 100000
namespace Go.Br
open Go Go.Proofs

/-- brougham/num.Line -/
def N22 (l : Option Addr) (lN lC : Nat) (w : World) (Q : Value → World → Prop) : Prop :=
 ∃ I : Nat → Option Addr → Nat → Nat → Int → World → Prop,
 (∃ m, I m none 0 0 (0 : Int) w) ∧
 (∀ m1 (out : Option Addr) (outN outC : Nat) (x8 : Int) (w1 : World), I m1 out outN outC x8 w1 → (IFB (decide (x8 < (lN : Int)))
 (IDX l lN x8 fun a10 =>
 RDT PG (loadVar 9 (Addr.add a10 (Int.toNat x8 * 1))) w1 fun x11 =>
 LETS x11 fun s =>
 IFB (!(s.toList == (ByteArray.mk #[]).toList))
 (RUNL PG (Instr.buildSlice 75 1 #[(0, (.string s))]) w1 fun x16 x16N x16C w2 =>
 RUNL PG (Builtin.append_ #[75, 75] 75 #[(.slice out outN outC), (.slice x16 x16N x16C)]) w2 fun x17 x17N x17C w3 =>
 ∃ m2, m2 < m1 ∧ I m2 x17 x17N x17C (IntKind.i64.wrap (x8 + (1 : Int))) w3)
 (∃ m3, m3 < m1 ∧ I m3 out outN outC (IntKind.i64.wrap (x8 + (1 : Int))) w1))
 (CALL PG 34 [(.slice out outN outC), (.string (ByteArray.mk #[32]))] w1 fun v w4 =>
 ∃ x20 : ByteArray, v = (.string x20) ∧
 (LETS x20 fun x2 =>
 Q (.string x2) w4))))
theorem eq22 : ∀ (l : Option Addr) (lN lC : Nat) (w : World) (Q : Value → World → Prop), vcF PG TB Tryz.f22 (.s .nil (.s .nil (.s (.s .nil (.u (.loop [(3, 75), (8, 3)] .nil))) .nil))) [(.slice l lN lC)] w Q = N22 l lN lC w Q := by intros; kernel_rfl
theorem call22 {l : Option Addr} {lN lC : Nat} {w : World} {Q : Value → World → Prop} (hN : N22 l lN lC w Q) : CALL PG 22 [(.slice l lN lC)] w Q := calls_vc tabOk Tryz.func22 (by rw [eq22]; exact hN)

end Go.Br
