/- What the code of some functions says, as the core reads it; each reading is checked by the kernel. -/
import Derived.Test.YtggajodoaooafaaBrSeat
set_option linter.unusedVariables false
set_option maxRecDepth 100000
namespace Go.Br
open Go Go.Proofs

/-- brougham/broughamref06.Cut -/
def N60 (l : Option Addr) (lN lC : Nat) (below : Int) (w : World) (Q : Value → World → Prop) : Prop :=
 ∃ I : Nat → Option Addr → Nat → Nat → Int → World → Prop,
 (∃ m, I m none 0 0 (0 : Int) w) ∧
 (∀ m1 (out : Option Addr) (outN outC : Nat) (i : Int) (w1 : World), I m1 out outN outC i w1 → (IFB (decide (i < (lN : Int)))
 (IDX l lN i fun a16 =>
 RD PG (loadVar 133 (Addr.add a16 (Int.toNat i * 2))) w1 fun v =>
 ∃ x17 : Int, ∃ x17v1 : Int, v = (.agg #[(.int .u64 x17), (.int .u64 x17v1)]) ∧
 (RUNA PG (Instr.alloc 133 true (.tuple #[])) w1 fun a7 w2 =>
 RUNU PG (storeVar 133 a7 (.agg #[(.int .u64 x17), (.int .u64 x17v1)])) w2 fun w3 =>
 RDI PG (loadVar 56 (Addr.add a7 0)) .u64 w3 fun x19 =>
 IFB (decide (x19 < below))
 (RUNU PG (storeVar 56 (Addr.add a7 0) (.int .u64 below)) w3 fun w4 =>
 RDI PG (loadVar 56 (Addr.add a7 0)) .u64 w4 fun x25 =>
 RDI PG (loadVar 56 (Addr.add a7 1)) .u64 w4 fun x27 =>
 IFB (decide (x25 < x27))
 (RD PG (loadVar 133 a7) w4 fun v1 =>
 ∃ x30 : Int, ∃ x30v1 : Int, v1 = (.agg #[(.int .u64 x30), (.int .u64 x30v1)]) ∧
 (RUNL PG (Instr.buildSlice 125 1 #[(0, (.agg #[(.int .u64 x30), (.int .u64 x30v1)]))]) w4 fun x31 x31N x31C w5 =>
 RUNL PG (Builtin.append_ #[125, 125] 125 #[(.slice out outN outC), (.slice x31 x31N x31C)]) w5 fun x32 x32N x32C w6 =>
 LETI (IntKind.i64.wrap (i + (1 : Int))) fun i1 =>
 ∃ m2, m2 < m1 ∧ I m2 x32 x32N x32C i1 w6))
 (LETI (IntKind.i64.wrap (i + (1 : Int))) fun i2 =>
 ∃ m3, m3 < m1 ∧ I m3 out outN outC i2 w4))
 (RDI PG (loadVar 56 (Addr.add a7 0)) .u64 w3 fun x25v1 =>
 RDI PG (loadVar 56 (Addr.add a7 1)) .u64 w3 fun x27v1 =>
 IFB (decide (x25v1 < x27v1))
 (RD PG (loadVar 133 a7) w3 fun v2 =>
 ∃ x30v2 : Int, ∃ x30v3 : Int, v2 = (.agg #[(.int .u64 x30v2), (.int .u64 x30v3)]) ∧
 (RUNL PG (Instr.buildSlice 125 1 #[(0, (.agg #[(.int .u64 x30v2), (.int .u64 x30v3)]))]) w3 fun x31v1 x31N1 x31C1 w7 =>
 RUNL PG (Builtin.append_ #[125, 125] 125 #[(.slice out outN outC), (.slice x31v1 x31N1 x31C1)]) w7 fun x32v1 x32N1 x32C1 w8 =>
 LETI (IntKind.i64.wrap (i + (1 : Int))) fun i3 =>
 ∃ m4, m4 < m1 ∧ I m4 x32v1 x32N1 x32C1 i3 w8))
 (LETI (IntKind.i64.wrap (i + (1 : Int))) fun i4 =>
 ∃ m5, m5 < m1 ∧ I m5 out outN outC i4 w3))))
 (Q (.slice out outN outC) w1)))
theorem eq60 : ∀ (l : Option Addr) (lN lC : Nat) (below : Int) (w : World) (Q : Value → World → Prop), vcF PG TB Try.f60 (.s .nil (.s .nil (.s (.s .nil (.u (.loop [(5, 125), (6, 3)] .nil))) .nil))) [(.slice l lN lC), (.int .u64 below)] w Q = N60 l lN lC below w Q := by intros; kernel_rfl
theorem call60 {l : Option Addr} {lN lC : Nat} {below : Int} {w : World} {Q : Value → World → Prop} (hN : N60 l lN lC below w Q) : CALL PG 60 [(.slice l lN lC), (.int .u64 below)] w Q := calls_vc tabOk Try.func60 (by rw [eq60]; exact hN)

/-- brougham/broughamref06.Run -/
def N66 (l : Option Addr) (lN lC : Nat) (fromv : Int) (w : World) (Q : Value → World → Prop) : Prop :=
 ∃ I : Nat → Int → World → Prop,
 (∃ m, I m (0 : Int) w) ∧
 (∀ m1 (i : Int) (w1 : World), I m1 i w1 → (IFB (decide (i < (lN : Int)))
 (IDX l lN i fun a14 =>
 RDI PG (loadVar 56 (Addr.add (Addr.add a14 (Int.toNat i * 2)) 0)) .u64 w1 fun x16 =>
 IFB (decide (x16 ≤ fromv))
 (IDX l lN i fun a23 =>
 RDI PG (loadVar 56 (Addr.add (Addr.add a23 (Int.toNat i * 2)) 1)) .u64 w1 fun x25 =>
 IFB (decide (fromv < x25))
 (IDX l lN i fun a30 =>
 RDI PG (loadVar 56 (Addr.add (Addr.add a30 (Int.toNat i * 2)) 1)) .u64 w1 fun x32 =>
 LETI x32 fun x4 =>
 Q (.int .u64 x4) w1)
 (LETI (IntKind.i64.wrap (i + (1 : Int))) fun i1 =>
 ∃ m2, m2 < m1 ∧ I m2 i1 w1))
 (LETI (IntKind.i64.wrap (i + (1 : Int))) fun i2 =>
 ∃ m3, m3 < m1 ∧ I m3 i2 w1))
 (LETI fromv fun x4v1 =>
 Q (.int .u64 x4v1) w1)))
theorem eq66 : ∀ (l : Option Addr) (lN lC : Nat) (fromv : Int) (w : World) (Q : Value → World → Prop), vcF PG TB Try.f66 (.s .nil (.s (.s .nil (.u (.loop [(5, 3)] .nil))) .nil)) [(.slice l lN lC), (.int .u64 fromv)] w Q = N66 l lN lC fromv w Q := by intros; kernel_rfl
theorem call66 {l : Option Addr} {lN lC : Nat} {fromv : Int} {w : World} {Q : Value → World → Prop} (hN : N66 l lN lC fromv w Q) : CALL PG 66 [(.slice l lN lC), (.int .u64 fromv)] w Q := calls_vc tabOk Try.func66 (by rw [eq66]; exact hN)

/-- brougham/broughamref06.Gaps -/
def N68 (l : Option Addr) (lN lC : Nat) (fromv : Int) (tov : Int) (w : World) (Q : Value → World → Prop) : Prop :=
 ∃ I : Nat → Int → Option Addr → Nat → Nat → World → Prop,
 (∃ m, I m fromv none 0 0 w) ∧
 (∀ m1 (fromv1 : Int) (out : Option Addr) (outN outC : Nat) (w1 : World), I m1 fromv1 out outN outC w1 → (IFB (decide (fromv1 < tov))
 (CALL PG 66 [(.slice l lN lC), (.int .u64 fromv1)] w1 fun v w2 =>
 ∃ x16 : Int, v = (.int .u64 x16) ∧
 (LETI x16 fun x =>
 IFB (decide (x ≥ tov))
 (Q (.slice out outN outC) w2)
 (LETI tov fun next =>
 ∃ I1 : Nat → Int → Int → World → Prop,
 (∃ m2, I1 m2 next (0 : Int) w2) ∧
 (∀ m3 (next1 : Int) (i : Int) (w3 : World), I1 m3 next1 i w3 → (IFB (decide (i < (lN : Int)))
 (IDX l lN i fun a30 =>
 RDI PG (loadVar 56 (Addr.add (Addr.add a30 (Int.toNat i * 2)) 0)) .u64 w3 fun x32 =>
 IFB (decide (x32 > x))
 (IDX l lN i fun a38 =>
 RDI PG (loadVar 56 (Addr.add (Addr.add a38 (Int.toNat i * 2)) 0)) .u64 w3 fun x40 =>
 IFB (decide (x40 < next1))
 (IDX l lN i fun a46 =>
 RDI PG (loadVar 56 (Addr.add (Addr.add a46 (Int.toNat i * 2)) 0)) .u64 w3 fun x48 =>
 LETI x48 fun next2 =>
 LETI (IntKind.i64.wrap (i + (1 : Int))) fun i1 =>
 ∃ m4, m4 < m3 ∧ I1 m4 next2 i1 w3)
 (LETI (IntKind.i64.wrap (i + (1 : Int))) fun i2 =>
 ∃ m5, m5 < m3 ∧ I1 m5 next1 i2 w3))
 (LETI (IntKind.i64.wrap (i + (1 : Int))) fun i3 =>
 ∃ m6, m6 < m3 ∧ I1 m6 next1 i3 w3))
 (RD PG (Instr.build 133 #[(0, (.int .u64 x)), (1, (.int .u64 next1))]) w3 fun v1 =>
 ∃ x52 : Int, ∃ x52v1 : Int, v1 = (.agg #[(.int .u64 x52), (.int .u64 x52v1)]) ∧
 (RUNL PG (Instr.buildSlice 125 1 #[(0, (.agg #[(.int .u64 x52), (.int .u64 x52v1)]))]) w3 fun x53 x53N x53C w4 =>
 RUNL PG (Builtin.append_ #[125, 125] 125 #[(.slice out outN outC), (.slice x53 x53N x53C)]) w4 fun x54 x54N x54C w5 =>
 LETI next1 fun fromv2 =>
 ∃ m7, m7 < m1 ∧ I m7 fromv2 x54 x54N x54C w5)))))))
 (Q (.slice out outN outC) w1)))
theorem eq68 : ∀ (l : Option Addr) (lN lC : Nat) (fromv : Int) (tov : Int) (w : World) (Q : Value → World → Prop), vcF PG TB Try.f68 (.s .nil (.s .nil (.s (.u (.loop [(1, 56), (7, 125)] (.s .nil (.u (.s .nil (.s .nil (.s .nil (.s (.s .nil (.u (.loop [(9, 56), (10, 3)] .nil))) .nil)))))))) .nil))) [(.slice l lN lC), (.int .u64 fromv), (.int .u64 tov)] w Q = N68 l lN lC fromv tov w Q := by intros; kernel_rfl
theorem call68 {l : Option Addr} {lN lC : Nat} {fromv : Int} {tov : Int} {w : World} {Q : Value → World → Prop} (hN : N68 l lN lC fromv tov w Q) : CALL PG 68 [(.slice l lN lC), (.int .u64 fromv), (.int .u64 tov)] w Q := calls_vc tabOk Try.func68 (by rw [eq68]; exact hN)

end Go.Br
