/- What the code of some functions says, as the core reads it; each reading is checked by the kernel. -/
import Derived.Test.YtccmlfekmmeloaaBrSeat
set_option linter.unusedVariables false
set_option maxRecDepth 100000
namespace Go.Br
open Go Go.Proofs

/-- brougham/broughamref06.Join -/
def N146 (l : Option Addr) (lN lC : Nat) (x : Int) (x1 : Int) (w : World) (Q : Value → World → Prop) : Prop :=
 RUNA PG (Instr.box 266 (.agg #[(.int .u64 x), (.int .u64 x1)])) w fun a3 w1 =>
 ∃ I : Nat → Option Addr → Nat → Nat → Int → World → Prop,
 (∃ m, I m none 0 0 (0 : Int) w1) ∧
 (∀ m1 (out : Option Addr) (outN outC : Nat) (i : Int) (w2 : World), I m1 out outN outC i w2 → (IFB (decide (i < (lN : Int)))
 (IDX l lN i fun a16 =>
 RDI PG (loadVar 42 (Addr.add (Addr.add a16 (Int.toNat i * 2)) 1)) .u64 (w2.drew) fun x18 =>
 RDI PG (loadVar 42 (Addr.add a3 0)) .u64 (w2.drew) fun x20 =>
 IFB (decide (x18 < x20))
 (IDX l lN i fun a35 =>
 RD PG (loadVar 266 (Addr.add a35 (Int.toNat i * 2))) (w2.drew) fun v =>
 ∃ x36 : Int, ∃ x36v1 : Int, v = (.agg #[(.int .u64 x36), (.int .u64 x36v1)]) ∧
 (RUNL PG (Instr.buildSlice 224 1 #[(0, (.agg #[(.int .u64 x36), (.int .u64 x36v1)]))]) (w2.drew) fun x37 x37N x37C w3 =>
 RUNL PG (Builtin.append_ #[224, 224] 224 #[(.slice out outN outC), (.slice x37 x37N x37C)]) w3 fun x38 x38N x38C w4 =>
 LETI (IntKind.i64.wrap (i + (1 : Int))) fun i1 =>
 ∃ m2, m2 < m1 ∧ I m2 x38 x38N x38C i1 w4))
 (IDX l lN i fun a25 =>
 RDI PG (loadVar 42 (Addr.add (Addr.add a25 (Int.toNat i * 2)) 0)) .u64 (w2.drew) fun x27 =>
 RDI PG (loadVar 42 (Addr.add a3 1)) .u64 (w2.drew) fun x29 =>
 IFB (decide (x27 > x29))
 (IDX l lN i fun a35v1 =>
 RD PG (loadVar 266 (Addr.add a35v1 (Int.toNat i * 2))) (w2.drew) fun v1 =>
 ∃ x36v2 : Int, ∃ x36v3 : Int, v1 = (.agg #[(.int .u64 x36v2), (.int .u64 x36v3)]) ∧
 (RUNL PG (Instr.buildSlice 224 1 #[(0, (.agg #[(.int .u64 x36v2), (.int .u64 x36v3)]))]) (w2.drew) fun x37v1 x37N1 x37C1 w5 =>
 RUNL PG (Builtin.append_ #[224, 224] 224 #[(.slice out outN outC), (.slice x37v1 x37N1 x37C1)]) w5 fun x38v1 x38N1 x38C1 w6 =>
 LETI (IntKind.i64.wrap (i + (1 : Int))) fun i2 =>
 ∃ m3, m3 < m1 ∧ I m3 x38v1 x38N1 x38C1 i2 w6))
 (∃ R : World → Prop,
 (IDX l lN i fun a41 =>
 RDI PG (loadVar 42 (Addr.add (Addr.add a41 (Int.toNat i * 2)) 0)) .u64 ((w2.drew).drew) fun x43 =>
 RDI PG (loadVar 42 (Addr.add a3 0)) .u64 ((w2.drew).drew) fun x45 =>
 IFB (decide (x43 < x45))
 (IDX l lN i fun a49 =>
 RDI PG (loadVar 42 (Addr.add (Addr.add a49 (Int.toNat i * 2)) 0)) .u64 ((w2.drew).drew) fun x51 =>
 RUNU PG (storeVar 42 (Addr.add a3 0) (.int .u64 x51)) ((w2.drew).drew) fun w7 =>
 R w7)
 (R ((w2.drew).drew))) ∧
 (∀  (w8 : World), R w8 → (IDX l lN i fun a55 =>
 RDI PG (loadVar 42 (Addr.add (Addr.add a55 (Int.toNat i * 2)) 1)) .u64 (w8.drew) fun x57 =>
 RDI PG (loadVar 42 (Addr.add a3 1)) .u64 (w8.drew) fun x59 =>
 IFB (decide (x57 > x59))
 (IDX l lN i fun a63 =>
 RDI PG (loadVar 42 (Addr.add (Addr.add a63 (Int.toNat i * 2)) 1)) .u64 (w8.drew) fun x65 =>
 RUNU PG (storeVar 42 (Addr.add a3 1) (.int .u64 x65)) (w8.drew) fun w9 =>
 LETI (IntKind.i64.wrap (i + (1 : Int))) fun i3 =>
 ∃ m4, m4 < m1 ∧ I m4 out outN outC i3 w9)
 (LETI (IntKind.i64.wrap (i + (1 : Int))) fun i4 =>
 ∃ m5, m5 < m1 ∧ I m5 out outN outC i4 (w8.drew)))))))
 (RD PG (loadVar 266 a3) w2 fun v2 =>
 ∃ x68 : Int, ∃ x68v1 : Int, v2 = (.agg #[(.int .u64 x68), (.int .u64 x68v1)]) ∧
 (RUNL PG (Instr.buildSlice 224 1 #[(0, (.agg #[(.int .u64 x68), (.int .u64 x68v1)]))]) w2 fun x69 x69N x69C w10 =>
 RUNL PG (Builtin.append_ #[224, 224] 224 #[(.slice out outN outC), (.slice x69 x69N x69C)]) w10 fun x70 x70N x70C w11 =>
 LETI (IntKind.i64.wrap ((x70N : Int) - (1 : Int))) fun i5 =>
 ∃ I1 : Nat → Int → World → Prop,
 (∃ m6, I1 m6 i5 w11) ∧
 (∀ m7 (i6 : Int) (w12 : World), I1 m7 i6 w12 → (IFB (decide (i6 > (0 : Int)))
 (IDX x70 x70N i6 fun a79 =>
 RDI PG (loadVar 42 (Addr.add (Addr.add a79 (Int.toNat i6 * 2)) 0)) .u64 (w12.drew) fun x81 =>
 IDX x70 x70N (IntKind.i64.wrap (i6 - (1 : Int))) fun a85 =>
 RDI PG (loadVar 42 (Addr.add (Addr.add a85 (Int.toNat (IntKind.i64.wrap (i6 - (1 : Int))) * 2)) 0)) .u64 (w12.drew) fun x87 =>
 IFB (decide (x81 < x87))
 (IDX x70 x70N (IntKind.i64.wrap (i6 - (1 : Int))) fun a100 =>
 RD PG (loadVar 266 (Addr.add a100 (Int.toNat (IntKind.i64.wrap (i6 - (1 : Int))) * 2))) ((w12.drew).drew) fun v3 =>
 ∃ x101 : Int, ∃ x101v1 : Int, v3 = (.agg #[(.int .u64 x101), (.int .u64 x101v1)]) ∧
 (IDX x70 x70N i6 fun a104 =>
 RD PG (loadVar 266 (Addr.add a104 (Int.toNat i6 * 2))) ((w12.drew).drew) fun v4 =>
 ∃ x105 : Int, ∃ x105v1 : Int, v4 = (.agg #[(.int .u64 x105), (.int .u64 x105v1)]) ∧
 (IDX x70 x70N i6 fun a106 =>
 RUNU PG (storeVar 266 (Addr.add a106 (Int.toNat i6 * 2)) (.agg #[(.int .u64 x101), (.int .u64 x101v1)])) ((w12.drew).drew) fun w13 =>
 IDX x70 x70N (IntKind.i64.wrap (i6 - (1 : Int))) fun a107 =>
 RUNU PG (storeVar 266 (Addr.add a107 (Int.toNat (IntKind.i64.wrap (i6 - (1 : Int))) * 2)) (.agg #[(.int .u64 x105), (.int .u64 x105v1)])) w13 fun w14 =>
 LETI (IntKind.i64.wrap (i6 - (1 : Int))) fun i7 =>
 ∃ m8, m8 < m7 ∧ I1 m8 i7 w14)))
 (Q (.slice x70 x70N x70C) (w12.drew)))
 (Q (.slice x70 x70N x70C) (w12.drew))))))))
theorem eq146 : ∀ (l : Option Addr) (lN lC : Nat) (x : Int) (x1 : Int) (w : World) (Q : Value → World → Prop), vcF PG TB Try.f146 (.s .nil (.s .nil (.s (.s .nil (.u (.loop [(5, 224), (6, 3)] (.s .nil (.s (.u (.s .nil (.cut [] .nil .nil))) .nil))))) (.s .nil (.s (.s .nil (.u (.loop [(7, 3)] .nil))) .nil))))) [(.slice l lN lC), (.agg #[(.int .u64 x), (.int .u64 x1)])] w Q = N146 l lN lC x x1 w Q := by intros; kernel_rfl
theorem call146 {l : Option Addr} {lN lC : Nat} {x : Int} {x1 : Int} {w : World} {Q : Value → World → Prop} (hN : N146 l lN lC x x1 w Q) : CALL PG 146 [(.slice l lN lC), (.agg #[(.int .u64 x), (.int .u64 x1)])] w Q := calls_vc tabOk Try.func146 (by rw [eq146]; exact hN)

end Go.Br
