/- What the code of some functions says, as the core reads it; each reading is checked by the kernel. -/
import Derived.Test.YtccmlfekmmeloaaBrSeat
set_option linter.unusedVariables false
set_option maxRecDepth 100000
namespace Go.Br
open Go Go.Proofs

/-- brougham/broughamref29.Tick -/
def N48 (wv : Int) (wv1 : Int) (wv2 : Option Addr) (wN wC : Nat) (w : World) (Q : Value → World → Prop) : Prop :=
 RUNA PG (Instr.box 97 (.agg #[(.int .i64 wv), (.int .i64 wv1), (.slice wv2 wN wC)])) w fun a1 w1 =>
 RUNA PG (Instr.alloc 97 true (.tuple #[])) w1 fun a2 w2 =>
 RDI PG (loadVar 3 (Addr.add a1 0)) .i64 w2 fun x9 =>
 RUNU PG (storeVar 3 (Addr.add a1 0) (.int .i64 (IntKind.i64.wrap (x9 + (1 : Int))))) w2 fun w3 =>
 ∃ I : Nat → Option Addr → Nat → Nat → Option Addr → Nat → Nat → Int → World → Prop,
 (∃ m, I m none 0 0 none 0 0 (0 : Int) w3) ∧
 (∀ m1 (left : Option Addr) (leftN leftC : Nat) (out : Option Addr) (outN outC : Nat) (i : Int) (w4 : World), I m1 left leftN leftC out outN outC i w4 → (RDL PG (loadVar 95 (Addr.add a1 2)) w4 fun x14 x14N x14C =>
 IFB (decide (i < (x14N : Int)))
 (RDL PG (loadVar 95 (Addr.add a1 2)) (w4.drew) fun x20 x20N x20C =>
 IDX x20 x20N i fun a22 =>
 RDI PG (loadVar 3 (Addr.add (Addr.add a22 (Int.toNat i * 2)) 1)) .i64 (w4.drew) fun x24 =>
 RDI PG (loadVar 3 (Addr.add a1 0)) .i64 (w4.drew) fun x26 =>
 IFB (x24 != x26)
 (RDL PG (loadVar 95 (Addr.add a1 2)) (w4.drew) fun x30 x30N x30C =>
 IDX x30 x30N i fun a32 =>
 RD PG (loadVar 172 (Addr.add a32 (Int.toNat i * 2))) (w4.drew) fun v =>
 ∃ x33 : Int, ∃ x33v1 : Int, v = (.agg #[(.int .i64 x33), (.int .i64 x33v1)]) ∧
 (RUNL PG (Instr.buildSlice 95 1 #[(0, (.agg #[(.int .i64 x33), (.int .i64 x33v1)]))]) (w4.drew) fun x34 x34N x34C w5 =>
 RUNL PG (Builtin.append_ #[95, 95] 95 #[(.slice left leftN leftC), (.slice x34 x34N x34C)]) w5 fun x35 x35N x35C w6 =>
 LETI (IntKind.i64.wrap (i + (1 : Int))) fun i1 =>
 ∃ m2, m2 < m1 ∧ I m2 x35 x35N x35C out outN outC i1 w6))
 (RDL PG (loadVar 95 (Addr.add a1 2)) (w4.drew) fun x38 x38N x38C =>
 IDX x38 x38N i fun a40 =>
 RDI PG (loadVar 3 (Addr.add (Addr.add a40 (Int.toNat i * 2)) 0)) .i64 (w4.drew) fun x42 =>
 RUNL PG (Instr.buildSlice 89 1 #[(0, (.int .i64 x42))]) (w4.drew) fun x43 x43N x43C w7 =>
 RUNL PG (Builtin.append_ #[89, 89] 89 #[(.slice out outN outC), (.slice x43 x43N x43C)]) w7 fun x44 x44N x44C w8 =>
 LETI (IntKind.i64.wrap ((x44N : Int) - (1 : Int))) fun k =>
 ∃ I1 : Nat → Int → World → Prop,
 (∃ m3, I1 m3 k w8) ∧
 (∀ m4 (k1 : Int) (w9 : World), I1 m4 k1 w9 → (IFB (decide (k1 > (0 : Int)))
 (IDX x44 x44N k1 fun a53 =>
 RDI PG (loadVar 3 (Addr.add a53 (Int.toNat k1 * 1))) .i64 (w9.drew) fun x54 =>
 IDX x44 x44N (IntKind.i64.wrap (k1 - (1 : Int))) fun a58 =>
 RDI PG (loadVar 3 (Addr.add a58 (Int.toNat (IntKind.i64.wrap (k1 - (1 : Int))) * 1))) .i64 (w9.drew) fun x59 =>
 IFB (decide (x54 < x59))
 (IDX x44 x44N (IntKind.i64.wrap (k1 - (1 : Int))) fun a72 =>
 RDI PG (loadVar 3 (Addr.add a72 (Int.toNat (IntKind.i64.wrap (k1 - (1 : Int))) * 1))) .i64 ((w9.drew).drew) fun x73 =>
 IDX x44 x44N k1 fun a76 =>
 RDI PG (loadVar 3 (Addr.add a76 (Int.toNat k1 * 1))) .i64 ((w9.drew).drew) fun x77 =>
 IDX x44 x44N k1 fun a78 =>
 RUNU PG (storeVar 3 (Addr.add a78 (Int.toNat k1 * 1)) (.int .i64 x73)) ((w9.drew).drew) fun w10 =>
 IDX x44 x44N (IntKind.i64.wrap (k1 - (1 : Int))) fun a79 =>
 RUNU PG (storeVar 3 (Addr.add a79 (Int.toNat (IntKind.i64.wrap (k1 - (1 : Int))) * 1)) (.int .i64 x77)) w10 fun w11 =>
 LETI (IntKind.i64.wrap (k1 - (1 : Int))) fun k2 =>
 ∃ m5, m5 < m4 ∧ I1 m5 k2 w11)
 (LETI (IntKind.i64.wrap (i + (1 : Int))) fun i2 =>
 ∃ m6, m6 < m1 ∧ I m6 left leftN leftC x44 x44N x44C i2 (w9.drew)))
 (LETI (IntKind.i64.wrap (i + (1 : Int))) fun i3 =>
 ∃ m7, m7 < m1 ∧ I m7 left leftN leftC x44 x44N x44C i3 (w9.drew))))))
 (RUNU PG (storeVar 95 (Addr.add a1 2) (.slice left leftN leftC)) w4 fun w12 =>
 RD PG (loadVar 97 a1) w12 fun v1 =>
 ∃ x82 : Int, ∃ x82v1 : Int, ∃ (x82v2 : Option Addr) (x82N x82C : Nat), v1 = (.agg #[(.int .i64 x82), (.int .i64 x82v1), (.slice x82v2 x82N x82C)]) ∧
 (RUNU PG (storeVar 97 a2 (.agg #[(.int .i64 x82), (.int .i64 x82v1), (.slice x82v2 x82N x82C)])) w12 fun w13 =>
 RD PG (loadVar 97 a2) w13 fun v3 =>
 ∃ r : Int, ∃ r1 : Int, ∃ (r2 : Option Addr) (rN rC : Nat), v3 = (.agg #[(.int .i64 r), (.int .i64 r1), (.slice r2 rN rC)]) ∧
 (Q (.tuple #[(.agg #[(.int .i64 r), (.int .i64 r1), (.slice r2 rN rC)]), (.slice out outN outC)]) w13)))))
theorem eq48 : ∀ (wv : Int) (wv1 : Int) (wv2 : Option Addr) (wN wC : Nat) (w : World) (Q : Value → World → Prop), vcF PG TB Try.f48 (.s .nil (.s .nil (.s .nil (.s .nil (.s (.s .nil (.u (.loop [(4, 95), (5, 89), (6, 3)] (.s .nil (.s (.u (.s .nil (.s .nil (.s .nil (.u (.loop [(7, 3)] .nil)))))) .nil))))) .nil))))) [(.agg #[(.int .i64 wv), (.int .i64 wv1), (.slice wv2 wN wC)])] w Q = N48 wv wv1 wv2 wN wC w Q := by intros; kernel_rfl
theorem call48 {wv : Int} {wv1 : Int} {wv2 : Option Addr} {wN wC : Nat} {w : World} {Q : Value → World → Prop} (hN : N48 wv wv1 wv2 wN wC w Q) : CALL PG 48 [(.agg #[(.int .i64 wv), (.int .i64 wv1), (.slice wv2 wN wC)])] w Q := calls_vc tabOk Try.func48 (by rw [eq48]; exact hN)

/-- brougham/broughamref29.Add -/
def N50 (wv : Int) (wv1 : Int) (wv2 : Option Addr) (wN wC : Nat) (id : Int) (ticks : Int) (w : World) (Q : Value → World → Prop) : Prop :=
 RUNA PG (Instr.box 97 (.agg #[(.int .i64 wv), (.int .i64 wv1), (.slice wv2 wN wC)])) w fun a3 w1 =>
 RUNA PG (Instr.alloc 97 true (.tuple #[])) w1 fun a6 w2 =>
 IFB (decide (ticks < (1 : Int)))
 (RD PG (loadVar 97 a3) w2 fun v =>
 ∃ x14 : Int, ∃ x14v1 : Int, ∃ (x14v2 : Option Addr) (x14N x14C : Nat), v = (.agg #[(.int .i64 x14), (.int .i64 x14v1), (.slice x14v2 x14N x14C)]) ∧
 (RUNU PG (storeVar 97 a6 (.agg #[(.int .i64 x14), (.int .i64 x14v1), (.slice x14v2 x14N x14C)])) w2 fun w3 =>
 RD PG (loadVar 97 a6) w3 fun v2 =>
 ∃ r : Int, ∃ r1 : Int, ∃ (r2 : Option Addr) (rN rC : Nat), v2 = (.agg #[(.int .i64 r), (.int .i64 r1), (.slice r2 rN rC)]) ∧
 (Q (.tuple #[(.agg #[(.int .i64 r), (.int .i64 r1), (.slice r2 rN rC)]), (.bool false)]) w3)))
 (IFB (decide (ticks > (65535 : Int)))
 (RD PG (loadVar 97 a3) w2 fun v3 =>
 ∃ x14v3 : Int, ∃ x14v4 : Int, ∃ (x14v5 : Option Addr) (x14N1 x14C1 : Nat), v3 = (.agg #[(.int .i64 x14v3), (.int .i64 x14v4), (.slice x14v5 x14N1 x14C1)]) ∧
 (RUNU PG (storeVar 97 a6 (.agg #[(.int .i64 x14v3), (.int .i64 x14v4), (.slice x14v5 x14N1 x14C1)])) w2 fun w4 =>
 RD PG (loadVar 97 a6) w4 fun v5 =>
 ∃ r3 : Int, ∃ r4 : Int, ∃ (r5 : Option Addr) (rN1 rC1 : Nat), v5 = (.agg #[(.int .i64 r3), (.int .i64 r4), (.slice r5 rN1 rC1)]) ∧
 (Q (.tuple #[(.agg #[(.int .i64 r3), (.int .i64 r4), (.slice r5 rN1 rC1)]), (.bool false)]) w4)))
 (RD PG (loadVar 97 a3) w2 fun v6 =>
 ∃ x16 : Int, ∃ x16v1 : Int, ∃ (x16v2 : Option Addr) (x16N x16C : Nat), v6 = (.agg #[(.int .i64 x16), (.int .i64 x16v1), (.slice x16v2 x16N x16C)]) ∧
 (CALL PG 46 [(.agg #[(.int .i64 x16), (.int .i64 x16v1), (.slice x16v2 x16N x16C)]), (.int .i64 id)] w2 fun v7 w5 =>
 ∃ x18 : Int, ∃ x18v1 : Int, ∃ (x18v2 : Option Addr) (x18N x18C : Nat), ∃ x18v3 : Bool, v7 = (.tuple #[(.agg #[(.int .i64 x18), (.int .i64 x18v1), (.slice x18v2 x18N x18C)]), (.bool x18v3)]) ∧
 (RUNU PG (storeVar 97 a3 (.agg #[(.int .i64 x18), (.int .i64 x18v1), (.slice x18v2 x18N x18C)])) w5 fun w6 =>
 RDL PG (loadVar 95 (Addr.add a3 2)) w6 fun x22 x22N x22C =>
 RDI PG (loadVar 3 (Addr.add a3 1)) .i64 w6 fun x25 =>
 IFB (decide ((x22N : Int) ≥ x25))
 (RD PG (loadVar 97 a3) w6 fun v8 =>
 ∃ x27 : Int, ∃ x27v1 : Int, ∃ (x27v2 : Option Addr) (x27N x27C : Nat), v8 = (.agg #[(.int .i64 x27), (.int .i64 x27v1), (.slice x27v2 x27N x27C)]) ∧
 (RUNU PG (storeVar 97 a6 (.agg #[(.int .i64 x27), (.int .i64 x27v1), (.slice x27v2 x27N x27C)])) w6 fun w7 =>
 RD PG (loadVar 97 a6) w7 fun v10 =>
 ∃ r6 : Int, ∃ r7 : Int, ∃ (r8 : Option Addr) (rN2 rC2 : Nat), v10 = (.agg #[(.int .i64 r6), (.int .i64 r7), (.slice r8 rN2 rC2)]) ∧
 (Q (.tuple #[(.agg #[(.int .i64 r6), (.int .i64 r7), (.slice r8 rN2 rC2)]), (.bool false)]) w7)))
 (∃ S : World → Prop, S (w6.drew) ∧
 (RDSL PG (loadVar 95 (Addr.add a3 2)) S fun x30 x30N x30C =>
 RDSI PG (loadVar 3 (Addr.add a3 0)) .i64 S fun x34 =>
 RDS PG (Instr.build 172 #[(0, (.int .i64 id)), (1, (.int .i64 (IntKind.i64.wrap (x34 + ticks))))]) S fun v11 =>
 ∃ x37 : Int, ∃ x37v1 : Int, v11 = (.agg #[(.int .i64 x37), (.int .i64 x37v1)]) ∧
 ((RUNL PG (Instr.buildSlice 95 0 #[]) (w6.drew) fun x28 x28N x28C w8 =>
 ∃ S1 : World → Prop, (∀ x, S1 x → S x) ∧ S1 w8 ∧
 ((RUNL PG (Builtin.append_ #[95, 95] 95 #[(.slice x28 x28N x28C), (.slice x30 x30N x30C)]) w8 fun x31 x31N x31C w9 =>
 ∃ S2 : World → Prop, (∀ x, S2 x → S1 x) ∧ S2 w9 ∧
 (RUNL PG (Instr.buildSlice 95 1 #[(0, (.agg #[(.int .i64 x37), (.int .i64 x37v1)]))]) w9 fun x38 x38N x38C w10 =>
 ∃ S3 : World → Prop, (∀ x, S3 x → S2 x) ∧ S3 w10 ∧
 (RUNL PG (Builtin.append_ #[95, 95] 95 #[(.slice x31 x31N x31C), (.slice x38 x38N x38C)]) w10 fun x39 x39N x39C w11 =>
 RUNU PG (storeVar 95 (Addr.add a3 2) (.slice x39 x39N x39C)) w11 fun w12 =>
 RD PG (loadVar 97 a3) w12 fun v12 =>
 ∃ x41 : Int, ∃ x41v1 : Int, ∃ (x41v2 : Option Addr) (x41N x41C : Nat), v12 = (.agg #[(.int .i64 x41), (.int .i64 x41v1), (.slice x41v2 x41N x41C)]) ∧
 (RUNU PG (storeVar 97 a6 (.agg #[(.int .i64 x41), (.int .i64 x41v1), (.slice x41v2 x41N x41C)])) w12 fun w13 =>
 RD PG (loadVar 97 a6) w13 fun v14 =>
 ∃ r9 : Int, ∃ r10 : Int, ∃ (r11 : Option Addr) (rN3 rC3 : Nat), v14 = (.agg #[(.int .i64 r9), (.int .i64 r10), (.slice r11 rN3 rC3)]) ∧
 (Q (.tuple #[(.agg #[(.int .i64 r9), (.int .i64 r10), (.slice r11 rN3 rC3)]), (.bool true)]) w13))))) ∧
 (RUNL PG (Instr.buildSlice 95 1 #[(0, (.agg #[(.int .i64 x37), (.int .i64 x37v1)]))]) w8 fun x38v1 x38N1 x38C1 w14 =>
 ∃ S4 : World → Prop, (∀ x, S4 x → S1 x) ∧ S4 w14 ∧
 (RUNL PG (Builtin.append_ #[95, 95] 95 #[(.slice x28 x28N x28C), (.slice x30 x30N x30C)]) w14 fun x31v1 x31N1 x31C1 w15 =>
 ∃ S5 : World → Prop, (∀ x, S5 x → S4 x) ∧ S5 w15 ∧
 (RUNL PG (Builtin.append_ #[95, 95] 95 #[(.slice x31v1 x31N1 x31C1), (.slice x38v1 x38N1 x38C1)]) w15 fun x39v1 x39N1 x39C1 w16 =>
 RUNU PG (storeVar 95 (Addr.add a3 2) (.slice x39v1 x39N1 x39C1)) w16 fun w17 =>
 RD PG (loadVar 97 a3) w17 fun v15 =>
 ∃ x41v3 : Int, ∃ x41v4 : Int, ∃ (x41v5 : Option Addr) (x41N1 x41C1 : Nat), v15 = (.agg #[(.int .i64 x41v3), (.int .i64 x41v4), (.slice x41v5 x41N1 x41C1)]) ∧
 (RUNU PG (storeVar 97 a6 (.agg #[(.int .i64 x41v3), (.int .i64 x41v4), (.slice x41v5 x41N1 x41C1)])) w17 fun w18 =>
 RD PG (loadVar 97 a6) w18 fun v17 =>
 ∃ r12 : Int, ∃ r13 : Int, ∃ (r14 : Option Addr) (rN4 rC4 : Nat), v17 = (.agg #[(.int .i64 r12), (.int .i64 r13), (.slice r14 rN4 rC4)]) ∧
 (Q (.tuple #[(.agg #[(.int .i64 r12), (.int .i64 r13), (.slice r14 rN4 rC4)]), (.bool true)]) w18))))))) ∧
 (RUNL PG (Instr.buildSlice 95 1 #[(0, (.agg #[(.int .i64 x37), (.int .i64 x37v1)]))]) (w6.drew) fun x38v2 x38N2 x38C2 w19 =>
 ∃ S6 : World → Prop, (∀ x, S6 x → S x) ∧ S6 w19 ∧
 (RUNL PG (Instr.buildSlice 95 0 #[]) w19 fun x28v1 x28N1 x28C1 w20 =>
 ∃ S7 : World → Prop, (∀ x, S7 x → S6 x) ∧ S7 w20 ∧
 (RUNL PG (Builtin.append_ #[95, 95] 95 #[(.slice x28v1 x28N1 x28C1), (.slice x30 x30N x30C)]) w20 fun x31v2 x31N2 x31C2 w21 =>
 ∃ S8 : World → Prop, (∀ x, S8 x → S7 x) ∧ S8 w21 ∧
 (RUNL PG (Builtin.append_ #[95, 95] 95 #[(.slice x31v2 x31N2 x31C2), (.slice x38v2 x38N2 x38C2)]) w21 fun x39v2 x39N2 x39C2 w22 =>
 RUNU PG (storeVar 95 (Addr.add a3 2) (.slice x39v2 x39N2 x39C2)) w22 fun w23 =>
 RD PG (loadVar 97 a3) w23 fun v18 =>
 ∃ x41v6 : Int, ∃ x41v7 : Int, ∃ (x41v8 : Option Addr) (x41N2 x41C2 : Nat), v18 = (.agg #[(.int .i64 x41v6), (.int .i64 x41v7), (.slice x41v8 x41N2 x41C2)]) ∧
 (RUNU PG (storeVar 97 a6 (.agg #[(.int .i64 x41v6), (.int .i64 x41v7), (.slice x41v8 x41N2 x41C2)])) w23 fun w24 =>
 RD PG (loadVar 97 a6) w24 fun v20 =>
 ∃ r15 : Int, ∃ r16 : Int, ∃ (r17 : Option Addr) (rN5 rC5 : Nat), v20 = (.agg #[(.int .i64 r15), (.int .i64 r16), (.slice r17 rN5 rC5)]) ∧
 (Q (.tuple #[(.agg #[(.int .i64 r15), (.int .i64 r16), (.slice r17 rN5 rC5)]), (.bool true)]) w24)))))))))))))
theorem eq50 : ∀ (wv : Int) (wv1 : Int) (wv2 : Option Addr) (wN wC : Nat) (id : Int) (ticks : Int) (w : World) (Q : Value → World → Prop), vcF PG TB Try.f50 .nil [(.agg #[(.int .i64 wv), (.int .i64 wv1), (.slice wv2 wN wC)]), (.int .i64 id), (.int .i64 ticks)] w Q = N50 wv wv1 wv2 wN wC id ticks w Q := by intros; kernel_rfl
theorem call50 {wv : Int} {wv1 : Int} {wv2 : Option Addr} {wN wC : Nat} {id : Int} {ticks : Int} {w : World} {Q : Value → World → Prop} (hN : N50 wv wv1 wv2 wN wC id ticks w Q) : CALL PG 50 [(.agg #[(.int .i64 wv), (.int .i64 wv1), (.slice wv2 wN wC)]), (.int .i64 id), (.int .i64 ticks)] w Q := calls_vc tabOk Try.func50 (by rw [eq50]; exact hN)

end Go.Br
