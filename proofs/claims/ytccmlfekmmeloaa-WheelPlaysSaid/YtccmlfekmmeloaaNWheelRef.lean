/- What the code of some functions says, as the core reads it; each reading is checked by the kernel. -/
import Derived.Test.YtccmlfekmmeloaaBrSeat
set_option linter.unusedVariables false
set_option maxRecDepth 100000
namespace Go.Br
open Go Go.Proofs

/-- brougham/broughamref29.New -/
def N45 (most : Int) (w : World) (Q : Value → World → Prop) : Prop :=
 RUNA PG (Instr.alloc 97 true (.tuple #[])) w fun a2 w1 =>
 IFB (decide (most < (0 : Int)))
 (IFB (decide ((0 : Int) > (4096 : Int)))
 (RD PG (Instr.build 97 #[(1, (.int .i64 (4096 : Int)))]) w1 fun v =>
 ∃ x8 : Int, ∃ x8v1 : Int, ∃ (x8v2 : Option Addr) (x8N x8C : Nat), v = (.agg #[(.int .i64 x8), (.int .i64 x8v1), (.slice x8v2 x8N x8C)]) ∧
 (RUNU PG (storeVar 97 a2 (.agg #[(.int .i64 x8), (.int .i64 x8v1), (.slice x8v2 x8N x8C)])) w1 fun w2 =>
 RD PG (loadVar 97 a2) w2 fun v2 =>
 ∃ r : Int, ∃ r1 : Int, ∃ (r2 : Option Addr) (rN rC : Nat), v2 = (.agg #[(.int .i64 r), (.int .i64 r1), (.slice r2 rN rC)]) ∧
 (Q (.agg #[(.int .i64 r), (.int .i64 r1), (.slice r2 rN rC)]) w2)))
 (RD PG (Instr.build 97 #[(1, (.int .i64 (0 : Int)))]) w1 fun v3 =>
 ∃ x8v3 : Int, ∃ x8v4 : Int, ∃ (x8v5 : Option Addr) (x8N1 x8C1 : Nat), v3 = (.agg #[(.int .i64 x8v3), (.int .i64 x8v4), (.slice x8v5 x8N1 x8C1)]) ∧
 (RUNU PG (storeVar 97 a2 (.agg #[(.int .i64 x8v3), (.int .i64 x8v4), (.slice x8v5 x8N1 x8C1)])) w1 fun w3 =>
 RD PG (loadVar 97 a2) w3 fun v5 =>
 ∃ r3 : Int, ∃ r4 : Int, ∃ (r5 : Option Addr) (rN1 rC1 : Nat), v5 = (.agg #[(.int .i64 r3), (.int .i64 r4), (.slice r5 rN1 rC1)]) ∧
 (Q (.agg #[(.int .i64 r3), (.int .i64 r4), (.slice r5 rN1 rC1)]) w3))))
 (IFB (decide (most > (4096 : Int)))
 (RD PG (Instr.build 97 #[(1, (.int .i64 (4096 : Int)))]) w1 fun v6 =>
 ∃ x8v6 : Int, ∃ x8v7 : Int, ∃ (x8v8 : Option Addr) (x8N2 x8C2 : Nat), v6 = (.agg #[(.int .i64 x8v6), (.int .i64 x8v7), (.slice x8v8 x8N2 x8C2)]) ∧
 (RUNU PG (storeVar 97 a2 (.agg #[(.int .i64 x8v6), (.int .i64 x8v7), (.slice x8v8 x8N2 x8C2)])) w1 fun w4 =>
 RD PG (loadVar 97 a2) w4 fun v8 =>
 ∃ r6 : Int, ∃ r7 : Int, ∃ (r8 : Option Addr) (rN2 rC2 : Nat), v8 = (.agg #[(.int .i64 r6), (.int .i64 r7), (.slice r8 rN2 rC2)]) ∧
 (Q (.agg #[(.int .i64 r6), (.int .i64 r7), (.slice r8 rN2 rC2)]) w4)))
 (RD PG (Instr.build 97 #[(1, (.int .i64 most))]) w1 fun v9 =>
 ∃ x8v9 : Int, ∃ x8v10 : Int, ∃ (x8v11 : Option Addr) (x8N3 x8C3 : Nat), v9 = (.agg #[(.int .i64 x8v9), (.int .i64 x8v10), (.slice x8v11 x8N3 x8C3)]) ∧
 (RUNU PG (storeVar 97 a2 (.agg #[(.int .i64 x8v9), (.int .i64 x8v10), (.slice x8v11 x8N3 x8C3)])) w1 fun w5 =>
 RD PG (loadVar 97 a2) w5 fun v11 =>
 ∃ r9 : Int, ∃ r10 : Int, ∃ (r11 : Option Addr) (rN3 rC3 : Nat), v11 = (.agg #[(.int .i64 r9), (.int .i64 r10), (.slice r11 rN3 rC3)]) ∧
 (Q (.agg #[(.int .i64 r9), (.int .i64 r10), (.slice r11 rN3 rC3)]) w5))))
theorem eq45 : ∀ (most : Int) (w : World) (Q : Value → World → Prop), vcF PG TB Try.f45 .nil [(.int .i64 most)] w Q = N45 most w Q := by intros; kernel_rfl
theorem call45 {most : Int} {w : World} {Q : Value → World → Prop} (hN : N45 most w Q) : CALL PG 45 [(.int .i64 most)] w Q := calls_vc tabOk Try.func45 (by rw [eq45]; exact hN)

/-- brougham/broughamref29.Cancel -/
def N46 (wv : Int) (wv1 : Int) (wv2 : Option Addr) (wN wC : Nat) (id : Int) (w : World) (Q : Value → World → Prop) : Prop :=
 RUNA PG (Instr.box 97 (.agg #[(.int .i64 wv), (.int .i64 wv1), (.slice wv2 wN wC)])) w fun a2 w1 =>
 RUNA PG (Instr.alloc 97 true (.tuple #[])) w1 fun a4 w2 =>
 ∃ I : Nat → Option Addr → Nat → Nat → Int → World → Prop,
 (∃ m, I m none 0 0 (0 : Int) w2) ∧
 (∀ m1 (out : Option Addr) (outN outC : Nat) (i : Int) (w3 : World), I m1 out outN outC i w3 → (RDL PG (loadVar 95 (Addr.add a2 2)) w3 fun x11 x11N x11C =>
 IFB (decide (i < (x11N : Int)))
 (RDL PG (loadVar 95 (Addr.add a2 2)) w3 fun x17 x17N x17C =>
 IDX x17 x17N i fun a19 =>
 RDI PG (loadVar 3 (Addr.add (Addr.add a19 (Int.toNat i * 2)) 0)) .i64 w3 fun x21 =>
 IFB (x21 != id)
 (RDL PG (loadVar 95 (Addr.add a2 2)) w3 fun x26 x26N x26C =>
 IDX x26 x26N i fun a28 =>
 RD PG (loadVar 172 (Addr.add a28 (Int.toNat i * 2))) w3 fun v =>
 ∃ x29 : Int, ∃ x29v1 : Int, v = (.agg #[(.int .i64 x29), (.int .i64 x29v1)]) ∧
 (RUNL PG (Instr.buildSlice 95 1 #[(0, (.agg #[(.int .i64 x29), (.int .i64 x29v1)]))]) w3 fun x30 x30N x30C w4 =>
 RUNL PG (Builtin.append_ #[95, 95] 95 #[(.slice out outN outC), (.slice x30 x30N x30C)]) w4 fun x31 x31N x31C w5 =>
 LETI (IntKind.i64.wrap (i + (1 : Int))) fun i1 =>
 ∃ m2, m2 < m1 ∧ I m2 x31 x31N x31C i1 w5))
 (LETI (IntKind.i64.wrap (i + (1 : Int))) fun i2 =>
 ∃ m3, m3 < m1 ∧ I m3 out outN outC i2 w3))
 (RDL PG (loadVar 95 (Addr.add a2 2)) w3 fun x35 x35N x35C =>
 LETB (decide ((outN : Int) < (x35N : Int))) fun isv =>
 RUNU PG (storeVar 95 (Addr.add a2 2) (.slice out outN outC)) w3 fun w6 =>
 RD PG (loadVar 97 a2) w6 fun v1 =>
 ∃ x40 : Int, ∃ x40v1 : Int, ∃ (x40v2 : Option Addr) (x40N x40C : Nat), v1 = (.agg #[(.int .i64 x40), (.int .i64 x40v1), (.slice x40v2 x40N x40C)]) ∧
 (RUNU PG (storeVar 97 a4 (.agg #[(.int .i64 x40), (.int .i64 x40v1), (.slice x40v2 x40N x40C)])) w6 fun w7 =>
 LETB isv fun x5 =>
 RD PG (loadVar 97 a4) w7 fun v3 =>
 ∃ r : Int, ∃ r1 : Int, ∃ (r2 : Option Addr) (rN rC : Nat), v3 = (.agg #[(.int .i64 r), (.int .i64 r1), (.slice r2 rN rC)]) ∧
 (Q (.tuple #[(.agg #[(.int .i64 r), (.int .i64 r1), (.slice r2 rN rC)]), (.bool x5)]) w7)))))
theorem eq46 : ∀ (wv : Int) (wv1 : Int) (wv2 : Option Addr) (wN wC : Nat) (id : Int) (w : World) (Q : Value → World → Prop), vcF PG TB Try.f46 (.s .nil (.s .nil (.s (.s .nil (.u (.loop [(6, 95), (7, 3)] .nil))) .nil))) [(.agg #[(.int .i64 wv), (.int .i64 wv1), (.slice wv2 wN wC)]), (.int .i64 id)] w Q = N46 wv wv1 wv2 wN wC id w Q := by intros; kernel_rfl
theorem call46 {wv : Int} {wv1 : Int} {wv2 : Option Addr} {wN wC : Nat} {id : Int} {w : World} {Q : Value → World → Prop} (hN : N46 wv wv1 wv2 wN wC id w Q) : CALL PG 46 [(.agg #[(.int .i64 wv), (.int .i64 wv1), (.slice wv2 wN wC)]), (.int .i64 id)] w Q := calls_vc tabOk Try.func46 (by rw [eq46]; exact hN)

/-- brougham/broughamlaw29.row -/
def N49 (a : Option Addr) (aN aC : Nat) (b : Option Addr) (bN bC : Nat) (w : World) (Q : Value → World → Prop) : Prop :=
 IFB ((aN : Int) != (bN : Int))
 (Q (.bool false) w)
 (∃ I : Nat → Int → World → Prop,
 (∃ m, I m (0 : Int) w) ∧
 (∀ m1 (i : Int) (w1 : World), I m1 i w1 → (IFB (decide (i < (aN : Int)))
 (IDX a aN i fun a19 =>
 RDI PG (loadVar 3 (Addr.add a19 (Int.toNat i * 1))) .i64 (w1.drew) fun x20 =>
 IDX b bN i fun a23 =>
 RDI PG (loadVar 3 (Addr.add a23 (Int.toNat i * 1))) .i64 (w1.drew) fun x24 =>
 IFB (x20 != x24)
 (Q (.bool false) (w1.drew))
 (LETI (IntKind.i64.wrap (i + (1 : Int))) fun i1 =>
 ∃ m2, m2 < m1 ∧ I m2 i1 (w1.drew)))
 (Q (.bool true) w1))))
theorem eq49 : ∀ (a : Option Addr) (aN aC : Nat) (b : Option Addr) (bN bC : Nat) (w : World) (Q : Value → World → Prop), vcF PG TB Try.f49 (.s .nil (.s .nil (.s (.s .nil (.u (.loop [(5, 3)] .nil))) .nil))) [(.slice a aN aC), (.slice b bN bC)] w Q = N49 a aN aC b bN bC w Q := by intros; kernel_rfl
theorem call49 {a : Option Addr} {aN aC : Nat} {b : Option Addr} {bN bC : Nat} {w : World} {Q : Value → World → Prop} (hN : N49 a aN aC b bN bC w Q) : CALL PG 49 [(.slice a aN aC), (.slice b bN bC)] w Q := calls_vc tabOk Try.func49 (by rw [eq49]; exact hN)

/-- brougham/broughamref29.Due -/
def N52 (wv : Int) (wv1 : Int) (wv2 : Option Addr) (wN wC : Nat) (id : Int) (w : World) (Q : Value → World → Prop) : Prop :=
 RUNA PG (Instr.box 97 (.agg #[(.int .i64 wv), (.int .i64 wv1), (.slice wv2 wN wC)])) w fun a2 w1 =>
 ∃ I : Nat → Int → World → Prop,
 (∃ m, I m (0 : Int) w1) ∧
 (∀ m1 (i : Int) (w2 : World), I m1 i w2 → (RDL PG (loadVar 95 (Addr.add a2 2)) w2 fun x9 x9N x9C =>
 IFB (decide (i < (x9N : Int)))
 (RDL PG (loadVar 95 (Addr.add a2 2)) w2 fun x15 x15N x15C =>
 IDX x15 x15N i fun a17 =>
 RDI PG (loadVar 3 (Addr.add (Addr.add a17 (Int.toNat i * 2)) 0)) .i64 w2 fun x19 =>
 IFB (x19 == id)
 (RDL PG (loadVar 95 (Addr.add a2 2)) (w2.drew) fun x23 x23N x23C =>
 IDX x23 x23N i fun a25 =>
 RDI PG (loadVar 3 (Addr.add (Addr.add a25 (Int.toNat i * 2)) 1)) .i64 (w2.drew) fun x27 =>
 RDI PG (loadVar 3 (Addr.add a2 0)) .i64 (w2.drew) fun x29 =>
 LETI (IntKind.i64.wrap (x27 - x29)) fun x4 =>
 Q (.tuple #[(.int .i64 x4), (.bool true)]) (w2.drew))
 (LETI (IntKind.i64.wrap (i + (1 : Int))) fun i1 =>
 ∃ m2, m2 < m1 ∧ I m2 i1 w2))
 (Q (.tuple #[(.int .i64 (0 : Int)), (.bool false)]) w2)))
theorem eq52 : ∀ (wv : Int) (wv1 : Int) (wv2 : Option Addr) (wN wC : Nat) (id : Int) (w : World) (Q : Value → World → Prop), vcF PG TB Try.f52 (.s .nil (.s (.s .nil (.u (.loop [(6, 3)] .nil))) .nil)) [(.agg #[(.int .i64 wv), (.int .i64 wv1), (.slice wv2 wN wC)]), (.int .i64 id)] w Q = N52 wv wv1 wv2 wN wC id w Q := by intros; kernel_rfl
theorem call52 {wv : Int} {wv1 : Int} {wv2 : Option Addr} {wN wC : Nat} {id : Int} {w : World} {Q : Value → World → Prop} (hN : N52 wv wv1 wv2 wN wC id w Q) : CALL PG 52 [(.agg #[(.int .i64 wv), (.int .i64 wv1), (.slice wv2 wN wC)]), (.int .i64 id)] w Q := calls_vc tabOk Try.func52 (by rw [eq52]; exact hN)

/-- brougham/broughamref29.Next -/
def N53 (wv : Int) (wv1 : Int) (wv2 : Option Addr) (wN wC : Nat) (w : World) (Q : Value → World → Prop) : Prop :=
 RUNA PG (Instr.box 97 (.agg #[(.int .i64 wv), (.int .i64 wv1), (.slice wv2 wN wC)])) w fun a1 w1 =>
 ∃ I : Nat → Int → Int → World → Prop,
 (∃ m, I m (0 : Int) (0 : Int) w1) ∧
 (∀ m1 (best : Int) (i : Int) (w2 : World), I m1 best i w2 → (RDL PG (loadVar 95 (Addr.add a1 2)) w2 fun x9 x9N x9C =>
 IFB (decide (i < (x9N : Int)))
 (RDL PG (loadVar 95 (Addr.add a1 2)) (w2.drew) fun x15 x15N x15C =>
 IDX x15 x15N i fun a17 =>
 RDI PG (loadVar 3 (Addr.add (Addr.add a17 (Int.toNat i * 2)) 1)) .i64 (w2.drew) fun x19 =>
 RDI PG (loadVar 3 (Addr.add a1 0)) .i64 (w2.drew) fun x21 =>
 LETI (IntKind.i64.wrap (x19 - x21)) fun n =>
 IFB (i == (0 : Int))
 (LETI n fun best1 =>
 LETI (IntKind.i64.wrap (i + (1 : Int))) fun i1 =>
 ∃ m2, m2 < m1 ∧ I m2 best1 i1 (w2.drew))
 (IFB (decide (n < best))
 (LETI n fun best2 =>
 LETI (IntKind.i64.wrap (i + (1 : Int))) fun i2 =>
 ∃ m3, m3 < m1 ∧ I m3 best2 i2 (w2.drew))
 (LETI (IntKind.i64.wrap (i + (1 : Int))) fun i3 =>
 ∃ m4, m4 < m1 ∧ I m4 best i3 (w2.drew))))
 (RDL PG (loadVar 95 (Addr.add a1 2)) (w2.drew) fun x33 x33N x33C =>
 LETI best fun x2 =>
 LETB (decide ((x33N : Int) > (0 : Int))) fun x3 =>
 Q (.tuple #[(.int .i64 x2), (.bool x3)]) (w2.drew))))
theorem eq53 : ∀ (wv : Int) (wv1 : Int) (wv2 : Option Addr) (wN wC : Nat) (w : World) (Q : Value → World → Prop), vcF PG TB Try.f53 (.s .nil (.s .nil (.s (.s .nil (.u (.loop [(4, 3), (5, 3)] .nil))) .nil))) [(.agg #[(.int .i64 wv), (.int .i64 wv1), (.slice wv2 wN wC)])] w Q = N53 wv wv1 wv2 wN wC w Q := by intros; kernel_rfl
theorem call53 {wv : Int} {wv1 : Int} {wv2 : Option Addr} {wN wC : Nat} {w : World} {Q : Value → World → Prop} (hN : N53 wv wv1 wv2 wN wC w Q) : CALL PG 53 [(.agg #[(.int .i64 wv), (.int .i64 wv1), (.slice wv2 wN wC)])] w Q := calls_vc tabOk Try.func53 (by rw [eq53]; exact hN)

end Go.Br
