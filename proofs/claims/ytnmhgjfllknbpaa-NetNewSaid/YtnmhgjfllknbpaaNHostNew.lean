/- What the code of some functions says, as the core reads it; each reading is checked by the kernel. -/
import Derived.Test.YtnmhgjfllknbpaaBrSeat
set_option linter.unusedVariables false
set_option maxRecDepth 100000
namespace Go.Br
open Go Go.Proofs

/-- brougham/broughamref22.Right -/
def N5 (c : Int) (c1 : Int) (c2 : Int) (c3 : Int) (c4 : Int) (c5 : Int) (c6 : Int) (c7 : Int) (c8 : Int) (c9 : Int) (c10 : Int) (c11 : Int) (c12 : Int) (c13 : Int) (c14 : Int) (w : World) (Q : Value → World → Prop) : Prop :=
 RUNA PG (Instr.box 24 (.agg #[(.int .i64 c), (.int .i64 c1), (.int .i64 c2), (.int .i64 c3), (.int .i64 c4), (.int .i64 c5), (.int .i64 c6), (.int .i64 c7), (.int .i64 c8), (.int .i64 c9), (.int .i64 c10), (.int .i64 c11), (.int .i64 c12), (.int .i64 c13), (.int .i64 c14)])) w fun a1 w1 =>
 ∃ R : Bool → World → Prop,
 (RDI PG (loadVar 3 (Addr.add a1 0)) .i64 w1 fun x7 =>
 CALL PG 11 [(.int .i64 x7), (.int .i64 (0 : Int)), (.int .i64 (8 : Int))] w1 fun v w2 =>
 ∃ x8 : Bool, v = (.bool x8) ∧
 (IFB x8
 (RDI PG (loadVar 3 (Addr.add a1 1)) .i64 w2 fun x11 =>
 CALL PG 11 [(.int .i64 x11), (.int .i64 (0 : Int)), (.int .i64 (8 : Int))] w2 fun v1 w3 =>
 ∃ x12 : Bool, v1 = (.bool x12) ∧
 (IFB x12
 (RDI PG (loadVar 3 (Addr.add a1 2)) .i64 w3 fun x16 =>
 CALL PG 11 [(.int .i64 x16), (.int .i64 (0 : Int)), (.int .i64 (8 : Int))] w3 fun v2 w4 =>
 ∃ x17 : Bool, v2 = (.bool x17) ∧
 (IFB x17
 (RDI PG (loadVar 3 (Addr.add a1 3)) .i64 w4 fun x21 =>
 CALL PG 11 [(.int .i64 x21), (.int .i64 (1 : Int)), (.int .i64 (4 : Int))] w4 fun v3 w5 =>
 ∃ x22 : Bool, v3 = (.bool x22) ∧
 (IFB x22
 (RDI PG (loadVar 3 (Addr.add a1 6)) .i64 w5 fun x26 =>
 CALL PG 11 [(.int .i64 x26), (.int .i64 (0 : Int)), (.int .i64 (8 : Int))] w5 fun v4 w6 =>
 ∃ x27 : Bool, v4 = (.bool x27) ∧
 (IFB x27
 (RDI PG (loadVar 3 (Addr.add a1 7)) .i64 w6 fun x31 =>
 CALL PG 11 [(.int .i64 x31), (.int .i64 (1 : Int)), (.int .i64 (4 : Int))] w6 fun v5 w7 =>
 ∃ x32 : Bool, v5 = (.bool x32) ∧
 (LETB x32 fun many =>
 R many w7))
 (LETB false fun many1 =>
 R many1 w6)))
 (LETB false fun many2 =>
 R many2 w5)))
 (LETB false fun many3 =>
 R many3 w4)))
 (LETB false fun many4 =>
 R many4 w3)))
 (LETB false fun many5 =>
 R many5 w2))) ∧
 (∀ (many6 : Bool) (w8 : World), R many6 w8 → (∃ R1 : Bool → World → Prop,
 (RDI PG (loadVar 3 (Addr.add a1 4)) .i64 w8 fun x35 =>
 CALL PG 11 [(.int .i64 x35), (.int .i64 (1 : Int)), (.int .i64 (4096 : Int))] w8 fun v6 w9 =>
 ∃ x36 : Bool, v6 = (.bool x36) ∧
 (IFB x36
 (RDI PG (loadVar 3 (Addr.add a1 5)) .i64 w9 fun x39 =>
 CALL PG 11 [(.int .i64 x39), (.int .i64 (1 : Int)), (.int .i64 (64 : Int))] w9 fun v7 w10 =>
 ∃ x40 : Bool, v7 = (.bool x40) ∧
 (IFB x40
 (RDI PG (loadVar 3 (Addr.add a1 8)) .i64 w10 fun x44 =>
 CALL PG 11 [(.int .i64 x44), (.int .i64 (1 : Int)), (.int .i64 (1024 : Int))] w10 fun v8 w11 =>
 ∃ x45 : Bool, v8 = (.bool x45) ∧
 (LETB x45 fun sizev =>
 R1 sizev w11))
 (LETB false fun sizev1 =>
 R1 sizev1 w10)))
 (LETB false fun sizev2 =>
 R1 sizev2 w9))) ∧
 (∀ (sizev3 : Bool) (w12 : World), R1 sizev3 w12 → (∃ R2 : Bool → World → Prop,
 (RDI PG (loadVar 3 (Addr.add a1 9)) .i64 w12 fun x48 =>
 CALL PG 11 [(.int .i64 x48), (.int .i64 (2 : Int)), (.int .i64 (4096 : Int))] w12 fun v9 w13 =>
 ∃ x49 : Bool, v9 = (.bool x49) ∧
 (IFB x49
 (RDI PG (loadVar 3 (Addr.add a1 10)) .i64 w13 fun x52 =>
 CALL PG 11 [(.int .i64 x52), (.int .i64 (1 : Int)), (.int .i64 (4096 : Int))] w13 fun v10 w14 =>
 ∃ x53 : Bool, v10 = (.bool x53) ∧
 (IFB x53
 (RDI PG (loadVar 3 (Addr.add a1 10)) .i64 w14 fun x57 =>
 RDI PG (loadVar 3 (Addr.add a1 9)) .i64 w14 fun x59 =>
 LETB (decide (x57 < x59)) fun time =>
 R2 time w14)
 (LETB false fun time1 =>
 R2 time1 w14)))
 (LETB false fun time2 =>
 R2 time2 w13))) ∧
 (∀ (time3 : Bool) (w15 : World), R2 time3 w15 → (IFB many6
 (IFB sizev3
 (IFB time3
 (RDI PG (loadVar 3 (Addr.add a1 11)) .i64 w15 fun x71 =>
 CALL PG 11 [(.int .i64 x71), (.int .i64 (0 : Int)), (.int .i64 (4096 : Int))] w15 fun v11 w16 =>
 ∃ x72 : Bool, v11 = (.bool x72) ∧
 (IFB x72
 (RDI PG (loadVar 3 (Addr.add a1 12)) .i64 w16 fun x76 =>
 CALL PG 11 [(.int .i64 x76), (.int .i64 (0 : Int)), (.int .i64 (4096 : Int))] w16 fun v12 w17 =>
 ∃ x77 : Bool, v12 = (.bool x77) ∧
 (IFB x77
 (RDI PG (loadVar 3 (Addr.add a1 13)) .i64 w17 fun x81 =>
 CALL PG 11 [(.int .i64 x81), (.int .i64 (1 : Int)), (.int .i64 (4096 : Int))] w17 fun v13 w18 =>
 ∃ x82 : Bool, v13 = (.bool x82) ∧
 (IFB x82
 (RDI PG (loadVar 22 (Addr.add a1 14)) .i64 w18 fun x86 =>
 CALL PG 11 [(.int .i64 x86), (.int .i64 (1 : Int)), (.int .i64 (3 : Int))] w18 fun v14 w19 =>
 ∃ x87 : Bool, v14 = (.bool x87) ∧
 (LETB x87 fun x2 =>
 Q (.bool x2) w19))
 (LETB false fun x2v1 =>
 Q (.bool x2v1) w18)))
 (LETB false fun x2v2 =>
 Q (.bool x2v2) w17)))
 (LETB false fun x2v3 =>
 Q (.bool x2v3) w16)))
 (LETB false fun x2v4 =>
 Q (.bool x2v4) w15))
 (LETB false fun x2v5 =>
 Q (.bool x2v5) w15))
 (LETB false fun x2v6 =>
 Q (.bool x2v6) w15)))))))
theorem eq5 : ∀ (c : Int) (c1 : Int) (c2 : Int) (c3 : Int) (c4 : Int) (c5 : Int) (c6 : Int) (c7 : Int) (c8 : Int) (c9 : Int) (c10 : Int) (c11 : Int) (c12 : Int) (c13 : Int) (c14 : Int) (w : World) (Q : Value → World → Prop), vcF PG TB Try.f5 (.s .nil (.cut [(3, 4)] .nil (.cut [(4, 4)] .nil (.cut [(5, 4)] .nil .nil)))) [(.agg #[(.int .i64 c), (.int .i64 c1), (.int .i64 c2), (.int .i64 c3), (.int .i64 c4), (.int .i64 c5), (.int .i64 c6), (.int .i64 c7), (.int .i64 c8), (.int .i64 c9), (.int .i64 c10), (.int .i64 c11), (.int .i64 c12), (.int .i64 c13), (.int .i64 c14)])] w Q = N5 c c1 c2 c3 c4 c5 c6 c7 c8 c9 c10 c11 c12 c13 c14 w Q := by intros; kernel_rfl
theorem call5 {c : Int} {c1 : Int} {c2 : Int} {c3 : Int} {c4 : Int} {c5 : Int} {c6 : Int} {c7 : Int} {c8 : Int} {c9 : Int} {c10 : Int} {c11 : Int} {c12 : Int} {c13 : Int} {c14 : Int} {w : World} {Q : Value → World → Prop} (hN : N5 c c1 c2 c3 c4 c5 c6 c7 c8 c9 c10 c11 c12 c13 c14 w Q) : CALL PG 5 [(.agg #[(.int .i64 c), (.int .i64 c1), (.int .i64 c2), (.int .i64 c3), (.int .i64 c4), (.int .i64 c5), (.int .i64 c6), (.int .i64 c7), (.int .i64 c8), (.int .i64 c9), (.int .i64 c10), (.int .i64 c11), (.int .i64 c12), (.int .i64 c13), (.int .i64 c14)])] w Q := calls_vc tabOk Try.func5 (by rw [eq5]; exact hN)

/-- brougham/host.New -/
def N10 (c : Int) (c1 : Int) (c2 : Int) (c3 : Int) (c4 : Int) (c5 : Int) (c6 : Int) (c7 : Int) (c8 : Int) (c9 : Int) (c10 : Int) (c11 : Int) (c12 : Int) (c13 : Int) (c14 : Int) (seed : Int) (seed1 : Int) (w : World) (Q : Value → World → Prop) : Prop :=
 RUNA PG (Instr.box 24 (.agg #[(.int .i64 c), (.int .i64 c1), (.int .i64 c2), (.int .i64 c3), (.int .i64 c4), (.int .i64 c5), (.int .i64 c6), (.int .i64 c7), (.int .i64 c8), (.int .i64 c9), (.int .i64 c10), (.int .i64 c11), (.int .i64 c12), (.int .i64 c13), (.int .i64 c14)])) w fun a2 w1 =>
 RUNA PG (Instr.box 27 (.agg #[(.int .u64 seed), (.int .u64 seed1)])) w1 fun a3 w2 =>
 RD PG (loadVar 24 a2) w2 fun v =>
 ∃ x7 : Int, ∃ x7v1 : Int, ∃ x7v2 : Int, ∃ x7v3 : Int, ∃ x7v4 : Int, ∃ x7v5 : Int, ∃ x7v6 : Int, ∃ x7v7 : Int, ∃ x7v8 : Int, ∃ x7v9 : Int, ∃ x7v10 : Int, ∃ x7v11 : Int, ∃ x7v12 : Int, ∃ x7v13 : Int, ∃ x7v14 : Int, v = (.agg #[(.int .i64 x7), (.int .i64 x7v1), (.int .i64 x7v2), (.int .i64 x7v3), (.int .i64 x7v4), (.int .i64 x7v5), (.int .i64 x7v6), (.int .i64 x7v7), (.int .i64 x7v8), (.int .i64 x7v9), (.int .i64 x7v10), (.int .i64 x7v11), (.int .i64 x7v12), (.int .i64 x7v13), (.int .i64 x7v14)]) ∧
 (CALL PG 19 [(.agg #[(.int .i64 x7), (.int .i64 x7v1), (.int .i64 x7v2), (.int .i64 x7v3), (.int .i64 x7v4), (.int .i64 x7v5), (.int .i64 x7v6), (.int .i64 x7v7), (.int .i64 x7v8), (.int .i64 x7v9), (.int .i64 x7v10), (.int .i64 x7v11), (.int .i64 x7v12), (.int .i64 x7v13), (.int .i64 x7v14)])] w2 fun v1 w3 =>
 ∃ x8 : Int, v1 = (.int .i64 x8) ∧
 (LETI x8 fun e =>
 IFB (e != (0 : Int))
 (LETI e fun x5 =>
 Q (.tuple #[(.pointer none), (.int .i64 x5)]) w3)
 (RD PG (loadVar 24 a2) w3 fun v2 =>
 ∃ x12 : Int, ∃ x12v1 : Int, ∃ x12v2 : Int, ∃ x12v3 : Int, ∃ x12v4 : Int, ∃ x12v5 : Int, ∃ x12v6 : Int, ∃ x12v7 : Int, ∃ x12v8 : Int, ∃ x12v9 : Int, ∃ x12v10 : Int, ∃ x12v11 : Int, ∃ x12v12 : Int, ∃ x12v13 : Int, ∃ x12v14 : Int, v2 = (.agg #[(.int .i64 x12), (.int .i64 x12v1), (.int .i64 x12v2), (.int .i64 x12v3), (.int .i64 x12v4), (.int .i64 x12v5), (.int .i64 x12v6), (.int .i64 x12v7), (.int .i64 x12v8), (.int .i64 x12v9), (.int .i64 x12v10), (.int .i64 x12v11), (.int .i64 x12v12), (.int .i64 x12v13), (.int .i64 x12v14)]) ∧
 (RD PG (loadVar 27 a3) w3 fun v3 =>
 ∃ x13 : Int, ∃ x13v1 : Int, v3 = (.agg #[(.int .u64 x13), (.int .u64 x13v1)]) ∧
 (RD PG (Instr.build 55 #[(0, (.agg #[(.int .u64 x13), (.int .u64 x13v1)]))]) w3 fun v4 =>
 ∃ x14 : Int, ∃ x14v1 : Int, ∃ x14v2 : Int, v4 = (.agg #[(.int .u64 x14), (.int .u64 x14v1), (.int .u64 x14v2)]) ∧
 (RUN PG (Instr.makeMap 56 none) w3 fun v5 w4 =>
 ∃ x15 : Value, v5 = x15 ∧
 (RD PG (Instr.build 62 #[(1, (.agg #[(.int .i64 x12), (.int .i64 x12v1), (.int .i64 x12v2), (.int .i64 x12v3), (.int .i64 x12v4), (.int .i64 x12v5), (.int .i64 x12v6), (.int .i64 x12v7), (.int .i64 x12v8), (.int .i64 x12v9), (.int .i64 x12v10), (.int .i64 x12v11), (.int .i64 x12v12), (.int .i64 x12v13), (.int .i64 x12v14)])), (2, (.agg #[(.int .u64 x14), (.int .u64 x14v1), (.int .u64 x14v2)])), (4, x15), (5, (.int .i64 (1 : Int)))]) w4 fun v6 =>
 ∃ x16 : Value, v6 = x16 ∧
 (RUNA PG (Instr.box 62 x16) w4 fun a17 w5 =>
 Q (.tuple #[(.pointer (some a17)), (.int .i64 (0 : Int))]) w5))))))))
theorem eq10 : ∀ (c : Int) (c1 : Int) (c2 : Int) (c3 : Int) (c4 : Int) (c5 : Int) (c6 : Int) (c7 : Int) (c8 : Int) (c9 : Int) (c10 : Int) (c11 : Int) (c12 : Int) (c13 : Int) (c14 : Int) (seed : Int) (seed1 : Int) (w : World) (Q : Value → World → Prop), vcF PG TB Try.f10 .nil [(.agg #[(.int .i64 c), (.int .i64 c1), (.int .i64 c2), (.int .i64 c3), (.int .i64 c4), (.int .i64 c5), (.int .i64 c6), (.int .i64 c7), (.int .i64 c8), (.int .i64 c9), (.int .i64 c10), (.int .i64 c11), (.int .i64 c12), (.int .i64 c13), (.int .i64 c14)]), (.agg #[(.int .u64 seed), (.int .u64 seed1)])] w Q = N10 c c1 c2 c3 c4 c5 c6 c7 c8 c9 c10 c11 c12 c13 c14 seed seed1 w Q := by intros; kernel_rfl
theorem call10 {c : Int} {c1 : Int} {c2 : Int} {c3 : Int} {c4 : Int} {c5 : Int} {c6 : Int} {c7 : Int} {c8 : Int} {c9 : Int} {c10 : Int} {c11 : Int} {c12 : Int} {c13 : Int} {c14 : Int} {seed : Int} {seed1 : Int} {w : World} {Q : Value → World → Prop} (hN : N10 c c1 c2 c3 c4 c5 c6 c7 c8 c9 c10 c11 c12 c13 c14 seed seed1 w Q) : CALL PG 10 [(.agg #[(.int .i64 c), (.int .i64 c1), (.int .i64 c2), (.int .i64 c3), (.int .i64 c4), (.int .i64 c5), (.int .i64 c6), (.int .i64 c7), (.int .i64 c8), (.int .i64 c9), (.int .i64 c10), (.int .i64 c11), (.int .i64 c12), (.int .i64 c13), (.int .i64 c14)]), (.agg #[(.int .u64 seed), (.int .u64 seed1)])] w Q := calls_vc tabOk Try.func10 (by rw [eq10]; exact hN)

/-- brougham/broughamref22.within -/
def N11 (n : Int) (lo : Int) (hi : Int) (w : World) (Q : Value → World → Prop) : Prop :=
 IFB (decide (n ≥ lo))
 (LETB (decide (n ≤ hi)) fun x6 =>
 Q (.bool x6) w)
 (LETB false fun x6v1 =>
 Q (.bool x6v1) w)
theorem eq11 : ∀ (n : Int) (lo : Int) (hi : Int) (w : World) (Q : Value → World → Prop), vcF PG TB Try.f11 .nil [(.int .i64 n), (.int .i64 lo), (.int .i64 hi)] w Q = N11 n lo hi w Q := by intros; kernel_rfl
theorem call11 {n : Int} {lo : Int} {hi : Int} {w : World} {Q : Value → World → Prop} (hN : N11 n lo hi w Q) : CALL PG 11 [(.int .i64 n), (.int .i64 lo), (.int .i64 hi)] w Q := calls_vc tabOk Try.func11 (by rw [eq11]; exact hN)

/-- brougham/host.Right -/
def N19 (c : Int) (c1 : Int) (c2 : Int) (c3 : Int) (c4 : Int) (c5 : Int) (c6 : Int) (c7 : Int) (c8 : Int) (c9 : Int) (c10 : Int) (c11 : Int) (c12 : Int) (c13 : Int) (c14 : Int) (w : World) (Q : Value → World → Prop) : Prop :=
 RUNA PG (Instr.box 24 (.agg #[(.int .i64 c), (.int .i64 c1), (.int .i64 c2), (.int .i64 c3), (.int .i64 c4), (.int .i64 c5), (.int .i64 c6), (.int .i64 c7), (.int .i64 c8), (.int .i64 c9), (.int .i64 c10), (.int .i64 c11), (.int .i64 c12), (.int .i64 c13), (.int .i64 c14)])) w fun a1 w1 =>
 ∃ R : Bool → World → Prop,
 (RDI PG (loadVar 3 (Addr.add a1 0)) .i64 w1 fun x10 =>
 CALLV PG (.func (.func 29) #[] #[]) [(.int .i64 x10), (.int .i64 (0 : Int)), (.int .i64 (8 : Int))] w1 fun v w2 =>
 ∃ x11 : Bool, v = (.bool x11) ∧
 (IFB x11
 (RDI PG (loadVar 3 (Addr.add a1 1)) .i64 w2 fun x15 =>
 CALLV PG (.func (.func 29) #[] #[]) [(.int .i64 x15), (.int .i64 (0 : Int)), (.int .i64 (8 : Int))] w2 fun v1 w3 =>
 ∃ x16 : Bool, v1 = (.bool x16) ∧
 (IFB x16
 (RDI PG (loadVar 3 (Addr.add a1 2)) .i64 w3 fun x21 =>
 CALLV PG (.func (.func 29) #[] #[]) [(.int .i64 x21), (.int .i64 (0 : Int)), (.int .i64 (8 : Int))] w3 fun v2 w4 =>
 ∃ x22 : Bool, v2 = (.bool x22) ∧
 (IFB x22
 (RDI PG (loadVar 3 (Addr.add a1 3)) .i64 w4 fun x27 =>
 CALLV PG (.func (.func 29) #[] #[]) [(.int .i64 x27), (.int .i64 (1 : Int)), (.int .i64 (4 : Int))] w4 fun v3 w5 =>
 ∃ x28 : Bool, v3 = (.bool x28) ∧
 (LETB x28 fun many =>
 R many w5))
 (LETB false fun many1 =>
 R many1 w4)))
 (LETB false fun many2 =>
 R many2 w3)))
 (LETB false fun many3 =>
 R many3 w2))) ∧
 (∀ (many4 : Bool) (w6 : World), R many4 w6 → (∃ R1 : Bool → World → Prop,
 (RDI PG (loadVar 3 (Addr.add a1 4)) .i64 w6 fun x32 =>
 CALLV PG (.func (.func 29) #[] #[]) [(.int .i64 x32), (.int .i64 (1 : Int)), (.int .i64 (4096 : Int))] w6 fun v4 w7 =>
 ∃ x33 : Bool, v4 = (.bool x33) ∧
 (IFB x33
 (RDI PG (loadVar 3 (Addr.add a1 5)) .i64 w7 fun x37 =>
 CALLV PG (.func (.func 29) #[] #[]) [(.int .i64 x37), (.int .i64 (1 : Int)), (.int .i64 (64 : Int))] w7 fun v5 w8 =>
 ∃ x38 : Bool, v5 = (.bool x38) ∧
 (IFB x38
 (RDI PG (loadVar 3 (Addr.add a1 6)) .i64 w8 fun x43 =>
 CALLV PG (.func (.func 29) #[] #[]) [(.int .i64 x43), (.int .i64 (0 : Int)), (.int .i64 (8 : Int))] w8 fun v6 w9 =>
 ∃ x44 : Bool, v6 = (.bool x44) ∧
 (IFB x44
 (RDI PG (loadVar 3 (Addr.add a1 7)) .i64 w9 fun x49 =>
 CALLV PG (.func (.func 29) #[] #[]) [(.int .i64 x49), (.int .i64 (1 : Int)), (.int .i64 (4 : Int))] w9 fun v7 w10 =>
 ∃ x50 : Bool, v7 = (.bool x50) ∧
 (IFB x50
 (RDI PG (loadVar 3 (Addr.add a1 8)) .i64 w10 fun x55 =>
 CALLV PG (.func (.func 29) #[] #[]) [(.int .i64 x55), (.int .i64 (1 : Int)), (.int .i64 (1024 : Int))] w10 fun v8 w11 =>
 ∃ x56 : Bool, v8 = (.bool x56) ∧
 (LETB x56 fun sizev =>
 R1 sizev w11))
 (LETB false fun sizev1 =>
 R1 sizev1 w10)))
 (LETB false fun sizev2 =>
 R1 sizev2 w9)))
 (LETB false fun sizev3 =>
 R1 sizev3 w8)))
 (LETB false fun sizev4 =>
 R1 sizev4 w7))) ∧
 (∀ (sizev5 : Bool) (w12 : World), R1 sizev5 w12 → (∃ R2 : Bool → World → Prop,
 (RDI PG (loadVar 3 (Addr.add a1 10)) .i64 w12 fun x60 =>
 CALLV PG (.func (.func 29) #[] #[]) [(.int .i64 x60), (.int .i64 (1 : Int)), (.int .i64 (4096 : Int))] w12 fun v9 w13 =>
 ∃ x61 : Bool, v9 = (.bool x61) ∧
 (IFB x61
 (RDI PG (loadVar 3 (Addr.add a1 9)) .i64 w13 fun x65 =>
 CALLV PG (.func (.func 29) #[] #[]) [(.int .i64 x65), (.int .i64 (2 : Int)), (.int .i64 (4096 : Int))] w13 fun v10 w14 =>
 ∃ x66 : Bool, v10 = (.bool x66) ∧
 (IFB x66
 (RDI PG (loadVar 3 (Addr.add a1 10)) .i64 w14 fun x70 =>
 RDI PG (loadVar 3 (Addr.add a1 9)) .i64 w14 fun x72 =>
 LETB (decide (x70 < x72)) fun time =>
 R2 time w14)
 (LETB false fun time1 =>
 R2 time1 w14)))
 (LETB false fun time2 =>
 R2 time2 w13))) ∧
 (∀ (time3 : Bool) (w15 : World), R2 time3 w15 → (RDI PG (loadVar 3 (Addr.add a1 11)) .i64 w15 fun x77 =>
 CALLV PG (.func (.func 29) #[] #[]) [(.int .i64 x77), (.int .i64 (0 : Int)), (.int .i64 (4096 : Int))] w15 fun v11 w16 =>
 ∃ x78 : Bool, v11 = (.bool x78) ∧
 (IFB x78
 (RDI PG (loadVar 3 (Addr.add a1 12)) .i64 w16 fun x82 =>
 CALLV PG (.func (.func 29) #[] #[]) [(.int .i64 x82), (.int .i64 (0 : Int)), (.int .i64 (4096 : Int))] w16 fun v12 w17 =>
 ∃ x83 : Bool, v12 = (.bool x83) ∧
 (IFB x83
 (RDI PG (loadVar 3 (Addr.add a1 13)) .i64 w17 fun x88 =>
 CALLV PG (.func (.func 29) #[] #[]) [(.int .i64 x88), (.int .i64 (1 : Int)), (.int .i64 (4096 : Int))] w17 fun v13 w18 =>
 ∃ x89 : Bool, v13 = (.bool x89) ∧
 (IFB x89
 (RDI PG (loadVar 22 (Addr.add a1 14)) .i64 w18 fun x93 =>
 IFB (decide (x93 ≥ (1 : Int)))
 (RDI PG (loadVar 22 (Addr.add a1 14)) .i64 w18 fun x98 =>
 LETB (decide (x98 ≤ (3 : Int))) fun rest =>
 IFB many4
 (IFB sizev5
 (IFB time3
 (IFB rest
 (Q (.int .i64 (0 : Int)) w18)
 (Q (.int .i64 (200 : Int)) w18))
 (Q (.int .i64 (200 : Int)) w18))
 (Q (.int .i64 (200 : Int)) w18))
 (Q (.int .i64 (200 : Int)) w18))
 (LETB false fun rest1 =>
 IFB many4
 (IFB sizev5
 (IFB time3
 (IFB rest1
 (Q (.int .i64 (0 : Int)) w18)
 (Q (.int .i64 (200 : Int)) w18))
 (Q (.int .i64 (200 : Int)) w18))
 (Q (.int .i64 (200 : Int)) w18))
 (Q (.int .i64 (200 : Int)) w18)))
 (LETB false fun rest2 =>
 IFB many4
 (IFB sizev5
 (IFB time3
 (IFB rest2
 (Q (.int .i64 (0 : Int)) w18)
 (Q (.int .i64 (200 : Int)) w18))
 (Q (.int .i64 (200 : Int)) w18))
 (Q (.int .i64 (200 : Int)) w18))
 (Q (.int .i64 (200 : Int)) w18))))
 (LETB false fun rest3 =>
 IFB many4
 (IFB sizev5
 (IFB time3
 (IFB rest3
 (Q (.int .i64 (0 : Int)) w17)
 (Q (.int .i64 (200 : Int)) w17))
 (Q (.int .i64 (200 : Int)) w17))
 (Q (.int .i64 (200 : Int)) w17))
 (Q (.int .i64 (200 : Int)) w17))))
 (LETB false fun rest4 =>
 IFB many4
 (IFB sizev5
 (IFB time3
 (IFB rest4
 (Q (.int .i64 (0 : Int)) w16)
 (Q (.int .i64 (200 : Int)) w16))
 (Q (.int .i64 (200 : Int)) w16))
 (Q (.int .i64 (200 : Int)) w16))
 (Q (.int .i64 (200 : Int)) w16)))))))))
theorem eq19 : ∀ (c : Int) (c1 : Int) (c2 : Int) (c3 : Int) (c4 : Int) (c5 : Int) (c6 : Int) (c7 : Int) (c8 : Int) (c9 : Int) (c10 : Int) (c11 : Int) (c12 : Int) (c13 : Int) (c14 : Int) (w : World) (Q : Value → World → Prop), vcF PG TB Try.f19 (.s .nil (.s .nil (.cut [(4, 4)] .nil (.cut [(5, 4)] .nil (.cut [(6, 4)] .nil .nil))))) [(.agg #[(.int .i64 c), (.int .i64 c1), (.int .i64 c2), (.int .i64 c3), (.int .i64 c4), (.int .i64 c5), (.int .i64 c6), (.int .i64 c7), (.int .i64 c8), (.int .i64 c9), (.int .i64 c10), (.int .i64 c11), (.int .i64 c12), (.int .i64 c13), (.int .i64 c14)])] w Q = N19 c c1 c2 c3 c4 c5 c6 c7 c8 c9 c10 c11 c12 c13 c14 w Q := by intros; kernel_rfl
theorem call19 {c : Int} {c1 : Int} {c2 : Int} {c3 : Int} {c4 : Int} {c5 : Int} {c6 : Int} {c7 : Int} {c8 : Int} {c9 : Int} {c10 : Int} {c11 : Int} {c12 : Int} {c13 : Int} {c14 : Int} {w : World} {Q : Value → World → Prop} (hN : N19 c c1 c2 c3 c4 c5 c6 c7 c8 c9 c10 c11 c12 c13 c14 w Q) : CALL PG 19 [(.agg #[(.int .i64 c), (.int .i64 c1), (.int .i64 c2), (.int .i64 c3), (.int .i64 c4), (.int .i64 c5), (.int .i64 c6), (.int .i64 c7), (.int .i64 c8), (.int .i64 c9), (.int .i64 c10), (.int .i64 c11), (.int .i64 c12), (.int .i64 c13), (.int .i64 c14)])] w Q := calls_vc tabOk Try.func19 (by rw [eq19]; exact hN)

/-- brougham/host.Right$1 -/
def N29 (n : Int) (lo : Int) (hi : Int) (w : World) (Q : Value → World → Prop) : Prop :=
 IFB (decide (n ≥ lo))
 (LETB (decide (n ≤ hi)) fun x6 =>
 Q (.bool x6) w)
 (LETB false fun x6v1 =>
 Q (.bool x6v1) w)
theorem eq29 : ∀ (n : Int) (lo : Int) (hi : Int) (w : World) (Q : Value → World → Prop), vcF PG TB Try.f29 .nil [(.int .i64 n), (.int .i64 lo), (.int .i64 hi)] w Q = N29 n lo hi w Q := by intros; kernel_rfl
theorem call29 {n : Int} {lo : Int} {hi : Int} {w : World} {Q : Value → World → Prop} (hN : N29 n lo hi w Q) : CALL PG 29 [(.int .i64 n), (.int .i64 lo), (.int .i64 hi)] w Q := calls_vc tabOk Try.func29 (by rw [eq29]; exact hN)

end Go.Br
