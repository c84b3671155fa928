/- HostNew, HostLaw -/
import Derived.Test.YtmdkhgibipojcaaGreatBrSeat
import Derived.Test.YtmdkhgibipojcaaGreatBrMap
/- What the code of some functions says, as the core reads it; each reading is checked by the kernel. -/
set_option linter.unusedVariables false
set_option maxRecDepth 100000
namespace Go.Br
open Go Go.Proofs

/-- brougham/broughamref22.Right -/
def N4 (c : Int) (c1 : Int) (c2 : Int) (c3 : Int) (c4 : Int) (c5 : Int) (c6 : Int) (c7 : Int) (c8 : Int) (c9 : Int) (c10 : Int) (c11 : Int) (c12 : Int) (c13 : Int) (c14 : Int) (w : World) (Q : Value → World → Prop) : Prop :=
 RUNA PG (Instr.box 24 (.agg #[(.int .i64 c), (.int .i64 c1), (.int .i64 c2), (.int .i64 c3), (.int .i64 c4), (.int .i64 c5), (.int .i64 c6), (.int .i64 c7), (.int .i64 c8), (.int .i64 c9), (.int .i64 c10), (.int .i64 c11), (.int .i64 c12), (.int .i64 c13), (.int .i64 c14)])) w fun a1 w1 =>
 ∃ R : Bool → World → Prop,
 (RDI PG (loadVar 3 (Addr.add a1 0)) .i64 w1 fun x7 =>
 CALL PG 15 [(.int .i64 x7), (.int .i64 (0 : Int)), (.int .i64 (8 : Int))] w1 fun v w2 =>
 ∃ x8 : Bool, v = (.bool x8) ∧
 (IFB x8
 (RDI PG (loadVar 3 (Addr.add a1 1)) .i64 w2 fun x11 =>
 CALL PG 15 [(.int .i64 x11), (.int .i64 (0 : Int)), (.int .i64 (8 : Int))] w2 fun v1 w3 =>
 ∃ x12 : Bool, v1 = (.bool x12) ∧
 (IFB x12
 (RDI PG (loadVar 3 (Addr.add a1 2)) .i64 w3 fun x16 =>
 CALL PG 15 [(.int .i64 x16), (.int .i64 (0 : Int)), (.int .i64 (8 : Int))] w3 fun v2 w4 =>
 ∃ x17 : Bool, v2 = (.bool x17) ∧
 (IFB x17
 (RDI PG (loadVar 3 (Addr.add a1 3)) .i64 w4 fun x21 =>
 CALL PG 15 [(.int .i64 x21), (.int .i64 (1 : Int)), (.int .i64 (4 : Int))] w4 fun v3 w5 =>
 ∃ x22 : Bool, v3 = (.bool x22) ∧
 (IFB x22
 (RDI PG (loadVar 3 (Addr.add a1 6)) .i64 w5 fun x26 =>
 CALL PG 15 [(.int .i64 x26), (.int .i64 (0 : Int)), (.int .i64 (8 : Int))] w5 fun v4 w6 =>
 ∃ x27 : Bool, v4 = (.bool x27) ∧
 (IFB x27
 (RDI PG (loadVar 3 (Addr.add a1 7)) .i64 w6 fun x31 =>
 CALL PG 15 [(.int .i64 x31), (.int .i64 (1 : Int)), (.int .i64 (4 : Int))] w6 fun v5 w7 =>
 ∃ x32 : Bool, v5 = (.bool x32) ∧
 (LETB x32 fun many =>
 R many w7))
 (LETB false fun many1 =>
 R many1 w6)))
 (LETB false fun many2 =>
 R many2 w5)))
 (LETB false fun many3 =>
 R many3 w4)))
 (LETB false fun many4 =>
 R many4 w3)))
 (LETB false fun many5 =>
 R many5 w2))) ∧
 (∀ (many6 : Bool) (w8 : World), R many6 w8 → (∃ R1 : Bool → World → Prop,
 (RDI PG (loadVar 3 (Addr.add a1 4)) .i64 w8 fun x35 =>
 CALL PG 15 [(.int .i64 x35), (.int .i64 (1 : Int)), (.int .i64 (4096 : Int))] w8 fun v6 w9 =>
 ∃ x36 : Bool, v6 = (.bool x36) ∧
 (IFB x36
 (RDI PG (loadVar 3 (Addr.add a1 5)) .i64 w9 fun x39 =>
 CALL PG 15 [(.int .i64 x39), (.int .i64 (1 : Int)), (.int .i64 (64 : Int))] w9 fun v7 w10 =>
 ∃ x40 : Bool, v7 = (.bool x40) ∧
 (IFB x40
 (RDI PG (loadVar 3 (Addr.add a1 8)) .i64 w10 fun x44 =>
 CALL PG 15 [(.int .i64 x44), (.int .i64 (1 : Int)), (.int .i64 (1024 : Int))] w10 fun v8 w11 =>
 ∃ x45 : Bool, v8 = (.bool x45) ∧
 (LETB x45 fun sizev =>
 R1 sizev w11))
 (LETB false fun sizev1 =>
 R1 sizev1 w10)))
 (LETB false fun sizev2 =>
 R1 sizev2 w9))) ∧
 (∀ (sizev3 : Bool) (w12 : World), R1 sizev3 w12 → (∃ R2 : Bool → World → Prop,
 (RDI PG (loadVar 3 (Addr.add a1 9)) .i64 w12 fun x48 =>
 CALL PG 15 [(.int .i64 x48), (.int .i64 (2 : Int)), (.int .i64 (4096 : Int))] w12 fun v9 w13 =>
 ∃ x49 : Bool, v9 = (.bool x49) ∧
 (IFB x49
 (RDI PG (loadVar 3 (Addr.add a1 10)) .i64 w13 fun x52 =>
 CALL PG 15 [(.int .i64 x52), (.int .i64 (1 : Int)), (.int .i64 (4096 : Int))] w13 fun v10 w14 =>
 ∃ x53 : Bool, v10 = (.bool x53) ∧
 (IFB x53
 (RDI PG (loadVar 3 (Addr.add a1 10)) .i64 w14 fun x57 =>
 RDI PG (loadVar 3 (Addr.add a1 9)) .i64 w14 fun x59 =>
 LETB (decide (x57 < x59)) fun time =>
 R2 time w14)
 (LETB false fun time1 =>
 R2 time1 w14)))
 (LETB false fun time2 =>
 R2 time2 w13))) ∧
 (∀ (time3 : Bool) (w15 : World), R2 time3 w15 → (IFB many6
 (IFB sizev3
 (IFB time3
 (RDI PG (loadVar 3 (Addr.add a1 11)) .i64 w15 fun x71 =>
 CALL PG 15 [(.int .i64 x71), (.int .i64 (0 : Int)), (.int .i64 (4096 : Int))] w15 fun v11 w16 =>
 ∃ x72 : Bool, v11 = (.bool x72) ∧
 (IFB x72
 (RDI PG (loadVar 3 (Addr.add a1 12)) .i64 w16 fun x76 =>
 CALL PG 15 [(.int .i64 x76), (.int .i64 (0 : Int)), (.int .i64 (4096 : Int))] w16 fun v12 w17 =>
 ∃ x77 : Bool, v12 = (.bool x77) ∧
 (IFB x77
 (RDI PG (loadVar 3 (Addr.add a1 13)) .i64 w17 fun x81 =>
 CALL PG 15 [(.int .i64 x81), (.int .i64 (1 : Int)), (.int .i64 (4096 : Int))] w17 fun v13 w18 =>
 ∃ x82 : Bool, v13 = (.bool x82) ∧
 (IFB x82
 (RDI PG (loadVar 22 (Addr.add a1 14)) .i64 w18 fun x86 =>
 CALL PG 15 [(.int .i64 x86), (.int .i64 (1 : Int)), (.int .i64 (3 : Int))] w18 fun v14 w19 =>
 ∃ x87 : Bool, v14 = (.bool x87) ∧
 (LETB x87 fun x2 =>
 Q (.bool x2) w19))
 (LETB false fun x2v1 =>
 Q (.bool x2v1) w18)))
 (LETB false fun x2v2 =>
 Q (.bool x2v2) w17)))
 (LETB false fun x2v3 =>
 Q (.bool x2v3) w16)))
 (LETB false fun x2v4 =>
 Q (.bool x2v4) w15))
 (LETB false fun x2v5 =>
 Q (.bool x2v5) w15))
 (LETB false fun x2v6 =>
 Q (.bool x2v6) w15)))))))
theorem eq4 : ∀ (c : Int) (c1 : Int) (c2 : Int) (c3 : Int) (c4 : Int) (c5 : Int) (c6 : Int) (c7 : Int) (c8 : Int) (c9 : Int) (c10 : Int) (c11 : Int) (c12 : Int) (c13 : Int) (c14 : Int) (w : World) (Q : Value → World → Prop), vcF PG TB Tryz.f4 (.s .nil (.cut [(3, 4)] .nil (.cut [(4, 4)] .nil (.cut [(5, 4)] .nil .nil)))) [(.agg #[(.int .i64 c), (.int .i64 c1), (.int .i64 c2), (.int .i64 c3), (.int .i64 c4), (.int .i64 c5), (.int .i64 c6), (.int .i64 c7), (.int .i64 c8), (.int .i64 c9), (.int .i64 c10), (.int .i64 c11), (.int .i64 c12), (.int .i64 c13), (.int .i64 c14)])] w Q = N4 c c1 c2 c3 c4 c5 c6 c7 c8 c9 c10 c11 c12 c13 c14 w Q := by intros; kernel_rfl
theorem call4 {c : Int} {c1 : Int} {c2 : Int} {c3 : Int} {c4 : Int} {c5 : Int} {c6 : Int} {c7 : Int} {c8 : Int} {c9 : Int} {c10 : Int} {c11 : Int} {c12 : Int} {c13 : Int} {c14 : Int} {w : World} {Q : Value → World → Prop} (hN : N4 c c1 c2 c3 c4 c5 c6 c7 c8 c9 c10 c11 c12 c13 c14 w Q) : CALL PG 4 [(.agg #[(.int .i64 c), (.int .i64 c1), (.int .i64 c2), (.int .i64 c3), (.int .i64 c4), (.int .i64 c5), (.int .i64 c6), (.int .i64 c7), (.int .i64 c8), (.int .i64 c9), (.int .i64 c10), (.int .i64 c11), (.int .i64 c12), (.int .i64 c13), (.int .i64 c14)])] w Q := calls_vc tabOk Tryz.func4 (by rw [eq4]; exact hN)

/-- brougham/host.New -/
def N5 (c : Int) (c1 : Int) (c2 : Int) (c3 : Int) (c4 : Int) (c5 : Int) (c6 : Int) (c7 : Int) (c8 : Int) (c9 : Int) (c10 : Int) (c11 : Int) (c12 : Int) (c13 : Int) (c14 : Int) (seed : Int) (seed1 : Int) (w : World) (Q : Value → World → Prop) : Prop :=
 RUNA PG (Instr.box 24 (.agg #[(.int .i64 c), (.int .i64 c1), (.int .i64 c2), (.int .i64 c3), (.int .i64 c4), (.int .i64 c5), (.int .i64 c6), (.int .i64 c7), (.int .i64 c8), (.int .i64 c9), (.int .i64 c10), (.int .i64 c11), (.int .i64 c12), (.int .i64 c13), (.int .i64 c14)])) w fun a2 w1 =>
 RUNA PG (Instr.box 27 (.agg #[(.int .u64 seed), (.int .u64 seed1)])) w1 fun a3 w2 =>
 RD PG (loadVar 24 a2) w2 fun v =>
 ∃ x7 : Int, ∃ x7v1 : Int, ∃ x7v2 : Int, ∃ x7v3 : Int, ∃ x7v4 : Int, ∃ x7v5 : Int, ∃ x7v6 : Int, ∃ x7v7 : Int, ∃ x7v8 : Int, ∃ x7v9 : Int, ∃ x7v10 : Int, ∃ x7v11 : Int, ∃ x7v12 : Int, ∃ x7v13 : Int, ∃ x7v14 : Int, v = (.agg #[(.int .i64 x7), (.int .i64 x7v1), (.int .i64 x7v2), (.int .i64 x7v3), (.int .i64 x7v4), (.int .i64 x7v5), (.int .i64 x7v6), (.int .i64 x7v7), (.int .i64 x7v8), (.int .i64 x7v9), (.int .i64 x7v10), (.int .i64 x7v11), (.int .i64 x7v12), (.int .i64 x7v13), (.int .i64 x7v14)]) ∧
 (CALL PG 16 [(.agg #[(.int .i64 x7), (.int .i64 x7v1), (.int .i64 x7v2), (.int .i64 x7v3), (.int .i64 x7v4), (.int .i64 x7v5), (.int .i64 x7v6), (.int .i64 x7v7), (.int .i64 x7v8), (.int .i64 x7v9), (.int .i64 x7v10), (.int .i64 x7v11), (.int .i64 x7v12), (.int .i64 x7v13), (.int .i64 x7v14)])] w2 fun v1 w3 =>
 ∃ x8 : Int, v1 = (.int .i64 x8) ∧
 (LETI x8 fun e =>
 IFB (e != (0 : Int))
 (LETI e fun x5 =>
 Q (.tuple #[(.pointer none), (.int .i64 x5)]) w3)
 (RD PG (loadVar 24 a2) w3 fun v2 =>
 ∃ x12 : Int, ∃ x12v1 : Int, ∃ x12v2 : Int, ∃ x12v3 : Int, ∃ x12v4 : Int, ∃ x12v5 : Int, ∃ x12v6 : Int, ∃ x12v7 : Int, ∃ x12v8 : Int, ∃ x12v9 : Int, ∃ x12v10 : Int, ∃ x12v11 : Int, ∃ x12v12 : Int, ∃ x12v13 : Int, ∃ x12v14 : Int, v2 = (.agg #[(.int .i64 x12), (.int .i64 x12v1), (.int .i64 x12v2), (.int .i64 x12v3), (.int .i64 x12v4), (.int .i64 x12v5), (.int .i64 x12v6), (.int .i64 x12v7), (.int .i64 x12v8), (.int .i64 x12v9), (.int .i64 x12v10), (.int .i64 x12v11), (.int .i64 x12v12), (.int .i64 x12v13), (.int .i64 x12v14)]) ∧
 (RD PG (loadVar 27 a3) w3 fun v3 =>
 ∃ x13 : Int, ∃ x13v1 : Int, v3 = (.agg #[(.int .u64 x13), (.int .u64 x13v1)]) ∧
 (RD PG (Instr.build 62 #[(0, (.agg #[(.int .u64 x13), (.int .u64 x13v1)]))]) w3 fun v4 =>
 ∃ x14 : Int, ∃ x14v1 : Int, ∃ x14v2 : Int, v4 = (.agg #[(.int .u64 x14), (.int .u64 x14v1), (.int .u64 x14v2)]) ∧
 (RUN PG (Instr.makeMap 63 none) w3 fun v5 w4 =>
 ∃ x15 : Value, v5 = x15 ∧
 (RD PG (Instr.build 66 #[(1, (.agg #[(.int .i64 x12), (.int .i64 x12v1), (.int .i64 x12v2), (.int .i64 x12v3), (.int .i64 x12v4), (.int .i64 x12v5), (.int .i64 x12v6), (.int .i64 x12v7), (.int .i64 x12v8), (.int .i64 x12v9), (.int .i64 x12v10), (.int .i64 x12v11), (.int .i64 x12v12), (.int .i64 x12v13), (.int .i64 x12v14)])), (2, (.agg #[(.int .u64 x14), (.int .u64 x14v1), (.int .u64 x14v2)])), (4, x15), (5, (.int .i64 (1 : Int)))]) w4 fun v6 =>
 ∃ x16 : Value, v6 = x16 ∧
 (RUNA PG (Instr.box 66 x16) w4 fun a17 w5 =>
 Q (.tuple #[(.pointer (some a17)), (.int .i64 (0 : Int))]) w5))))))))
theorem eq5 : ∀ (c : Int) (c1 : Int) (c2 : Int) (c3 : Int) (c4 : Int) (c5 : Int) (c6 : Int) (c7 : Int) (c8 : Int) (c9 : Int) (c10 : Int) (c11 : Int) (c12 : Int) (c13 : Int) (c14 : Int) (seed : Int) (seed1 : Int) (w : World) (Q : Value → World → Prop), vcF PG TB Tryz.f5 .nil [(.agg #[(.int .i64 c), (.int .i64 c1), (.int .i64 c2), (.int .i64 c3), (.int .i64 c4), (.int .i64 c5), (.int .i64 c6), (.int .i64 c7), (.int .i64 c8), (.int .i64 c9), (.int .i64 c10), (.int .i64 c11), (.int .i64 c12), (.int .i64 c13), (.int .i64 c14)]), (.agg #[(.int .u64 seed), (.int .u64 seed1)])] w Q = N5 c c1 c2 c3 c4 c5 c6 c7 c8 c9 c10 c11 c12 c13 c14 seed seed1 w Q := by intros; kernel_rfl
theorem call5 {c : Int} {c1 : Int} {c2 : Int} {c3 : Int} {c4 : Int} {c5 : Int} {c6 : Int} {c7 : Int} {c8 : Int} {c9 : Int} {c10 : Int} {c11 : Int} {c12 : Int} {c13 : Int} {c14 : Int} {seed : Int} {seed1 : Int} {w : World} {Q : Value → World → Prop} (hN : N5 c c1 c2 c3 c4 c5 c6 c7 c8 c9 c10 c11 c12 c13 c14 seed seed1 w Q) : CALL PG 5 [(.agg #[(.int .i64 c), (.int .i64 c1), (.int .i64 c2), (.int .i64 c3), (.int .i64 c4), (.int .i64 c5), (.int .i64 c6), (.int .i64 c7), (.int .i64 c8), (.int .i64 c9), (.int .i64 c10), (.int .i64 c11), (.int .i64 c12), (.int .i64 c13), (.int .i64 c14)]), (.agg #[(.int .u64 seed), (.int .u64 seed1)])] w Q := calls_vc tabOk Tryz.func5 (by rw [eq5]; exact hN)

/-- brougham/broughamref22.within -/
def N15 (n : Int) (lo : Int) (hi : Int) (w : World) (Q : Value → World → Prop) : Prop :=
 IFB (decide (n ≥ lo))
 (LETB (decide (n ≤ hi)) fun x6 =>
 Q (.bool x6) w)
 (LETB false fun x6v1 =>
 Q (.bool x6v1) w)
theorem eq15 : ∀ (n : Int) (lo : Int) (hi : Int) (w : World) (Q : Value → World → Prop), vcF PG TB Tryz.f15 .nil [(.int .i64 n), (.int .i64 lo), (.int .i64 hi)] w Q = N15 n lo hi w Q := by intros; kernel_rfl
theorem call15 {n : Int} {lo : Int} {hi : Int} {w : World} {Q : Value → World → Prop} (hN : N15 n lo hi w Q) : CALL PG 15 [(.int .i64 n), (.int .i64 lo), (.int .i64 hi)] w Q := calls_vc tabOk Tryz.func15 (by rw [eq15]; exact hN)

/-- brougham/host.Right -/
def N16 (c : Int) (c1 : Int) (c2 : Int) (c3 : Int) (c4 : Int) (c5 : Int) (c6 : Int) (c7 : Int) (c8 : Int) (c9 : Int) (c10 : Int) (c11 : Int) (c12 : Int) (c13 : Int) (c14 : Int) (w : World) (Q : Value → World → Prop) : Prop :=
 RUNA PG (Instr.box 24 (.agg #[(.int .i64 c), (.int .i64 c1), (.int .i64 c2), (.int .i64 c3), (.int .i64 c4), (.int .i64 c5), (.int .i64 c6), (.int .i64 c7), (.int .i64 c8), (.int .i64 c9), (.int .i64 c10), (.int .i64 c11), (.int .i64 c12), (.int .i64 c13), (.int .i64 c14)])) w fun a1 w1 =>
 ∃ R : Bool → World → Prop,
 (RDI PG (loadVar 3 (Addr.add a1 0)) .i64 w1 fun x10 =>
 CALLV PG (.func (.func 37) #[] #[]) [(.int .i64 x10), (.int .i64 (0 : Int)), (.int .i64 (8 : Int))] w1 fun v w2 =>
 ∃ x11 : Bool, v = (.bool x11) ∧
 (IFB x11
 (RDI PG (loadVar 3 (Addr.add a1 1)) .i64 w2 fun x15 =>
 CALLV PG (.func (.func 37) #[] #[]) [(.int .i64 x15), (.int .i64 (0 : Int)), (.int .i64 (8 : Int))] w2 fun v1 w3 =>
 ∃ x16 : Bool, v1 = (.bool x16) ∧
 (IFB x16
 (RDI PG (loadVar 3 (Addr.add a1 2)) .i64 w3 fun x21 =>
 CALLV PG (.func (.func 37) #[] #[]) [(.int .i64 x21), (.int .i64 (0 : Int)), (.int .i64 (8 : Int))] w3 fun v2 w4 =>
 ∃ x22 : Bool, v2 = (.bool x22) ∧
 (IFB x22
 (RDI PG (loadVar 3 (Addr.add a1 3)) .i64 w4 fun x27 =>
 CALLV PG (.func (.func 37) #[] #[]) [(.int .i64 x27), (.int .i64 (1 : Int)), (.int .i64 (4 : Int))] w4 fun v3 w5 =>
 ∃ x28 : Bool, v3 = (.bool x28) ∧
 (LETB x28 fun many =>
 R many w5))
 (LETB false fun many1 =>
 R many1 w4)))
 (LETB false fun many2 =>
 R many2 w3)))
 (LETB false fun many3 =>
 R many3 w2))) ∧
 (∀ (many4 : Bool) (w6 : World), R many4 w6 → (∃ R1 : Bool → World → Prop,
 (RDI PG (loadVar 3 (Addr.add a1 4)) .i64 w6 fun x32 =>
 CALLV PG (.func (.func 37) #[] #[]) [(.int .i64 x32), (.int .i64 (1 : Int)), (.int .i64 (4096 : Int))] w6 fun v4 w7 =>
 ∃ x33 : Bool, v4 = (.bool x33) ∧
 (IFB x33
 (RDI PG (loadVar 3 (Addr.add a1 5)) .i64 w7 fun x37 =>
 CALLV PG (.func (.func 37) #[] #[]) [(.int .i64 x37), (.int .i64 (1 : Int)), (.int .i64 (64 : Int))] w7 fun v5 w8 =>
 ∃ x38 : Bool, v5 = (.bool x38) ∧
 (IFB x38
 (RDI PG (loadVar 3 (Addr.add a1 6)) .i64 w8 fun x43 =>
 CALLV PG (.func (.func 37) #[] #[]) [(.int .i64 x43), (.int .i64 (0 : Int)), (.int .i64 (8 : Int))] w8 fun v6 w9 =>
 ∃ x44 : Bool, v6 = (.bool x44) ∧
 (IFB x44
 (RDI PG (loadVar 3 (Addr.add a1 7)) .i64 w9 fun x49 =>
 CALLV PG (.func (.func 37) #[] #[]) [(.int .i64 x49), (.int .i64 (1 : Int)), (.int .i64 (4 : Int))] w9 fun v7 w10 =>
 ∃ x50 : Bool, v7 = (.bool x50) ∧
 (IFB x50
 (RDI PG (loadVar 3 (Addr.add a1 8)) .i64 w10 fun x55 =>
 CALLV PG (.func (.func 37) #[] #[]) [(.int .i64 x55), (.int .i64 (1 : Int)), (.int .i64 (1024 : Int))] w10 fun v8 w11 =>
 ∃ x56 : Bool, v8 = (.bool x56) ∧
 (LETB x56 fun sizev =>
 R1 sizev w11))
 (LETB false fun sizev1 =>
 R1 sizev1 w10)))
 (LETB false fun sizev2 =>
 R1 sizev2 w9)))
 (LETB false fun sizev3 =>
 R1 sizev3 w8)))
 (LETB false fun sizev4 =>
 R1 sizev4 w7))) ∧
 (∀ (sizev5 : Bool) (w12 : World), R1 sizev5 w12 → (∃ R2 : Bool → World → Prop,
 (RDI PG (loadVar 3 (Addr.add a1 10)) .i64 w12 fun x60 =>
 CALLV PG (.func (.func 37) #[] #[]) [(.int .i64 x60), (.int .i64 (1 : Int)), (.int .i64 (4096 : Int))] w12 fun v9 w13 =>
 ∃ x61 : Bool, v9 = (.bool x61) ∧
 (IFB x61
 (RDI PG (loadVar 3 (Addr.add a1 9)) .i64 w13 fun x65 =>
 CALLV PG (.func (.func 37) #[] #[]) [(.int .i64 x65), (.int .i64 (2 : Int)), (.int .i64 (4096 : Int))] w13 fun v10 w14 =>
 ∃ x66 : Bool, v10 = (.bool x66) ∧
 (IFB x66
 (RDI PG (loadVar 3 (Addr.add a1 10)) .i64 w14 fun x70 =>
 RDI PG (loadVar 3 (Addr.add a1 9)) .i64 w14 fun x72 =>
 LETB (decide (x70 < x72)) fun time =>
 R2 time w14)
 (LETB false fun time1 =>
 R2 time1 w14)))
 (LETB false fun time2 =>
 R2 time2 w13))) ∧
 (∀ (time3 : Bool) (w15 : World), R2 time3 w15 → (RDI PG (loadVar 3 (Addr.add a1 11)) .i64 w15 fun x77 =>
 CALLV PG (.func (.func 37) #[] #[]) [(.int .i64 x77), (.int .i64 (0 : Int)), (.int .i64 (4096 : Int))] w15 fun v11 w16 =>
 ∃ x78 : Bool, v11 = (.bool x78) ∧
 (IFB x78
 (RDI PG (loadVar 3 (Addr.add a1 12)) .i64 w16 fun x82 =>
 CALLV PG (.func (.func 37) #[] #[]) [(.int .i64 x82), (.int .i64 (0 : Int)), (.int .i64 (4096 : Int))] w16 fun v12 w17 =>
 ∃ x83 : Bool, v12 = (.bool x83) ∧
 (IFB x83
 (RDI PG (loadVar 3 (Addr.add a1 13)) .i64 w17 fun x88 =>
 CALLV PG (.func (.func 37) #[] #[]) [(.int .i64 x88), (.int .i64 (1 : Int)), (.int .i64 (4096 : Int))] w17 fun v13 w18 =>
 ∃ x89 : Bool, v13 = (.bool x89) ∧
 (IFB x89
 (RDI PG (loadVar 22 (Addr.add a1 14)) .i64 w18 fun x93 =>
 IFB (decide (x93 ≥ (1 : Int)))
 (RDI PG (loadVar 22 (Addr.add a1 14)) .i64 w18 fun x98 =>
 LETB (decide (x98 ≤ (3 : Int))) fun rest =>
 IFB many4
 (IFB sizev5
 (IFB time3
 (IFB rest
 (Q (.int .i64 (0 : Int)) w18)
 (Q (.int .i64 (200 : Int)) w18))
 (Q (.int .i64 (200 : Int)) w18))
 (Q (.int .i64 (200 : Int)) w18))
 (Q (.int .i64 (200 : Int)) w18))
 (LETB false fun rest1 =>
 IFB many4
 (IFB sizev5
 (IFB time3
 (IFB rest1
 (Q (.int .i64 (0 : Int)) w18)
 (Q (.int .i64 (200 : Int)) w18))
 (Q (.int .i64 (200 : Int)) w18))
 (Q (.int .i64 (200 : Int)) w18))
 (Q (.int .i64 (200 : Int)) w18)))
 (LETB false fun rest2 =>
 IFB many4
 (IFB sizev5
 (IFB time3
 (IFB rest2
 (Q (.int .i64 (0 : Int)) w18)
 (Q (.int .i64 (200 : Int)) w18))
 (Q (.int .i64 (200 : Int)) w18))
 (Q (.int .i64 (200 : Int)) w18))
 (Q (.int .i64 (200 : Int)) w18))))
 (LETB false fun rest3 =>
 IFB many4
 (IFB sizev5
 (IFB time3
 (IFB rest3
 (Q (.int .i64 (0 : Int)) w17)
 (Q (.int .i64 (200 : Int)) w17))
 (Q (.int .i64 (200 : Int)) w17))
 (Q (.int .i64 (200 : Int)) w17))
 (Q (.int .i64 (200 : Int)) w17))))
 (LETB false fun rest4 =>
 IFB many4
 (IFB sizev5
 (IFB time3
 (IFB rest4
 (Q (.int .i64 (0 : Int)) w16)
 (Q (.int .i64 (200 : Int)) w16))
 (Q (.int .i64 (200 : Int)) w16))
 (Q (.int .i64 (200 : Int)) w16))
 (Q (.int .i64 (200 : Int)) w16)))))))))
theorem eq16 : ∀ (c : Int) (c1 : Int) (c2 : Int) (c3 : Int) (c4 : Int) (c5 : Int) (c6 : Int) (c7 : Int) (c8 : Int) (c9 : Int) (c10 : Int) (c11 : Int) (c12 : Int) (c13 : Int) (c14 : Int) (w : World) (Q : Value → World → Prop), vcF PG TB Tryz.f16 (.s .nil (.s .nil (.cut [(4, 4)] .nil (.cut [(5, 4)] .nil (.cut [(6, 4)] .nil .nil))))) [(.agg #[(.int .i64 c), (.int .i64 c1), (.int .i64 c2), (.int .i64 c3), (.int .i64 c4), (.int .i64 c5), (.int .i64 c6), (.int .i64 c7), (.int .i64 c8), (.int .i64 c9), (.int .i64 c10), (.int .i64 c11), (.int .i64 c12), (.int .i64 c13), (.int .i64 c14)])] w Q = N16 c c1 c2 c3 c4 c5 c6 c7 c8 c9 c10 c11 c12 c13 c14 w Q := by intros; kernel_rfl
theorem call16 {c : Int} {c1 : Int} {c2 : Int} {c3 : Int} {c4 : Int} {c5 : Int} {c6 : Int} {c7 : Int} {c8 : Int} {c9 : Int} {c10 : Int} {c11 : Int} {c12 : Int} {c13 : Int} {c14 : Int} {w : World} {Q : Value → World → Prop} (hN : N16 c c1 c2 c3 c4 c5 c6 c7 c8 c9 c10 c11 c12 c13 c14 w Q) : CALL PG 16 [(.agg #[(.int .i64 c), (.int .i64 c1), (.int .i64 c2), (.int .i64 c3), (.int .i64 c4), (.int .i64 c5), (.int .i64 c6), (.int .i64 c7), (.int .i64 c8), (.int .i64 c9), (.int .i64 c10), (.int .i64 c11), (.int .i64 c12), (.int .i64 c13), (.int .i64 c14)])] w Q := calls_vc tabOk Tryz.func16 (by rw [eq16]; exact hN)

/-- brougham/host.Right$1 -/
def N37 (n : Int) (lo : Int) (hi : Int) (w : World) (Q : Value → World → Prop) : Prop :=
 IFB (decide (n ≥ lo))
 (LETB (decide (n ≤ hi)) fun x6 =>
 Q (.bool x6) w)
 (LETB false fun x6v1 =>
 Q (.bool x6v1) w)
theorem eq37 : ∀ (n : Int) (lo : Int) (hi : Int) (w : World) (Q : Value → World → Prop), vcF PG TB Tryz.f37 .nil [(.int .i64 n), (.int .i64 lo), (.int .i64 hi)] w Q = N37 n lo hi w Q := by intros; kernel_rfl
theorem call37 {n : Int} {lo : Int} {hi : Int} {w : World} {Q : Value → World → Prop} (hN : N37 n lo hi w Q) : CALL PG 37 [(.int .i64 n), (.int .i64 lo), (.int .i64 hi)] w Q := calls_vc tabOk Tryz.func37 (by rw [eq37]; exact hN)

end Go.Br

/- A host's configuration, and a host that is new. -/
set_option linter.unusedVariables false
set_option linter.unusedSimpArgs false
set_option linter.unnecessarySimpa false
namespace Go.Br
open Go
instance biHostNewa (x0 : Int) (x1 : Int) : Bld PG (Instr.build 62 #[(0, .agg #[.int .u64 x0, .int .u64 x1])]) (.agg #[.int .u64 x0, .int .u64 x1, .int .u64 0]) := ⟨fun w => by kernel_rfl⟩
attribute [local irreducible] Addr.add RD RDS RUN RUNU NILC LETB CALL CALLX CALLV

structure Cfg where
  ports : Int
  half : Int
  conns : Int
  flows : Int
  buffer : Int
  chunks : Int
  addrs : Int
  paths : Int
  mss : Int
  silence : Int
  keep : Int
  burst : Int
  rate : Int
  score : Int
  policy : Int
def cfg (x : Cfg) : List Value := [.int .i64 x.ports, .int .i64 x.half, .int .i64 x.conns, .int .i64 x.flows, .int .i64 x.buffer, .int .i64 x.chunks, .int .i64 x.addrs, .int .i64 x.paths, .int .i64 x.mss, .int .i64 x.silence, .int .i64 x.keep, .int .i64 x.burst, .int .i64 x.rate, .int .i64 x.score, .int .i64 x.policy]
abbrev cfgv (x : Cfg) : Value := .agg #[.int .i64 x.ports, .int .i64 x.half, .int .i64 x.conns, .int .i64 x.flows, .int .i64 x.buffer, .int .i64 x.chunks, .int .i64 x.addrs, .int .i64 x.paths, .int .i64 x.mss, .int .i64 x.silence, .int .i64 x.keep, .int .i64 x.burst, .int .i64 x.rate, .int .i64 x.score, .int .i64 x.policy]
theorem cfg_length (x : Cfg) : (cfg x).length = 15 := rfl
theorem cfg_flat1 (x : Cfg) : Flat (cfg x) := by intro v hv; simp [cfg] at hv; rcases hv with rfl | rfl | rfl | rfl | rfl | rfl | rfl | rfl | rfl | rfl | rfl | rfl | rfl | rfl | rfl <;> rfl
theorem cfg_flat (L : List Cfg) : Flat (L.flatMap cfg) := by
  intro v hv
  simp only [List.mem_flatMap] at hv
  obtain ⟨x, _, hx⟩ := hv
  exact cfg_flat1 x v hx
def CfgM (g : Cfg) : Prop := (0 ≤ g.ports ∧ g.ports ≤ 8) ∧ (0 ≤ g.half ∧ g.half ≤ 8) ∧ (0 ≤ g.conns ∧ g.conns ≤ 8) ∧ (1 ≤ g.flows ∧ g.flows ≤ 4)
def CfgS (g : Cfg) : Prop := (1 ≤ g.buffer ∧ g.buffer ≤ 4096) ∧ (1 ≤ g.chunks ∧ g.chunks ≤ 64) ∧ (0 ≤ g.addrs ∧ g.addrs ≤ 8) ∧ (1 ≤ g.paths ∧ g.paths ≤ 4) ∧ (1 ≤ g.mss ∧ g.mss ≤ 1024)
def CfgT (g : Cfg) : Prop := (1 ≤ g.keep ∧ g.keep ≤ 4096) ∧ (2 ≤ g.silence ∧ g.silence ≤ 4096) ∧ g.keep < g.silence
def CfgR (g : Cfg) : Prop := (0 ≤ g.burst ∧ g.burst ≤ 4096) ∧ (0 ≤ g.rate ∧ g.rate ≤ 4096) ∧ (1 ≤ g.score ∧ g.score ≤ 4096) ∧ (1 ≤ g.policy ∧ g.policy ≤ 3)
/-- A configuration may be. -/
def CfgOk (g : Cfg) : Prop := CfgM g ∧ CfgS g ∧ CfgT g ∧ CfgR g
instance (g : Cfg) : Decidable (CfgM g) := by unfold CfgM; infer_instance
instance (g : Cfg) : Decidable (CfgS g) := by unfold CfgS; infer_instance
instance (g : Cfg) : Decidable (CfgT g) := by unfold CfgT; infer_instance
instance (g : Cfg) : Decidable (CfgR g) := by unfold CfgR; infer_instance
instance (g : Cfg) : Decidable (CfgOk g) := by unfold CfgOk; infer_instance
section
variable {c : Ctx} {w : World} {L R : List SA}
theorem wi_ok {n lo hi : Int} {Q : Value → World → Prop} (hk : Q (.bool (decide (lo ≤ n ∧ n ≤ hi))) w) : CALL PG 37 [.int .i64 n, .int .i64 lo, .int .i64 hi] w Q := by
  refine call37 ?_
  unfold N37
  exact ifd (fun h => letb (decide_eq_decide.2 (by omega)) hk) fun h => letb (decide_eq_false (by omega)).symm hk
theorem rwi_ok {n lo hi : Int} {Q : Value → World → Prop} (hk : Q (.bool (decide (lo ≤ n ∧ n ≤ hi))) w) : CALL PG 15 [.int .i64 n, .int .i64 lo, .int .i64 hi] w Q := by
  refine call15 ?_
  unfold N15
  exact ifd (fun h => letb (decide_eq_decide.2 (by omega)) hk) fun h => letb (decide_eq_false (by omega)).symm hk
theorem right_ok (h : St c w L) (g : Cfg) {Q : Value → World → Prop} (hk : ∀ w', St c w' L → Q (.int .i64 (if CfgOk g then 0 else 200)) w') : CALL PG 16 [cfgv g] w Q := by
  have f0 : CfgOk g → ∀ {w' X}, St c w' (X :: L) → Q (.int .i64 0) w' := fun e w' X h => by have := hk w' h.drop; rwa [if_pos e] at this
  have f2 : ¬ CfgOk g → ∀ {w' X}, St c w' (X :: L) → Q (.int .i64 200) w' := fun e w' X h => by have := hk w' h.drop; rwa [if_neg e] at this
  refine call16 ?_
  unfold N16
  refine h.box (vs := cfg g) fun q w' h => ?_
  refine ⟨fun b w' => b = decide (CfgM g) ∧ St c w' (blk q 24 (cfg g) :: L), ?_, ?_⟩
  · refine h.rdI 0 ?_
    refine callvT tabOk (by kernel_rfl) (wi_ok ?_)
    (repeat (first | apply Exists.intro (α := Int) | apply Exists.intro (α := Bool) | apply Exists.intro (α := ByteArray) | (apply Exists.intro (α := Option Addr); apply Exists.intro (α := Nat); apply Exists.intro (α := Nat)) | apply Exists.intro (α := Option Addr) | apply Exists.intro (α := Value)))
    refine ⟨rfl, ?_⟩
    refine ifd (fun h0 => ?_) fun h0 => letb rfl ⟨(decide_eq_false (by unfold CfgM; omega)).symm, h⟩
    refine h.rdI 1 ?_
    refine callvT tabOk (by kernel_rfl) (wi_ok ?_)
    (repeat (first | apply Exists.intro (α := Int) | apply Exists.intro (α := Bool) | apply Exists.intro (α := ByteArray) | (apply Exists.intro (α := Option Addr); apply Exists.intro (α := Nat); apply Exists.intro (α := Nat)) | apply Exists.intro (α := Option Addr) | apply Exists.intro (α := Value)))
    refine ⟨rfl, ?_⟩
    refine ifd (fun h1 => ?_) fun h1 => letb rfl ⟨(decide_eq_false (by unfold CfgM; omega)).symm, h⟩
    refine h.rdI 2 ?_
    refine callvT tabOk (by kernel_rfl) (wi_ok ?_)
    (repeat (first | apply Exists.intro (α := Int) | apply Exists.intro (α := Bool) | apply Exists.intro (α := ByteArray) | (apply Exists.intro (α := Option Addr); apply Exists.intro (α := Nat); apply Exists.intro (α := Nat)) | apply Exists.intro (α := Option Addr) | apply Exists.intro (α := Value)))
    refine ⟨rfl, ?_⟩
    refine ifd (fun h2 => ?_) fun h2 => letb rfl ⟨(decide_eq_false (by unfold CfgM; omega)).symm, h⟩
    refine h.rdI 3 ?_
    refine callvT tabOk (by kernel_rfl) (wi_ok ?_)
    (repeat (first | apply Exists.intro (α := Int) | apply Exists.intro (α := Bool) | apply Exists.intro (α := ByteArray) | (apply Exists.intro (α := Option Addr); apply Exists.intro (α := Nat); apply Exists.intro (α := Nat)) | apply Exists.intro (α := Option Addr) | apply Exists.intro (α := Value)))
    refine ⟨rfl, ?_⟩
    exact letb rfl ⟨decide_eq_decide.2 (by unfold CfgM; omega), h⟩
  clear h
  rintro _ w' ⟨rfl, h⟩
  refine ⟨fun b w' => b = decide (CfgS g) ∧ St c w' (blk q 24 (cfg g) :: L), ?_, ?_⟩
  · refine h.rdI 4 ?_
    refine callvT tabOk (by kernel_rfl) (wi_ok ?_)
    (repeat (first | apply Exists.intro (α := Int) | apply Exists.intro (α := Bool) | apply Exists.intro (α := ByteArray) | (apply Exists.intro (α := Option Addr); apply Exists.intro (α := Nat); apply Exists.intro (α := Nat)) | apply Exists.intro (α := Option Addr) | apply Exists.intro (α := Value)))
    refine ⟨rfl, ?_⟩
    refine ifd (fun h0 => ?_) fun h0 => letb rfl ⟨(decide_eq_false (by unfold CfgS; omega)).symm, h⟩
    refine h.rdI 5 ?_
    refine callvT tabOk (by kernel_rfl) (wi_ok ?_)
    (repeat (first | apply Exists.intro (α := Int) | apply Exists.intro (α := Bool) | apply Exists.intro (α := ByteArray) | (apply Exists.intro (α := Option Addr); apply Exists.intro (α := Nat); apply Exists.intro (α := Nat)) | apply Exists.intro (α := Option Addr) | apply Exists.intro (α := Value)))
    refine ⟨rfl, ?_⟩
    refine ifd (fun h1 => ?_) fun h1 => letb rfl ⟨(decide_eq_false (by unfold CfgS; omega)).symm, h⟩
    refine h.rdI 6 ?_
    refine callvT tabOk (by kernel_rfl) (wi_ok ?_)
    (repeat (first | apply Exists.intro (α := Int) | apply Exists.intro (α := Bool) | apply Exists.intro (α := ByteArray) | (apply Exists.intro (α := Option Addr); apply Exists.intro (α := Nat); apply Exists.intro (α := Nat)) | apply Exists.intro (α := Option Addr) | apply Exists.intro (α := Value)))
    refine ⟨rfl, ?_⟩
    refine ifd (fun h2 => ?_) fun h2 => letb rfl ⟨(decide_eq_false (by unfold CfgS; omega)).symm, h⟩
    refine h.rdI 7 ?_
    refine callvT tabOk (by kernel_rfl) (wi_ok ?_)
    (repeat (first | apply Exists.intro (α := Int) | apply Exists.intro (α := Bool) | apply Exists.intro (α := ByteArray) | (apply Exists.intro (α := Option Addr); apply Exists.intro (α := Nat); apply Exists.intro (α := Nat)) | apply Exists.intro (α := Option Addr) | apply Exists.intro (α := Value)))
    refine ⟨rfl, ?_⟩
    refine ifd (fun h3 => ?_) fun h3 => letb rfl ⟨(decide_eq_false (by unfold CfgS; omega)).symm, h⟩
    refine h.rdI 8 ?_
    refine callvT tabOk (by kernel_rfl) (wi_ok ?_)
    (repeat (first | apply Exists.intro (α := Int) | apply Exists.intro (α := Bool) | apply Exists.intro (α := ByteArray) | (apply Exists.intro (α := Option Addr); apply Exists.intro (α := Nat); apply Exists.intro (α := Nat)) | apply Exists.intro (α := Option Addr) | apply Exists.intro (α := Value)))
    refine ⟨rfl, ?_⟩
    exact letb rfl ⟨decide_eq_decide.2 (by unfold CfgS; omega), h⟩
  clear h
  rintro _ w' ⟨rfl, h⟩
  refine ⟨fun b w' => b = decide (CfgT g) ∧ St c w' (blk q 24 (cfg g) :: L), ?_, ?_⟩
  · refine h.rdI 10 ?_
    refine callvT tabOk (by kernel_rfl) (wi_ok ?_)
    (repeat (first | apply Exists.intro (α := Int) | apply Exists.intro (α := Bool) | apply Exists.intro (α := ByteArray) | (apply Exists.intro (α := Option Addr); apply Exists.intro (α := Nat); apply Exists.intro (α := Nat)) | apply Exists.intro (α := Option Addr) | apply Exists.intro (α := Value)))
    refine ⟨rfl, ?_⟩
    refine ifd (fun h0 => ?_) fun h0 => letb rfl ⟨(decide_eq_false (by unfold CfgT; omega)).symm, h⟩
    refine h.rdI 9 ?_
    refine callvT tabOk (by kernel_rfl) (wi_ok ?_)
    (repeat (first | apply Exists.intro (α := Int) | apply Exists.intro (α := Bool) | apply Exists.intro (α := ByteArray) | (apply Exists.intro (α := Option Addr); apply Exists.intro (α := Nat); apply Exists.intro (α := Nat)) | apply Exists.intro (α := Option Addr) | apply Exists.intro (α := Value)))
    refine ⟨rfl, ?_⟩
    refine ifd (fun h1 => ?_) fun h1 => letb rfl ⟨(decide_eq_false (by unfold CfgT; omega)).symm, h⟩
    refine h.rdI 10 ?_
    refine h.rdI 9 ?_
    exact letb rfl ⟨decide_eq_decide.2 (by unfold CfgT; omega), h⟩
  clear h
  rintro _ w' ⟨rfl, h⟩
  have bad : ¬ CfgR g → ∀ {w'}, St c w' (blk q 24 (cfg g) :: L) → IFB (decide (CfgM g)) (IFB (decide (CfgS g)) (IFB (decide (CfgT g)) (IFB false (Q (.int .i64 0) w') (Q (.int .i64 200) w')) (Q (.int .i64 200) w')) (Q (.int .i64 200) w')) (Q (.int .i64 200) w') := fun e w' h =>
    ifd (fun a => ifd (fun b => ifd (fun d => iff_ rfl (f2 (fun k => e k.2.2.2) h)) fun d => f2 (fun k => d k.2.2.1) h) fun b => f2 (fun k => b k.2.1) h) fun a => f2 (fun k => a k.1) h
  refine h.rdI 11 ?_
  refine callvT tabOk (by kernel_rfl) (wi_ok ?_)
  (repeat (first | apply Exists.intro (α := Int) | apply Exists.intro (α := Bool) | apply Exists.intro (α := ByteArray) | (apply Exists.intro (α := Option Addr); apply Exists.intro (α := Nat); apply Exists.intro (α := Nat)) | apply Exists.intro (α := Option Addr) | apply Exists.intro (α := Value)))
  refine ⟨rfl, ?_⟩
  refine ifd (fun h0 => ?_) fun h0 => letb rfl (bad (by unfold CfgR; omega) h)
  refine h.rdI 12 ?_
  refine callvT tabOk (by kernel_rfl) (wi_ok ?_)
  (repeat (first | apply Exists.intro (α := Int) | apply Exists.intro (α := Bool) | apply Exists.intro (α := ByteArray) | (apply Exists.intro (α := Option Addr); apply Exists.intro (α := Nat); apply Exists.intro (α := Nat)) | apply Exists.intro (α := Option Addr) | apply Exists.intro (α := Value)))
  refine ⟨rfl, ?_⟩
  refine ifd (fun h1 => ?_) fun h1 => letb rfl (bad (by unfold CfgR; omega) h)
  refine h.rdI 13 ?_
  refine callvT tabOk (by kernel_rfl) (wi_ok ?_)
  (repeat (first | apply Exists.intro (α := Int) | apply Exists.intro (α := Bool) | apply Exists.intro (α := ByteArray) | (apply Exists.intro (α := Option Addr); apply Exists.intro (α := Nat); apply Exists.intro (α := Nat)) | apply Exists.intro (α := Option Addr) | apply Exists.intro (α := Value)))
  refine ⟨rfl, ?_⟩
  refine ifd (fun h2 => ?_) fun h2 => letb rfl (bad (by unfold CfgR; omega) h)
  refine h.rdI 14 ?_
  refine ifd (fun h3 => ?_) fun h3 => letb rfl (bad (by unfold CfgR; omega) h)
  refine h.rdI 14 ?_
  refine letb rfl (ifd (fun a => ifd (fun b => ifd (fun d => ifd (fun e => f0 ⟨a, b, d, ?_⟩ h) fun e => f2 (fun k => e ?_) h) fun d => f2 (fun k => d k.2.2.1) h) fun b => f2 (fun k => b k.2.1) h) fun a => f2 (fun k => a k.1) h)
  · unfold CfgR; omega
  · have := k.2.2.2; unfold CfgR at this; omega
theorem rright_ok (h : St c w L) (g : Cfg) {Q : Value → World → Prop} (hk : ∀ w', St c w' L → Q (.bool (decide (CfgOk g))) w') : CALL PG 4 [cfgv g] w Q := by
  have f2 : ¬ CfgOk g → ∀ {w' X}, St c w' (X :: L) → Q (.bool false) w' := fun e w' X h => by have := hk w' h.drop; rwa [decide_eq_false e] at this
  refine call4 ?_
  unfold N4
  refine h.box (vs := cfg g) fun q w' h => ?_
  refine ⟨fun b w' => b = decide ((0 ≤ g.ports ∧ g.ports ≤ 8) ∧ (0 ≤ g.half ∧ g.half ≤ 8) ∧ (0 ≤ g.conns ∧ g.conns ≤ 8) ∧ (1 ≤ g.flows ∧ g.flows ≤ 4) ∧ (0 ≤ g.addrs ∧ g.addrs ≤ 8) ∧ (1 ≤ g.paths ∧ g.paths ≤ 4)) ∧ St c w' (blk q 24 (cfg g) :: L), ?_, ?_⟩
  · refine h.rdI 0 ?_
    refine rwi_ok ?_
    (repeat (first | apply Exists.intro (α := Int) | apply Exists.intro (α := Bool) | apply Exists.intro (α := ByteArray) | (apply Exists.intro (α := Option Addr); apply Exists.intro (α := Nat); apply Exists.intro (α := Nat)) | apply Exists.intro (α := Option Addr) | apply Exists.intro (α := Value)))
    refine ⟨rfl, ?_⟩
    refine ifd (fun h0 => ?_) fun h0 => letb rfl ⟨(decide_eq_false (by omega)).symm, h⟩
    refine h.rdI 1 ?_
    refine rwi_ok ?_
    (repeat (first | apply Exists.intro (α := Int) | apply Exists.intro (α := Bool) | apply Exists.intro (α := ByteArray) | (apply Exists.intro (α := Option Addr); apply Exists.intro (α := Nat); apply Exists.intro (α := Nat)) | apply Exists.intro (α := Option Addr) | apply Exists.intro (α := Value)))
    refine ⟨rfl, ?_⟩
    refine ifd (fun h1 => ?_) fun h1 => letb rfl ⟨(decide_eq_false (by omega)).symm, h⟩
    refine h.rdI 2 ?_
    refine rwi_ok ?_
    (repeat (first | apply Exists.intro (α := Int) | apply Exists.intro (α := Bool) | apply Exists.intro (α := ByteArray) | (apply Exists.intro (α := Option Addr); apply Exists.intro (α := Nat); apply Exists.intro (α := Nat)) | apply Exists.intro (α := Option Addr) | apply Exists.intro (α := Value)))
    refine ⟨rfl, ?_⟩
    refine ifd (fun h2 => ?_) fun h2 => letb rfl ⟨(decide_eq_false (by omega)).symm, h⟩
    refine h.rdI 3 ?_
    refine rwi_ok ?_
    (repeat (first | apply Exists.intro (α := Int) | apply Exists.intro (α := Bool) | apply Exists.intro (α := ByteArray) | (apply Exists.intro (α := Option Addr); apply Exists.intro (α := Nat); apply Exists.intro (α := Nat)) | apply Exists.intro (α := Option Addr) | apply Exists.intro (α := Value)))
    refine ⟨rfl, ?_⟩
    refine ifd (fun h3 => ?_) fun h3 => letb rfl ⟨(decide_eq_false (by omega)).symm, h⟩
    refine h.rdI 6 ?_
    refine rwi_ok ?_
    (repeat (first | apply Exists.intro (α := Int) | apply Exists.intro (α := Bool) | apply Exists.intro (α := ByteArray) | (apply Exists.intro (α := Option Addr); apply Exists.intro (α := Nat); apply Exists.intro (α := Nat)) | apply Exists.intro (α := Option Addr) | apply Exists.intro (α := Value)))
    refine ⟨rfl, ?_⟩
    refine ifd (fun h4 => ?_) fun h4 => letb rfl ⟨(decide_eq_false (by omega)).symm, h⟩
    refine h.rdI 7 ?_
    refine rwi_ok ?_
    (repeat (first | apply Exists.intro (α := Int) | apply Exists.intro (α := Bool) | apply Exists.intro (α := ByteArray) | (apply Exists.intro (α := Option Addr); apply Exists.intro (α := Nat); apply Exists.intro (α := Nat)) | apply Exists.intro (α := Option Addr) | apply Exists.intro (α := Value)))
    refine ⟨rfl, ?_⟩
    exact letb rfl ⟨decide_eq_decide.2 (by omega), h⟩
  clear h
  rintro _ w' ⟨rfl, h⟩
  refine ⟨fun b w' => b = decide ((1 ≤ g.buffer ∧ g.buffer ≤ 4096) ∧ (1 ≤ g.chunks ∧ g.chunks ≤ 64) ∧ (1 ≤ g.mss ∧ g.mss ≤ 1024)) ∧ St c w' (blk q 24 (cfg g) :: L), ?_, ?_⟩
  · refine h.rdI 4 ?_
    refine rwi_ok ?_
    (repeat (first | apply Exists.intro (α := Int) | apply Exists.intro (α := Bool) | apply Exists.intro (α := ByteArray) | (apply Exists.intro (α := Option Addr); apply Exists.intro (α := Nat); apply Exists.intro (α := Nat)) | apply Exists.intro (α := Option Addr) | apply Exists.intro (α := Value)))
    refine ⟨rfl, ?_⟩
    refine ifd (fun h0 => ?_) fun h0 => letb rfl ⟨(decide_eq_false (by omega)).symm, h⟩
    refine h.rdI 5 ?_
    refine rwi_ok ?_
    (repeat (first | apply Exists.intro (α := Int) | apply Exists.intro (α := Bool) | apply Exists.intro (α := ByteArray) | (apply Exists.intro (α := Option Addr); apply Exists.intro (α := Nat); apply Exists.intro (α := Nat)) | apply Exists.intro (α := Option Addr) | apply Exists.intro (α := Value)))
    refine ⟨rfl, ?_⟩
    refine ifd (fun h1 => ?_) fun h1 => letb rfl ⟨(decide_eq_false (by omega)).symm, h⟩
    refine h.rdI 8 ?_
    refine rwi_ok ?_
    (repeat (first | apply Exists.intro (α := Int) | apply Exists.intro (α := Bool) | apply Exists.intro (α := ByteArray) | (apply Exists.intro (α := Option Addr); apply Exists.intro (α := Nat); apply Exists.intro (α := Nat)) | apply Exists.intro (α := Option Addr) | apply Exists.intro (α := Value)))
    refine ⟨rfl, ?_⟩
    exact letb rfl ⟨decide_eq_decide.2 (by omega), h⟩
  clear h
  rintro _ w' ⟨rfl, h⟩
  refine ⟨fun b w' => b = decide ((2 ≤ g.silence ∧ g.silence ≤ 4096) ∧ (1 ≤ g.keep ∧ g.keep ≤ 4096) ∧ g.keep < g.silence) ∧ St c w' (blk q 24 (cfg g) :: L), ?_, ?_⟩
  · refine h.rdI 9 ?_
    refine rwi_ok ?_
    (repeat (first | apply Exists.intro (α := Int) | apply Exists.intro (α := Bool) | apply Exists.intro (α := ByteArray) | (apply Exists.intro (α := Option Addr); apply Exists.intro (α := Nat); apply Exists.intro (α := Nat)) | apply Exists.intro (α := Option Addr) | apply Exists.intro (α := Value)))
    refine ⟨rfl, ?_⟩
    refine ifd (fun h0 => ?_) fun h0 => letb rfl ⟨(decide_eq_false (by omega)).symm, h⟩
    refine h.rdI 10 ?_
    refine rwi_ok ?_
    (repeat (first | apply Exists.intro (α := Int) | apply Exists.intro (α := Bool) | apply Exists.intro (α := ByteArray) | (apply Exists.intro (α := Option Addr); apply Exists.intro (α := Nat); apply Exists.intro (α := Nat)) | apply Exists.intro (α := Option Addr) | apply Exists.intro (α := Value)))
    refine ⟨rfl, ?_⟩
    refine ifd (fun h1 => ?_) fun h1 => letb rfl ⟨(decide_eq_false (by omega)).symm, h⟩
    refine h.rdI 10 ?_
    refine h.rdI 9 ?_
    exact letb rfl ⟨decide_eq_decide.2 (by omega), h⟩
  clear h
  rintro _ w' ⟨rfl, h⟩
  have un : CfgOk g ↔ ((0 ≤ g.ports ∧ g.ports ≤ 8) ∧ (0 ≤ g.half ∧ g.half ≤ 8) ∧ (0 ≤ g.conns ∧ g.conns ≤ 8) ∧ (1 ≤ g.flows ∧ g.flows ≤ 4) ∧ (0 ≤ g.addrs ∧ g.addrs ≤ 8) ∧ (1 ≤ g.paths ∧ g.paths ≤ 4)) ∧ ((1 ≤ g.buffer ∧ g.buffer ≤ 4096) ∧ (1 ≤ g.chunks ∧ g.chunks ≤ 64) ∧ (1 ≤ g.mss ∧ g.mss ≤ 1024)) ∧ ((2 ≤ g.silence ∧ g.silence ≤ 4096) ∧ (1 ≤ g.keep ∧ g.keep ≤ 4096) ∧ g.keep < g.silence) ∧ ((0 ≤ g.burst ∧ g.burst ≤ 4096) ∧ (0 ≤ g.rate ∧ g.rate ≤ 4096) ∧ (1 ≤ g.score ∧ g.score ≤ 4096) ∧ (1 ≤ g.policy ∧ g.policy ≤ 3)) := by unfold CfgOk CfgM CfgS CfgT CfgR; constructor <;> (intro; omega)
  refine ifd (fun a => ?_) fun a => letb rfl (f2 (fun k => a (un.1 k).1) h)
  refine ifd (fun b => ?_) fun b => letb rfl (f2 (fun k => b (un.1 k).2.1) h)
  refine ifd (fun d => ?_) fun d => letb rfl (f2 (fun k => d (un.1 k).2.2.1) h)
  refine h.rdI 11 ?_
  refine rwi_ok ?_
  (repeat (first | apply Exists.intro (α := Int) | apply Exists.intro (α := Bool) | apply Exists.intro (α := ByteArray) | (apply Exists.intro (α := Option Addr); apply Exists.intro (α := Nat); apply Exists.intro (α := Nat)) | apply Exists.intro (α := Option Addr) | apply Exists.intro (α := Value)))
  refine ⟨rfl, ?_⟩
  refine ifd (fun h0 => ?_) fun h0 => letb rfl (f2 (fun k => by have := (un.1 k).2.2.2; omega) h)
  refine h.rdI 12 ?_
  refine rwi_ok ?_
  (repeat (first | apply Exists.intro (α := Int) | apply Exists.intro (α := Bool) | apply Exists.intro (α := ByteArray) | (apply Exists.intro (α := Option Addr); apply Exists.intro (α := Nat); apply Exists.intro (α := Nat)) | apply Exists.intro (α := Option Addr) | apply Exists.intro (α := Value)))
  refine ⟨rfl, ?_⟩
  refine ifd (fun h1 => ?_) fun h1 => letb rfl (f2 (fun k => by have := (un.1 k).2.2.2; omega) h)
  refine h.rdI 13 ?_
  refine rwi_ok ?_
  (repeat (first | apply Exists.intro (α := Int) | apply Exists.intro (α := Bool) | apply Exists.intro (α := ByteArray) | (apply Exists.intro (α := Option Addr); apply Exists.intro (α := Nat); apply Exists.intro (α := Nat)) | apply Exists.intro (α := Option Addr) | apply Exists.intro (α := Value)))
  refine ⟨rfl, ?_⟩
  refine ifd (fun h2 => ?_) fun h2 => letb rfl (f2 (fun k => by have := (un.1 k).2.2.2; omega) h)
  refine h.rdI 14 ?_
  refine rwi_ok ?_
  (repeat (first | apply Exists.intro (α := Int) | apply Exists.intro (α := Bool) | apply Exists.intro (α := ByteArray) | (apply Exists.intro (α := Option Addr); apply Exists.intro (α := Nat); apply Exists.intro (α := Nat)) | apply Exists.intro (α := Option Addr) | apply Exists.intro (α := Value)))
  refine ⟨rfl, ?_⟩
  exact letb (decide_eq_decide.2 (by rw [un]; exact ⟨fun e => ⟨a, b, d, by omega⟩, fun k => by have := k.2.2.2; omega⟩)) (hk _ h.drop)
/-- A host's cells. -/
abbrev hcs (mal : Int) (g : Cfg) (k0 k1 n : Int) (pA : Option Addr) (pN pC r : Nat) : List Value := [.int .i64 0, .int .i64 0, .int .i64 0, .int .i64 0, .int .i64 0, .int .i64 0, .int .i64 mal, .int .i64 0, .int .i64 0, .int .i64 0, .int .i64 g.ports, .int .i64 g.half, .int .i64 g.conns, .int .i64 g.flows, .int .i64 g.buffer, .int .i64 g.chunks, .int .i64 g.addrs, .int .i64 g.paths, .int .i64 g.mss, .int .i64 g.silence, .int .i64 g.keep, .int .i64 g.burst, .int .i64 g.rate, .int .i64 g.score, .int .i64 g.policy, .int .u64 k0, .int .u64 k1, .int .u64 n, .slice pA pN pC, .map (some r), .int .i64 1, .slice none 0 0]
instance biHost (x0 x1 x2 x3 x4 x5 x6 x7 x8 x9 x10 x11 x12 x13 x14 : Int) (k0 k1 n : Int) (r : Nat) : Bld PG (Instr.build 66 #[(1, .agg #[.int .i64 x0, .int .i64 x1, .int .i64 x2, .int .i64 x3, .int .i64 x4, .int .i64 x5, .int .i64 x6, .int .i64 x7, .int .i64 x8, .int .i64 x9, .int .i64 x10, .int .i64 x11, .int .i64 x12, .int .i64 x13, .int .i64 x14]), (2, .agg #[.int .u64 k0, .int .u64 k1, .int .u64 n]), (4, .map (some r)), (5, .int .i64 1)]) (.agg (hcs 0 ⟨x0, x1, x2, x3, x4, x5, x6, x7, x8, x9, x10, x11, x12, x13, x14⟩ k0 k1 n none 0 0 r).toArray) := ⟨fun w => by kernel_rfl⟩
theorem hnew_ok (h : St c w L) (g : Cfg) {k0 k1 : Int} {Q : Value → World → Prop} (hbad : ¬ CfgOk g → ∀ w', St c w' L → Q (.tuple #[.pointer none, .int .i64 200]) w')
    (hok : CfgOk g → ∀ p r w', St c w' (blk p 66 (hcs 0 g k0 k1 0 none 0 0 r) :: mp r [] :: L) → Q (.tuple #[.pointer (some ⟨p, 0, none⟩), .int .i64 0]) w') : CALL PG 5 [cfgv g, .agg #[.int .u64 k0, .int .u64 k1]] w Q := by
  refine call5 ?_
  unfold N5
  refine h.box (vs := cfg g) fun q w' h => ?_
  refine h.box fun q2 w' h => ?_
  refine h.rdG ?_
  (repeat (first | apply Exists.intro (α := Int) | apply Exists.intro (α := Bool) | apply Exists.intro (α := ByteArray) | (apply Exists.intro (α := Option Addr); apply Exists.intro (α := Nat); apply Exists.intro (α := Nat)) | apply Exists.intro (α := Option Addr) | apply Exists.intro (α := Value)))
  refine ⟨rfl, ?_⟩
  refine right_ok h g fun w' h => ?_
  (repeat (first | apply Exists.intro (α := Int) | apply Exists.intro (α := Bool) | apply Exists.intro (α := ByteArray) | (apply Exists.intro (α := Option Addr); apply Exists.intro (α := Nat); apply Exists.intro (α := Nat)) | apply Exists.intro (α := Option Addr) | apply Exists.intro (α := Value)))
  refine ⟨rfl, ?_⟩
  refine leti rfl ?_
  refine ifn (fun e => ?_) fun e => ?_
  · have hb : ¬ CfgOk g := fun k => e (if_pos k)
    rw [if_neg hb]
    exact leti rfl (hbad hb _ h.drop.drop)
  have hb : CfgOk g := by
    by_cases k : CfgOk g
    · exact k
    · rw [if_neg k] at e
      cases e
  refine h.rdG ?_
  (repeat (first | apply Exists.intro (α := Int) | apply Exists.intro (α := Bool) | apply Exists.intro (α := ByteArray) | (apply Exists.intro (α := Option Addr); apply Exists.intro (α := Nat); apply Exists.intro (α := Nat)) | apply Exists.intro (α := Option Addr) | apply Exists.intro (α := Value)))
  refine ⟨rfl, ?_⟩
  refine h.rdG ?_
  (repeat (first | apply Exists.intro (α := Int) | apply Exists.intro (α := Bool) | apply Exists.intro (α := ByteArray) | (apply Exists.intro (α := Option Addr); apply Exists.intro (α := Nat); apply Exists.intro (α := Nat)) | apply Exists.intro (α := Option Addr) | apply Exists.intro (α := Value)))
  refine ⟨rfl, ?_⟩
  refine RD.bld ?_
  (repeat (first | apply Exists.intro (α := Int) | apply Exists.intro (α := Bool) | apply Exists.intro (α := ByteArray) | (apply Exists.intro (α := Option Addr); apply Exists.intro (α := Nat); apply Exists.intro (α := Nat)) | apply Exists.intro (α := Option Addr) | apply Exists.intro (α := Value)))
  refine ⟨rfl, ?_⟩
  refine h.mkmap fun r w' h => ⟨_, rfl, ?_⟩
  refine RD.bld ⟨_, rfl, ?_⟩
  refine h.box fun p w' h => ?_
  exact hok hb p r _ (h.sub (.cons .head (.cons .head (Sub.same _).more.more)))
end
end Go.Br

/- What the code of some functions says, as the core reads it; each reading is checked by the kernel. -/
set_option linter.unusedVariables false
set_option maxRecDepth 100000
namespace Go.Br
open Go Go.Proofs

/-- (*brougham/host.Host).Listen -/
def N6 (h : Option Addr) (atv : Int) (w : World) (Q : Value → World → Prop) : Prop :=
 CALL PG 17 [(.int .i64 atv)] w fun v w1 =>
 ∃ x7 : Bool, v = (.bool x7) ∧
 (LETB (!x7) fun x5 =>
 IFB x5
 (Q (.int .i64 (202 : Int)) w1)
 (CALL PG 18 [(.pointer h), (.int .i64 atv)] w1 fun v1 w2 =>
 ∃ x12 : Option Addr, v1 = (.pointer x12) ∧
 (LETB (!x12.isNone) fun x9 =>
 IFB x9
 (Q (.int .i64 (202 : Int)) w2)
 (NILC h fun a16 =>
 RDL PG (loadVar 64 (Addr.add a16 28)) (w2.drew) fun x18 x18N x18C =>
 NILC h fun a21 =>
 RDI PG (loadVar 3 (Addr.add (Addr.add a21 10) 0)) .i64 (w2.drew) fun x24 =>
 LETB (decide ((x18N : Int) ≥ x24)) fun x14 =>
 IFB x14
 (Q (.int .i64 (203 : Int)) (w2.drew))
 (NILC h fun a28 =>
 RDL PG (loadVar 64 (Addr.add a28 28)) (w2.drew) fun x30 x30N x30C =>
 RD PG (Instr.build 73 #[(0, (.int .i64 atv))]) (w2.drew) fun v2 =>
 ∃ x32 : Int, ∃ (x32v1 : Option Addr) (x32N x32C : Nat), ∃ (x32v2 : Option Addr) (x32N1 x32C1 : Nat), v2 = (.agg #[(.int .i64 x32), (.slice x32v1 x32N x32C), (.slice x32v2 x32N1 x32C1)]) ∧
 (RUNA PG (Instr.box 73 (.agg #[(.int .i64 x32), (.slice x32v1 x32N x32C), (.slice x32v2 x32N1 x32C1)])) (w2.drew) fun a33 w3 =>
 RUNL PG (Instr.buildSlice 64 1 #[(0, (.pointer (some a33)))]) w3 fun x34 x34N x34C w4 =>
 RUNL PG (Builtin.append_ #[64, 64] 64 #[(.slice x30 x30N x30C), (.slice x34 x34N x34C)]) w4 fun x35 x35N x35C w5 =>
 NILC h fun a36 =>
 RUNU PG (storeVar 64 (Addr.add a36 28) (.slice x35 x35N x35C)) w5 fun w6 =>
 Q (.int .i64 (0 : Int)) w6))))))
theorem eq6 : ∀ (h : Option Addr) (atv : Int) (w : World) (Q : Value → World → Prop), vcF PG TB Tryz.f6 .nil [(.pointer h), (.int .i64 atv)] w Q = N6 h atv w Q := by intros; kernel_rfl
theorem call6 {h : Option Addr} {atv : Int} {w : World} {Q : Value → World → Prop} (hN : N6 h atv w Q) : CALL PG 6 [(.pointer h), (.int .i64 atv)] w Q := calls_vc tabOk Tryz.func6 (by rw [eq6]; exact hN)

/-- (*brougham/host.Host).Deliver -/
def N9 (h : Option Addr) (path : Int) (b : Option Addr) (bN bC : Nat) (w : World) (Q : Value → World → Prop) : Prop :=
 CALL PG 22 [(.slice b bN bC)] w fun v w1 =>
 ∃ x19 : Int, ∃ x19v1 : Int, ∃ x19v2 : Int, ∃ x19v3 : Int, ∃ x19v4 : Int, ∃ (x19v5 : Option Addr) (x19N x19C : Nat), ∃ (x19v6 : Option Addr) (x19N1 x19C1 : Nat), ∃ x19v7 : Int, v = (.tuple #[(.agg #[(.int .u16 x19), (.int .u16 x19v1), (.int .u32 x19v2), (.int .u32 x19v3), (.int .u8 x19v4), (.slice x19v5 x19N x19C), (.slice x19v6 x19N1 x19C1)]), (.int .i64 x19v7)]) ∧
 (RUNA PG (Instr.alloc 44 true (.tuple #[])) w1 fun a6 w2 =>
 RUNU PG (storeVar 44 a6 (.agg #[(.int .u16 x19), (.int .u16 x19v1), (.int .u32 x19v2), (.int .u32 x19v3), (.int .u8 x19v4), (.slice x19v5 x19N x19C), (.slice x19v6 x19N1 x19C1)])) w2 fun w3 =>
 LETI x19v7 fun e =>
 IFB (e != (0 : Int))
 (NILC h fun a25 =>
 RDI PG (loadVar 3 (Addr.add (Addr.add a25 0) 6)) .i64 w3 fun x28 =>
 NILC h fun a30 =>
 RUNU PG (storeVar 3 (Addr.add (Addr.add a30 0) 6) (.int .i64 (IntKind.i64.wrap (x28 + (1 : Int))))) w3 fun w4 =>
 Q (.tuple #[]) w4)
 (RDI PG (loadVar 36 (Addr.add a6 1)) .u16 w3 fun x35 =>
 RDI PG (loadVar 36 (Addr.add a6 0)) .u16 w3 fun x37 =>
 RD PG (Instr.build 80 #[(0, (.int .i64 path)), (1, (.int .u16 x35)), (2, (.int .u16 x37))]) w3 fun v1 =>
 ∃ x38 : Int, ∃ x38v1 : Int, ∃ x38v2 : Int, v1 = (.agg #[(.int .i64 x38), (.int .u16 x38v1), (.int .u16 x38v2)]) ∧
 (RUNA PG (Instr.alloc 80 true (.tuple #[])) w3 fun a8 w5 =>
 RUNU PG (storeVar 80 a8 (.agg #[(.int .i64 x38), (.int .u16 x38v1), (.int .u16 x38v2)])) w5 fun w6 =>
 RD PG (loadVar 80 a8) w6 fun v2 =>
 ∃ x41 : Int, ∃ x41v1 : Int, ∃ x41v2 : Int, v2 = (.agg #[(.int .i64 x41), (.int .u16 x41v1), (.int .u16 x41v2)]) ∧
 (CALL PG 23 [(.pointer h), (.agg #[(.int .i64 x41), (.int .u16 x41v1), (.int .u16 x41v2)])] w6 fun v3 w7 =>
 ∃ x42 : Option Addr, ∃ x42v1 : Option Addr, v3 = (.tuple #[(.pointer x42), (.pointer x42v1)]) ∧
 (IFB (!x42.isNone)
 (RD PG (loadVar 44 a6) w7 fun v4 =>
 ∃ x50 : Int, ∃ x50v1 : Int, ∃ x50v2 : Int, ∃ x50v3 : Int, ∃ x50v4 : Int, ∃ (x50v5 : Option Addr) (x50N x50C : Nat), ∃ (x50v6 : Option Addr) (x50N1 x50C1 : Nat), v4 = (.agg #[(.int .u16 x50), (.int .u16 x50v1), (.int .u32 x50v2), (.int .u32 x50v3), (.int .u8 x50v4), (.slice x50v5 x50N x50C), (.slice x50v6 x50N1 x50C1)]) ∧
 (CALL PG 25 [(.pointer x42), (.pointer x42v1), (.agg #[(.int .u16 x50), (.int .u16 x50v1), (.int .u32 x50v2), (.int .u32 x50v3), (.int .u8 x50v4), (.slice x50v5 x50N x50C), (.slice x50v6 x50N1 x50C1)])] w7 fun v5 w8 =>
 ∃ x51 : Int, v5 = (.int .i64 x51) ∧
 (CALL PG 24 [(.pointer h), (.int .i64 x51)] w8 fun v6 w9 =>
 v6 = (.tuple #[]) ∧
 (CALL PG 26 [(.pointer h), (.pointer x42)] w9 fun v7 w10 =>
 v7 = (.tuple #[]) ∧
 (RDI PG (loadVar 36 (Addr.add a6 1)) .u16 w10 fun x58 =>
 CALL PG 27 [(.pointer h), (.int .i64 (IntKind.i64.wrap x58)), (.pointer x42)] w10 fun v8 w11 =>
 v8 = (.tuple #[]) ∧
 (Q (.tuple #[]) w11))))))
 (IFB (decide (path < (0 : Int)))
 (NILC h fun a79 =>
 RDI PG (loadVar 3 (Addr.add (Addr.add a79 0) 7)) .i64 w7 fun x82 =>
 NILC h fun a84 =>
 RUNU PG (storeVar 3 (Addr.add (Addr.add a84 0) 7) (.int .i64 (IntKind.i64.wrap (x82 + (1 : Int))))) w7 fun w12 =>
 Q (.tuple #[]) w12)
 (NILC h fun a67 =>
 RDI PG (loadVar 3 (Addr.add (Addr.add a67 10) 7)) .i64 w7 fun x70 =>
 IFB (decide (path ≥ x70))
 (NILC h fun a79v1 =>
 RDI PG (loadVar 3 (Addr.add (Addr.add a79v1 0) 7)) .i64 w7 fun x82v1 =>
 NILC h fun a84v1 =>
 RUNU PG (storeVar 3 (Addr.add (Addr.add a84v1 0) 7) (.int .i64 (IntKind.i64.wrap (x82v1 + (1 : Int))))) w7 fun w13 =>
 Q (.tuple #[]) w13)
 (RDI PG (loadVar 5 (Addr.add a6 4)) .u8 w7 fun x75 =>
 IFB (x75 != (1 : Int))
 (NILC h fun a79v2 =>
 RDI PG (loadVar 3 (Addr.add (Addr.add a79v2 0) 7)) .i64 w7 fun x82v2 =>
 NILC h fun a84v2 =>
 RUNU PG (storeVar 3 (Addr.add (Addr.add a84v2 0) 7) (.int .i64 (IntKind.i64.wrap (x82v2 + (1 : Int))))) w7 fun w14 =>
 Q (.tuple #[]) w14)
 (RD PG (loadVar 44 a6) w7 fun v9 =>
 ∃ x88 : Int, ∃ x88v1 : Int, ∃ x88v2 : Int, ∃ x88v3 : Int, ∃ x88v4 : Int, ∃ (x88v5 : Option Addr) (x88N x88C : Nat), ∃ (x88v6 : Option Addr) (x88N1 x88C1 : Nat), v9 = (.agg #[(.int .u16 x88), (.int .u16 x88v1), (.int .u32 x88v2), (.int .u32 x88v3), (.int .u8 x88v4), (.slice x88v5 x88N x88C), (.slice x88v6 x88N1 x88C1)]) ∧
 (CALL PG 28 [(.agg #[(.int .u16 x88), (.int .u16 x88v1), (.int .u32 x88v2), (.int .u32 x88v3), (.int .u8 x88v4), (.slice x88v5 x88N x88C), (.slice x88v6 x88N1 x88C1)]), (.int .u8 (1 : Int))] w7 fun v10 w15 =>
 ∃ x89 : Int, ∃ (x89v1 : Option Addr) (x89N x89C : Nat), ∃ x89v2 : Bool, v10 = (.tuple #[(.agg #[(.int .u8 x89), (.slice x89v1 x89N x89C)]), (.bool x89v2)]) ∧
 (RUNA PG (Instr.alloc 41 true (.tuple #[])) w15 fun a11 w16 =>
 RUNU PG (storeVar 41 a11 (.agg #[(.int .u8 x89), (.slice x89v1 x89N x89C)])) w16 fun w17 =>
 LETB x89v2 fun okv =>
 IFB okv
 (RD PG (loadVar 80 a8) w17 fun v11 =>
 ∃ x94 : Int, ∃ x94v1 : Int, ∃ x94v2 : Int, v11 = (.agg #[(.int .i64 x94), (.int .u16 x94v1), (.int .u16 x94v2)]) ∧
 (RD PG (loadVar 44 a6) w17 fun v12 =>
 ∃ x95 : Int, ∃ x95v1 : Int, ∃ x95v2 : Int, ∃ x95v3 : Int, ∃ x95v4 : Int, ∃ (x95v5 : Option Addr) (x95N x95C : Nat), ∃ (x95v6 : Option Addr) (x95N1 x95C1 : Nat), v12 = (.agg #[(.int .u16 x95), (.int .u16 x95v1), (.int .u32 x95v2), (.int .u32 x95v3), (.int .u8 x95v4), (.slice x95v5 x95N x95C), (.slice x95v6 x95N1 x95C1)]) ∧
 (RD PG (loadVar 41 a11) w17 fun v13 =>
 ∃ x96 : Int, ∃ (x96v1 : Option Addr) (x96N x96C : Nat), v13 = (.agg #[(.int .u8 x96), (.slice x96v1 x96N x96C)]) ∧
 (CALL PG 29 [(.pointer h), (.agg #[(.int .i64 x94), (.int .u16 x94v1), (.int .u16 x94v2)]), (.agg #[(.int .u16 x95), (.int .u16 x95v1), (.int .u32 x95v2), (.int .u32 x95v3), (.int .u8 x95v4), (.slice x95v5 x95N x95C), (.slice x95v6 x95N1 x95C1)]), (.agg #[(.int .u8 x96), (.slice x96v1 x96N x96C)])] w17 fun v14 w18 =>
 v14 = (.tuple #[]) ∧
 (Q (.tuple #[]) w18)))))
 (RD PG (loadVar 44 a6) w17 fun v15 =>
 ∃ x99 : Int, ∃ x99v1 : Int, ∃ x99v2 : Int, ∃ x99v3 : Int, ∃ x99v4 : Int, ∃ (x99v5 : Option Addr) (x99N x99C : Nat), ∃ (x99v6 : Option Addr) (x99N1 x99C1 : Nat), v15 = (.agg #[(.int .u16 x99), (.int .u16 x99v1), (.int .u32 x99v2), (.int .u32 x99v3), (.int .u8 x99v4), (.slice x99v5 x99N x99C), (.slice x99v6 x99N1 x99C1)]) ∧
 (CALL PG 28 [(.agg #[(.int .u16 x99), (.int .u16 x99v1), (.int .u32 x99v2), (.int .u32 x99v3), (.int .u8 x99v4), (.slice x99v5 x99N x99C), (.slice x99v6 x99N1 x99C1)]), (.int .u8 (2 : Int))] w17 fun v16 w19 =>
 ∃ x100 : Int, ∃ (x100v1 : Option Addr) (x100N x100C : Nat), ∃ x100v2 : Bool, v16 = (.tuple #[(.agg #[(.int .u8 x100), (.slice x100v1 x100N x100C)]), (.bool x100v2)]) ∧
 (RUNA PG (Instr.alloc 41 true (.tuple #[])) w19 fun a13 w20 =>
 RUNU PG (storeVar 41 a13 (.agg #[(.int .u8 x100), (.slice x100v1 x100N x100C)])) w20 fun w21 =>
 LETB x100v2 fun okv1 =>
 RD PG (loadVar 41 a13) w21 fun v17 =>
 ∃ x104 : Int, ∃ (x104v1 : Option Addr) (x104N x104C : Nat), v17 = (.agg #[(.int .u8 x104), (.slice x104v1 x104N x104C)]) ∧
 (CALL PG 30 [(.agg #[(.int .u8 x104), (.slice x104v1 x104N x104C)])] w21 fun v18 w22 =>
 ∃ x105 : Int, ∃ x105v1 : Int, ∃ x105v2 : Int, ∃ x105v3 : Bool, ∃ x105v4 : Bool, ∃ x105v5 : Int, ∃ x105v6 : Bool, v18 = (.tuple #[(.agg #[(.int .u32 x105), (.int .u32 x105v1), (.int .u8 x105v2), (.bool x105v3), (.bool x105v4), (.int .u64 x105v5)]), (.bool x105v6)]) ∧
 (RUNA PG (Instr.alloc 96 true (.tuple #[])) w22 fun a15 w23 =>
 RUNU PG (storeVar 96 a15 (.agg #[(.int .u32 x105), (.int .u32 x105v1), (.int .u8 x105v2), (.bool x105v3), (.bool x105v4), (.int .u64 x105v5)])) w23 fun w24 =>
 LETB x105v6 fun isv =>
 IFB (!okv1)
 (NILC h fun a119 =>
 RDI PG (loadVar 3 (Addr.add (Addr.add a119 0) 7)) .i64 w24 fun x122 =>
 NILC h fun a124 =>
 RUNU PG (storeVar 3 (Addr.add (Addr.add a124 0) 7) (.int .i64 (IntKind.i64.wrap (x122 + (1 : Int))))) w24 fun w25 =>
 Q (.tuple #[]) w25)
 (IFB (!isv)
 (NILC h fun a119v1 =>
 RDI PG (loadVar 3 (Addr.add (Addr.add a119v1 0) 7)) .i64 w24 fun x122v1 =>
 NILC h fun a124v1 =>
 RUNU PG (storeVar 3 (Addr.add (Addr.add a124v1 0) 7) (.int .i64 (IntKind.i64.wrap (x122v1 + (1 : Int))))) w24 fun w26 =>
 Q (.tuple #[]) w26)
 (RDB PG (loadVar 4 (Addr.add a15 4)) w24 fun x116 =>
 IFB x116
 (NILC h fun a119v2 =>
 RDI PG (loadVar 3 (Addr.add (Addr.add a119v2 0) 7)) .i64 w24 fun x122v2 =>
 NILC h fun a124v2 =>
 RUNU PG (storeVar 3 (Addr.add (Addr.add a124v2 0) 7) (.int .i64 (IntKind.i64.wrap (x122v2 + (1 : Int))))) w24 fun w27 =>
 Q (.tuple #[]) w27)
 (RD PG (loadVar 80 a8) w24 fun v19 =>
 ∃ x128 : Int, ∃ x128v1 : Int, ∃ x128v2 : Int, v19 = (.agg #[(.int .i64 x128), (.int .u16 x128v1), (.int .u16 x128v2)]) ∧
 (RD PG (loadVar 44 a6) w24 fun v20 =>
 ∃ x129 : Int, ∃ x129v1 : Int, ∃ x129v2 : Int, ∃ x129v3 : Int, ∃ x129v4 : Int, ∃ (x129v5 : Option Addr) (x129N x129C : Nat), ∃ (x129v6 : Option Addr) (x129N1 x129C1 : Nat), v20 = (.agg #[(.int .u16 x129), (.int .u16 x129v1), (.int .u32 x129v2), (.int .u32 x129v3), (.int .u8 x129v4), (.slice x129v5 x129N x129C), (.slice x129v6 x129N1 x129C1)]) ∧
 (RD PG (loadVar 96 a15) w24 fun v21 =>
 ∃ x130 : Int, ∃ x130v1 : Int, ∃ x130v2 : Int, ∃ x130v3 : Bool, ∃ x130v4 : Bool, ∃ x130v5 : Int, v21 = (.agg #[(.int .u32 x130), (.int .u32 x130v1), (.int .u8 x130v2), (.bool x130v3), (.bool x130v4), (.int .u64 x130v5)]) ∧
 (CALL PG 31 [(.pointer h), (.agg #[(.int .i64 x128), (.int .u16 x128v1), (.int .u16 x128v2)]), (.agg #[(.int .u16 x129), (.int .u16 x129v1), (.int .u32 x129v2), (.int .u32 x129v3), (.int .u8 x129v4), (.slice x129v5 x129N x129C), (.slice x129v6 x129N1 x129C1)]), (.agg #[(.int .u32 x130), (.int .u32 x130v1), (.int .u8 x130v2), (.bool x130v3), (.bool x130v4), (.int .u64 x130v5)])] w24 fun v22 w28 =>
 v22 = (.tuple #[]) ∧
 (Q (.tuple #[]) w28)))))))))))))))))))))))
theorem eq9 : ∀ (h : Option Addr) (path : Int) (b : Option Addr) (bN bC : Nat) (w : World) (Q : Value → World → Prop), vcF PG TB Tryz.f9 .nil [(.pointer h), (.int .i64 path), (.slice b bN bC)] w Q = N9 h path b bN bC w Q := by intros; kernel_rfl
theorem call9 {h : Option Addr} {path : Int} {b : Option Addr} {bN bC : Nat} {w : World} {Q : Value → World → Prop} (hN : N9 h path b bN bC w Q) : CALL PG 9 [(.pointer h), (.int .i64 path), (.slice b bN bC)] w Q := calls_vc tabOk Tryz.func9 (by rw [eq9]; exact hN)

/-- brougham/broughamlaw23.alive -/
def N14  (w : World) (Q : Value → World → Prop) : Prop :=
 CALL PG 34 [] w fun v w1 =>
 ∃ x10 : Int, ∃ x10v1 : Int, ∃ x10v2 : Int, ∃ x10v3 : Int, ∃ x10v4 : Int, ∃ x10v5 : Int, ∃ x10v6 : Int, ∃ x10v7 : Int, ∃ x10v8 : Int, ∃ x10v9 : Int, ∃ x10v10 : Int, ∃ x10v11 : Int, ∃ x10v12 : Int, ∃ x10v13 : Int, ∃ x10v14 : Int, v = (.agg #[(.int .i64 x10), (.int .i64 x10v1), (.int .i64 x10v2), (.int .i64 x10v3), (.int .i64 x10v4), (.int .i64 x10v5), (.int .i64 x10v6), (.int .i64 x10v7), (.int .i64 x10v8), (.int .i64 x10v9), (.int .i64 x10v10), (.int .i64 x10v11), (.int .i64 x10v12), (.int .i64 x10v13), (.int .i64 x10v14)]) ∧
 (RD PG (Instr.build 27 #[(0, (.int .u64 (1 : Int)))]) w1 fun v1 =>
 ∃ x11 : Int, ∃ x11v1 : Int, v1 = (.agg #[(.int .u64 x11), (.int .u64 x11v1)]) ∧
 (CALL PG 5 [(.agg #[(.int .i64 x10), (.int .i64 x10v1), (.int .i64 x10v2), (.int .i64 x10v3), (.int .i64 x10v4), (.int .i64 x10v5), (.int .i64 x10v6), (.int .i64 x10v7), (.int .i64 x10v8), (.int .i64 x10v9), (.int .i64 x10v10), (.int .i64 x10v11), (.int .i64 x10v12), (.int .i64 x10v13), (.int .i64 x10v14)]), (.agg #[(.int .u64 x11), (.int .u64 x11v1)])] w1 fun v2 w2 =>
 ∃ x12 : Option Addr, ∃ x12v1 : Int, v2 = (.tuple #[(.pointer x12), (.int .i64 x12v1)]) ∧
 (LETI x12v1 fun e =>
 IFB (e != (0 : Int))
 (Q (.bool false) w2)
 (IFB (x12.isNone)
 (Q (.bool false) w2)
 (CALL PG 6 [(.pointer x12), (.int .i64 (80 : Int))] w2 fun v3 w3 =>
 ∃ x22 : Int, v3 = (.int .i64 x22) ∧
 (CALL PG 6 [(.pointer x12), (.int .i64 (80 : Int))] w3 fun v4 w4 =>
 ∃ x24 : Int, v4 = (.int .i64 x24) ∧
 (LETI x22 fun a =>
 LETI x24 fun b =>
 CALL PG 35 [(.pointer x12), (.int .i64 (80 : Int))] w4 fun v5 w5 =>
 ∃ x27 : Int, ∃ x27v1 : Int, v5 = (.tuple #[(.int .i64 x27), (.int .i64 x27v1)]) ∧
 (LETI x27 fun x =>
 LETI x27v1 fun c =>
 CALL PG 36 [(.pointer x12), (.int .i64 (80 : Int)), (.int .i64 (5 : Int)), (.int .i64 (0 : Int))] w5 fun v6 w6 =>
 ∃ x32 : Int, ∃ x32v1 : Int, v6 = (.tuple #[(.int .i64 x32), (.int .i64 x32v1)]) ∧
 (LETI x32 fun x1 =>
 LETI x32v1 fun d =>
 CALL PG 9 [(.pointer x12), (.int .i64 (0 : Int)), (.slice none 0 0)] w6 fun v7 w7 =>
 v7 = (.tuple #[]) ∧
 (IFB (a == (0 : Int))
 (IFB (b == (202 : Int))
 (IFB (c == (210 : Int))
 (IFB (d == (202 : Int))
 (NILC x12 fun a53 =>
 RDI PG (loadVar 3 (Addr.add (Addr.add a53 0) 6)) .i64 w7 fun x56 =>
 LETB (x56 == (1 : Int)) fun x0 =>
 Q (.bool x0) w7)
 (LETB false fun x0v1 =>
 Q (.bool x0v1) w7))
 (LETB false fun x0v2 =>
 Q (.bool x0v2) w7))
 (LETB false fun x0v3 =>
 Q (.bool x0v3) w7))
 (LETB false fun x0v4 =>
 Q (.bool x0v4) w7)))))))))))
theorem eq14 : ∀  (w : World) (Q : Value → World → Prop), vcF PG TB Tryz.f14 .nil [] w Q = N14  w Q := by intros; kernel_rfl
theorem call14  {w : World} {Q : Value → World → Prop} (hN : N14  w Q) : CALL PG 14 [] w Q := calls_vc tabOk Tryz.func14 (by rw [eq14]; exact hN)

/-- brougham/host.good -/
def N17 (atv : Int) (w : World) (Q : Value → World → Prop) : Prop :=
 IFB (decide (atv ≥ (1 : Int)))
 (LETB (decide (atv ≤ (65535 : Int))) fun x2 =>
 Q (.bool x2) w)
 (LETB false fun x2v1 =>
 Q (.bool x2v1) w)
theorem eq17 : ∀ (atv : Int) (w : World) (Q : Value → World → Prop), vcF PG TB Tryz.f17 .nil [(.int .i64 atv)] w Q = N17 atv w Q := by intros; kernel_rfl
theorem call17 {atv : Int} {w : World} {Q : Value → World → Prop} (hN : N17 atv w Q) : CALL PG 17 [(.int .i64 atv)] w Q := calls_vc tabOk Tryz.func17 (by rw [eq17]; exact hN)

/-- (*brougham/host.Host).listener -/
def N18 (h : Option Addr) (atv : Int) (w : World) (Q : Value → World → Prop) : Prop :=
 NILC h fun a8 =>
 RDL PG (loadVar 64 (Addr.add a8 28)) w fun x10 x10N x10C =>
 ∃ I : Nat → Int → World → Prop,
 (∃ m, I m (0 : Int) w) ∧
 (∀ m1 (x12 : Int) (w1 : World), I m1 x12 w1 → (IFB (decide (x12 < (x10N : Int)))
 (IDX x10 x10N x12 fun a14 =>
 RDP PG (loadVar 68 (Addr.add a14 (Int.toNat x12 * 1))) w1 fun x15 =>
 NILC x15 fun a17 =>
 RDI PG (loadVar 3 (Addr.add a17 0)) .i64 w1 fun x19 =>
 IFB (x19 == atv)
 (Q (.pointer x15) w1)
 (∃ m2, m2 < m1 ∧ I m2 (IntKind.i64.wrap (x12 + (1 : Int))) w1))
 (Q (.pointer none) w1)))
theorem eq18 : ∀ (h : Option Addr) (atv : Int) (w : World) (Q : Value → World → Prop), vcF PG TB Tryz.f18 (.s .nil (.s (.s .nil (.u (.loop [(12, 3)] .nil))) .nil)) [(.pointer h), (.int .i64 atv)] w Q = N18 h atv w Q := by intros; kernel_rfl
theorem call18 {h : Option Addr} {atv : Int} {w : World} {Q : Value → World → Prop} (hN : N18 h atv w Q) : CALL PG 18 [(.pointer h), (.int .i64 atv)] w Q := calls_vc tabOk Tryz.func18 (by rw [eq18]; exact hN)

/-- brougham/seg.Parse -/
def N22 (b : Option Addr) (bN bC : Nat) (w : World) (Q : Value → World → Prop) : Prop :=
 RUNA PG (Instr.alloc 44 true (.tuple #[])) w fun a2 w1 =>
 RUNL PG (Instr.buildSlice 71 6 #[(0, (.int .i64 (2 : Int))), (1, (.int .i64 (2 : Int))), (2, (.int .i64 (4 : Int))), (3, (.int .i64 (4 : Int))), (4, (.int .i64 (1 : Int))), (5, (.int .i64 (1 : Int)))]) w1 fun x12 x12N x12C w2 =>
 CALL PG 38 [(.slice b bN bC), (.slice x12 x12N x12C)] w2 fun v w3 =>
 ∃ (x13 : Option Addr) (x13N x13C : Nat), ∃ (x13v1 : Option Addr) (x13N1 x13C1 : Nat), ∃ x13v2 : Bool, v = (.tuple #[(.slice x13 x13N x13C), (.slice x13v1 x13N1 x13C1), (.bool x13v2)]) ∧
 (LETB x13v2 fun okv =>
 IFB (!okv)
 (RD PG (Instr.build 44 #[]) w3 fun v1 =>
 ∃ x25 : Int, ∃ x25v1 : Int, ∃ x25v2 : Int, ∃ x25v3 : Int, ∃ x25v4 : Int, ∃ (x25v5 : Option Addr) (x25N x25C : Nat), ∃ (x25v6 : Option Addr) (x25N1 x25C1 : Nat), v1 = (.agg #[(.int .u16 x25), (.int .u16 x25v1), (.int .u32 x25v2), (.int .u32 x25v3), (.int .u8 x25v4), (.slice x25v5 x25N x25C), (.slice x25v6 x25N1 x25C1)]) ∧
 (RUNU PG (storeVar 44 a2 (.agg #[(.int .u16 x25), (.int .u16 x25v1), (.int .u32 x25v2), (.int .u32 x25v3), (.int .u8 x25v4), (.slice x25v5 x25N x25C), (.slice x25v6 x25N1 x25C1)])) w3 fun w4 =>
 RD PG (loadVar 44 a2) w4 fun v3 =>
 ∃ r : Int, ∃ r1 : Int, ∃ r2 : Int, ∃ r3 : Int, ∃ r4 : Int, ∃ (r5 : Option Addr) (rN rC : Nat), ∃ (r6 : Option Addr) (rN1 rC1 : Nat), v3 = (.agg #[(.int .u16 r), (.int .u16 r1), (.int .u32 r2), (.int .u32 r3), (.int .u8 r4), (.slice r5 rN rC), (.slice r6 rN1 rC1)]) ∧
 (Q (.tuple #[(.agg #[(.int .u16 r), (.int .u16 r1), (.int .u32 r2), (.int .u32 r3), (.int .u8 r4), (.slice r5 rN rC), (.slice r6 rN1 rC1)]), (.int .i64 (70 : Int))]) w4)))
 (IDX x13 x13N (4 : Int) fun a21 =>
 RDI PG (loadVar 25 (Addr.add a21 (Int.toNat (4 : Int) * 1))) .u64 w3 fun x22 =>
 IFB (decide (x22 > (7 : Int)))
 (RD PG (Instr.build 44 #[]) w3 fun v4 =>
 ∃ x25v7 : Int, ∃ x25v8 : Int, ∃ x25v9 : Int, ∃ x25v10 : Int, ∃ x25v11 : Int, ∃ (x25v12 : Option Addr) (x25N2 x25C2 : Nat), ∃ (x25v13 : Option Addr) (x25N3 x25C3 : Nat), v4 = (.agg #[(.int .u16 x25v7), (.int .u16 x25v8), (.int .u32 x25v9), (.int .u32 x25v10), (.int .u8 x25v11), (.slice x25v12 x25N2 x25C2), (.slice x25v13 x25N3 x25C3)]) ∧
 (RUNU PG (storeVar 44 a2 (.agg #[(.int .u16 x25v7), (.int .u16 x25v8), (.int .u32 x25v9), (.int .u32 x25v10), (.int .u8 x25v11), (.slice x25v12 x25N2 x25C2), (.slice x25v13 x25N3 x25C3)])) w3 fun w5 =>
 RD PG (loadVar 44 a2) w5 fun v6 =>
 ∃ r7 : Int, ∃ r8 : Int, ∃ r9 : Int, ∃ r10 : Int, ∃ r11 : Int, ∃ (r12 : Option Addr) (rN2 rC2 : Nat), ∃ (r13 : Option Addr) (rN3 rC3 : Nat), v6 = (.agg #[(.int .u16 r7), (.int .u16 r8), (.int .u32 r9), (.int .u32 r10), (.int .u8 r11), (.slice r12 rN2 rC2), (.slice r13 rN3 rC3)]) ∧
 (Q (.tuple #[(.agg #[(.int .u16 r7), (.int .u16 r8), (.int .u32 r9), (.int .u32 r10), (.int .u8 r11), (.slice r12 rN2 rC2), (.slice r13 rN3 rC3)]), (.int .i64 (70 : Int))]) w5)))
 (∃ S : World → Prop, S (w3.drew) ∧
 (IDX x13 x13N (0 : Int) fun a27 =>
 RDSI PG (loadVar 25 (Addr.add a27 (Int.toNat (0 : Int) * 1))) .u64 S fun x28 =>
 IDX x13 x13N (1 : Int) fun a31 =>
 RDSI PG (loadVar 25 (Addr.add a31 (Int.toNat (1 : Int) * 1))) .u64 S fun x32 =>
 IDX x13 x13N (2 : Int) fun a35 =>
 RDSI PG (loadVar 25 (Addr.add a35 (Int.toNat (2 : Int) * 1))) .u64 S fun x36 =>
 IDX x13 x13N (3 : Int) fun a39 =>
 RDSI PG (loadVar 25 (Addr.add a39 (Int.toNat (3 : Int) * 1))) .u64 S fun x40 =>
 IDX x13 x13N (4 : Int) fun a43 =>
 RDSI PG (loadVar 25 (Addr.add a43 (Int.toNat (4 : Int) * 1))) .u64 S fun x44 =>
 RDS PG (Instr.build 44 #[(0, (.int .u16 (IntKind.u16.wrap x28))), (1, (.int .u16 (IntKind.u16.wrap x32))), (2, (.int .u32 (IntKind.u32.wrap x36))), (3, (.int .u32 (IntKind.u32.wrap x40))), (4, (.int .u8 (IntKind.u8.wrap x44)))]) S fun v7 =>
 ∃ x46 : Int, ∃ x46v1 : Int, ∃ x46v2 : Int, ∃ x46v3 : Int, ∃ x46v4 : Int, ∃ (x46v5 : Option Addr) (x46N x46C : Nat), ∃ (x46v6 : Option Addr) (x46N1 x46C1 : Nat), v7 = (.agg #[(.int .u16 x46), (.int .u16 x46v1), (.int .u32 x46v2), (.int .u32 x46v3), (.int .u8 x46v4), (.slice x46v5 x46N x46C), (.slice x46v6 x46N1 x46C1)]) ∧
 (RUNA PG (Instr.alloc 44 true (.tuple #[])) (w3.drew) fun a7 w6 =>
 ∃ S1 : World → Prop, (∀ x, S1 x → S x) ∧ S1 w6 ∧
 (RUNU PG (storeVar 44 a7 (.agg #[(.int .u16 x46), (.int .u16 x46v1), (.int .u32 x46v2), (.int .u32 x46v3), (.int .u8 x46v4), (.slice x46v5 x46N x46C), (.slice x46v6 x46N1 x46C1)])) w6 fun w7 =>
 IDX x13 x13N (5 : Int) fun a48 =>
 RDI PG (loadVar 25 (Addr.add a48 (Int.toNat (5 : Int) * 1))) .u64 w7 fun x49 =>
 LETI (IntKind.i64.wrap x49) fun n =>
 IFB (decide (n > (200 : Int)))
 (RD PG (Instr.build 44 #[]) w7 fun v8 =>
 ∃ x59 : Int, ∃ x59v1 : Int, ∃ x59v2 : Int, ∃ x59v3 : Int, ∃ x59v4 : Int, ∃ (x59v5 : Option Addr) (x59N x59C : Nat), ∃ (x59v6 : Option Addr) (x59N1 x59C1 : Nat), v8 = (.agg #[(.int .u16 x59), (.int .u16 x59v1), (.int .u32 x59v2), (.int .u32 x59v3), (.int .u8 x59v4), (.slice x59v5 x59N x59C), (.slice x59v6 x59N1 x59C1)]) ∧
 (RUNU PG (storeVar 44 a2 (.agg #[(.int .u16 x59), (.int .u16 x59v1), (.int .u32 x59v2), (.int .u32 x59v3), (.int .u8 x59v4), (.slice x59v5 x59N x59C), (.slice x59v6 x59N1 x59C1)])) w7 fun w8 =>
 RD PG (loadVar 44 a2) w8 fun v10 =>
 ∃ r14 : Int, ∃ r15 : Int, ∃ r16 : Int, ∃ r17 : Int, ∃ r18 : Int, ∃ (r19 : Option Addr) (rN4 rC4 : Nat), ∃ (r20 : Option Addr) (rN5 rC5 : Nat), v10 = (.agg #[(.int .u16 r14), (.int .u16 r15), (.int .u32 r16), (.int .u32 r17), (.int .u8 r18), (.slice r19 rN4 rC4), (.slice r20 rN5 rC5)]) ∧
 (Q (.tuple #[(.agg #[(.int .u16 r14), (.int .u16 r15), (.int .u32 r16), (.int .u32 r17), (.int .u8 r18), (.slice r19 rN4 rC4), (.slice r20 rN5 rC5)]), (.int .i64 (71 : Int))]) w8)))
 (IFB (decide (n > (x13N1 : Int)))
 (RD PG (Instr.build 44 #[]) w7 fun v11 =>
 ∃ x59v7 : Int, ∃ x59v8 : Int, ∃ x59v9 : Int, ∃ x59v10 : Int, ∃ x59v11 : Int, ∃ (x59v12 : Option Addr) (x59N2 x59C2 : Nat), ∃ (x59v13 : Option Addr) (x59N3 x59C3 : Nat), v11 = (.agg #[(.int .u16 x59v7), (.int .u16 x59v8), (.int .u32 x59v9), (.int .u32 x59v10), (.int .u8 x59v11), (.slice x59v12 x59N2 x59C2), (.slice x59v13 x59N3 x59C3)]) ∧
 (RUNU PG (storeVar 44 a2 (.agg #[(.int .u16 x59v7), (.int .u16 x59v8), (.int .u32 x59v9), (.int .u32 x59v10), (.int .u8 x59v11), (.slice x59v12 x59N2 x59C2), (.slice x59v13 x59N3 x59C3)])) w7 fun w9 =>
 RD PG (loadVar 44 a2) w9 fun v13 =>
 ∃ r21 : Int, ∃ r22 : Int, ∃ r23 : Int, ∃ r24 : Int, ∃ r25 : Int, ∃ (r26 : Option Addr) (rN6 rC6 : Nat), ∃ (r27 : Option Addr) (rN7 rC7 : Nat), v13 = (.agg #[(.int .u16 r21), (.int .u16 r22), (.int .u32 r23), (.int .u32 r24), (.int .u8 r25), (.slice r26 rN6 rC6), (.slice r27 rN7 rC7)]) ∧
 (Q (.tuple #[(.agg #[(.int .u16 r21), (.int .u16 r22), (.int .u32 r23), (.int .u32 r24), (.int .u8 r25), (.slice r26 rN6 rC6), (.slice r27 rN7 rC7)]), (.int .i64 (71 : Int))]) w9)))
 (RDL PG (Instr.sliceAt 38 (.slice x13v1 x13N1 x13C1) none (some (.int .i64 n)) (some (.int .i64 n))) w7 fun x64 x64N x64C =>
 CALL PG 39 [(.slice x64 x64N x64C)] w7 fun v14 w10 =>
 ∃ (x65 : Option Addr) (x65N x65C : Nat), ∃ x65v1 : Bool, v14 = (.tuple #[(.slice x65 x65N x65C), (.bool x65v1)]) ∧
 (LETB x65v1 fun okv1 =>
 IFB (!okv1)
 (RD PG (Instr.build 44 #[]) w10 fun v15 =>
 ∃ x70 : Int, ∃ x70v1 : Int, ∃ x70v2 : Int, ∃ x70v3 : Int, ∃ x70v4 : Int, ∃ (x70v5 : Option Addr) (x70N x70C : Nat), ∃ (x70v6 : Option Addr) (x70N1 x70C1 : Nat), v15 = (.agg #[(.int .u16 x70), (.int .u16 x70v1), (.int .u32 x70v2), (.int .u32 x70v3), (.int .u8 x70v4), (.slice x70v5 x70N x70C), (.slice x70v6 x70N1 x70C1)]) ∧
 (RUNU PG (storeVar 44 a2 (.agg #[(.int .u16 x70), (.int .u16 x70v1), (.int .u32 x70v2), (.int .u32 x70v3), (.int .u8 x70v4), (.slice x70v5 x70N x70C), (.slice x70v6 x70N1 x70C1)])) w10 fun w11 =>
 RD PG (loadVar 44 a2) w11 fun v17 =>
 ∃ r28 : Int, ∃ r29 : Int, ∃ r30 : Int, ∃ r31 : Int, ∃ r32 : Int, ∃ (r33 : Option Addr) (rN8 rC8 : Nat), ∃ (r34 : Option Addr) (rN9 rC9 : Nat), v17 = (.agg #[(.int .u16 r28), (.int .u16 r29), (.int .u32 r30), (.int .u32 r31), (.int .u8 r32), (.slice r33 rN8 rC8), (.slice r34 rN9 rC9)]) ∧
 (Q (.tuple #[(.agg #[(.int .u16 r28), (.int .u16 r29), (.int .u32 r30), (.int .u32 r31), (.int .u8 r32), (.slice r33 rN8 rC8), (.slice r34 rN9 rC9)]), (.int .i64 (71 : Int))]) w11)))
 (IFB (decide ((IntKind.i64.wrap ((x13N1 : Int) - n)) > (1024 : Int)))
 (RD PG (Instr.build 44 #[]) w10 fun v18 =>
 ∃ x76 : Int, ∃ x76v1 : Int, ∃ x76v2 : Int, ∃ x76v3 : Int, ∃ x76v4 : Int, ∃ (x76v5 : Option Addr) (x76N x76C : Nat), ∃ (x76v6 : Option Addr) (x76N1 x76C1 : Nat), v18 = (.agg #[(.int .u16 x76), (.int .u16 x76v1), (.int .u32 x76v2), (.int .u32 x76v3), (.int .u8 x76v4), (.slice x76v5 x76N x76C), (.slice x76v6 x76N1 x76C1)]) ∧
 (RUNU PG (storeVar 44 a2 (.agg #[(.int .u16 x76), (.int .u16 x76v1), (.int .u32 x76v2), (.int .u32 x76v3), (.int .u8 x76v4), (.slice x76v5 x76N x76C), (.slice x76v6 x76N1 x76C1)])) w10 fun w12 =>
 RD PG (loadVar 44 a2) w12 fun v20 =>
 ∃ r35 : Int, ∃ r36 : Int, ∃ r37 : Int, ∃ r38 : Int, ∃ r39 : Int, ∃ (r40 : Option Addr) (rN10 rC10 : Nat), ∃ (r41 : Option Addr) (rN11 rC11 : Nat), v20 = (.agg #[(.int .u16 r35), (.int .u16 r36), (.int .u32 r37), (.int .u32 r38), (.int .u8 r39), (.slice r40 rN10 rC10), (.slice r41 rN11 rC11)]) ∧
 (Q (.tuple #[(.agg #[(.int .u16 r35), (.int .u16 r36), (.int .u32 r37), (.int .u32 r38), (.int .u8 r39), (.slice r40 rN10 rC10), (.slice r41 rN11 rC11)]), (.int .i64 (72 : Int))]) w12)))
 (NEED (0 ≤ n ∧ n ≤ ((x13N1 : Nat) : Int) ∧ ((x13N1 : Nat) : Int) ≤ ((x13C1 : Nat) : Int))
 (RUNL PG (Builtin.append_ #[38, 38] 38 #[(.slice none 0 0), (.slice (cutA x13v1 x13C1 1 n) (Int.toNat ((x13N1 : Nat) : Int) - Int.toNat n) (x13C1 - Int.toNat n))]) w10 fun x81 x81N x81C w13 =>
 RUNU PG (storeVar 42 (Addr.add a7 5) (.slice x65 x65N x65C)) w13 fun w14 =>
 RUNU PG (storeVar 38 (Addr.add a7 6) (.slice x81 x81N x81C)) w14 fun w15 =>
 RD PG (loadVar 44 a7) w15 fun v21 =>
 ∃ x84 : Int, ∃ x84v1 : Int, ∃ x84v2 : Int, ∃ x84v3 : Int, ∃ x84v4 : Int, ∃ (x84v5 : Option Addr) (x84N x84C : Nat), ∃ (x84v6 : Option Addr) (x84N1 x84C1 : Nat), v21 = (.agg #[(.int .u16 x84), (.int .u16 x84v1), (.int .u32 x84v2), (.int .u32 x84v3), (.int .u8 x84v4), (.slice x84v5 x84N x84C), (.slice x84v6 x84N1 x84C1)]) ∧
 (RUNU PG (storeVar 44 a2 (.agg #[(.int .u16 x84), (.int .u16 x84v1), (.int .u32 x84v2), (.int .u32 x84v3), (.int .u8 x84v4), (.slice x84v5 x84N x84C), (.slice x84v6 x84N1 x84C1)])) w15 fun w16 =>
 RD PG (loadVar 44 a2) w16 fun v23 =>
 ∃ r42 : Int, ∃ r43 : Int, ∃ r44 : Int, ∃ r45 : Int, ∃ r46 : Int, ∃ (r47 : Option Addr) (rN12 rC12 : Nat), ∃ (r48 : Option Addr) (rN13 rC13 : Nat), v23 = (.agg #[(.int .u16 r42), (.int .u16 r43), (.int .u32 r44), (.int .u32 r45), (.int .u8 r46), (.slice r47 rN12 rC12), (.slice r48 rN13 rC13)]) ∧
 (Q (.tuple #[(.agg #[(.int .u16 r42), (.int .u16 r43), (.int .u32 r44), (.int .u32 r45), (.int .u8 r46), (.slice r47 rN12 rC12), (.slice r48 rN13 rC13)]), (.int .i64 (0 : Int))]) w16))))))))))))))
theorem eq22 : ∀ (b : Option Addr) (bN bC : Nat) (w : World) (Q : Value → World → Prop), vcF PG TB Tryz.f22 .nil [(.slice b bN bC)] w Q = N22 b bN bC w Q := by intros; kernel_rfl
theorem call22 {b : Option Addr} {bN bC : Nat} {w : World} {Q : Value → World → Prop} (hN : N22 b bN bC w Q) : CALL PG 22 [(.slice b bN bC)] w Q := calls_vc tabOk Tryz.func22 (by rw [eq22]; exact hN)

/-- brougham/broughamlaw23.Usual -/
def N34  (w : World) (Q : Value → World → Prop) : Prop :=
 RUNA PG (Instr.alloc 24 true (.tuple #[])) w fun a0 w1 =>
 RD PG (Instr.build 24 #[(0, (.int .i64 (2 : Int))), (1, (.int .i64 (2 : Int))), (2, (.int .i64 (3 : Int))), (3, (.int .i64 (3 : Int))), (4, (.int .i64 (64 : Int))), (5, (.int .i64 (16 : Int))), (6, (.int .i64 (4 : Int))), (7, (.int .i64 (3 : Int))), (8, (.int .i64 (8 : Int))), (9, (.int .i64 (200 : Int))), (10, (.int .i64 (20 : Int))), (11, (.int .i64 (3 : Int))), (12, (.int .i64 (1 : Int))), (13, (.int .i64 (8 : Int))), (14, (.int .i64 (1 : Int)))]) w1 fun v =>
 ∃ x1 : Int, ∃ x1v1 : Int, ∃ x1v2 : Int, ∃ x1v3 : Int, ∃ x1v4 : Int, ∃ x1v5 : Int, ∃ x1v6 : Int, ∃ x1v7 : Int, ∃ x1v8 : Int, ∃ x1v9 : Int, ∃ x1v10 : Int, ∃ x1v11 : Int, ∃ x1v12 : Int, ∃ x1v13 : Int, ∃ x1v14 : Int, v = (.agg #[(.int .i64 x1), (.int .i64 x1v1), (.int .i64 x1v2), (.int .i64 x1v3), (.int .i64 x1v4), (.int .i64 x1v5), (.int .i64 x1v6), (.int .i64 x1v7), (.int .i64 x1v8), (.int .i64 x1v9), (.int .i64 x1v10), (.int .i64 x1v11), (.int .i64 x1v12), (.int .i64 x1v13), (.int .i64 x1v14)]) ∧
 (RUNU PG (storeVar 24 a0 (.agg #[(.int .i64 x1), (.int .i64 x1v1), (.int .i64 x1v2), (.int .i64 x1v3), (.int .i64 x1v4), (.int .i64 x1v5), (.int .i64 x1v6), (.int .i64 x1v7), (.int .i64 x1v8), (.int .i64 x1v9), (.int .i64 x1v10), (.int .i64 x1v11), (.int .i64 x1v12), (.int .i64 x1v13), (.int .i64 x1v14)])) w1 fun w2 =>
 RD PG (loadVar 24 a0) w2 fun v2 =>
 ∃ r : Int, ∃ r1 : Int, ∃ r2 : Int, ∃ r3 : Int, ∃ r4 : Int, ∃ r5 : Int, ∃ r6 : Int, ∃ r7 : Int, ∃ r8 : Int, ∃ r9 : Int, ∃ r10 : Int, ∃ r11 : Int, ∃ r12 : Int, ∃ r13 : Int, ∃ r14 : Int, v2 = (.agg #[(.int .i64 r), (.int .i64 r1), (.int .i64 r2), (.int .i64 r3), (.int .i64 r4), (.int .i64 r5), (.int .i64 r6), (.int .i64 r7), (.int .i64 r8), (.int .i64 r9), (.int .i64 r10), (.int .i64 r11), (.int .i64 r12), (.int .i64 r13), (.int .i64 r14)]) ∧
 (Q (.agg #[(.int .i64 r), (.int .i64 r1), (.int .i64 r2), (.int .i64 r3), (.int .i64 r4), (.int .i64 r5), (.int .i64 r6), (.int .i64 r7), (.int .i64 r8), (.int .i64 r9), (.int .i64 r10), (.int .i64 r11), (.int .i64 r12), (.int .i64 r13), (.int .i64 r14)]) w2))
theorem eq34 : ∀  (w : World) (Q : Value → World → Prop), vcF PG TB Tryz.f34 .nil [] w Q = N34  w Q := by intros; kernel_rfl
theorem call34  {w : World} {Q : Value → World → Prop} (hN : N34  w Q) : CALL PG 34 [] w Q := calls_vc tabOk Tryz.func34 (by rw [eq34]; exact hN)

/-- (*brougham/host.Host).Accept -/
def N35 (h : Option Addr) (atv : Int) (w : World) (Q : Value → World → Prop) : Prop :=
 CALL PG 18 [(.pointer h), (.int .i64 atv)] w fun v w1 =>
 ∃ x10 : Option Addr, v = (.pointer x10) ∧
 (IFB (x10.isNone)
 (Q (.tuple #[(.int .i64 (0 : Int)), (.int .i64 (202 : Int))]) w1)
 (NILC x10 fun a14 =>
 RDL PG (loadVar 71 (Addr.add a14 2)) w1 fun x16 x16N x16C =>
 IFB ((x16N : Int) == (0 : Int))
 (Q (.tuple #[(.int .i64 (0 : Int)), (.int .i64 (210 : Int))]) w1)
 (NILC x10 fun a20 =>
 RDL PG (loadVar 71 (Addr.add a20 2)) w1 fun x22 x22N x22C =>
 IDX x22 x22N (0 : Int) fun a23 =>
 RDI PG (loadVar 3 (Addr.add a23 (Int.toNat (0 : Int) * 1))) .i64 w1 fun x24 =>
 LETI x24 fun n =>
 NILC x10 fun a27 =>
 RDL PG (loadVar 71 (Addr.add a27 2)) w1 fun x29 x29N x29C =>
 NEED (0 ≤ (1 : Int) ∧ (1 : Int) ≤ ((x29N : Nat) : Int) ∧ ((x29N : Nat) : Int) ≤ ((x29C : Nat) : Int))
 (CALL PG 74 [(.slice (cutA x29 x29C 1 (1 : Int)) (Int.toNat ((x29N : Nat) : Int) - Int.toNat (1 : Int)) (x29C - Int.toNat (1 : Int)))] w1 fun v1 w2 =>
 ∃ (x31 : Option Addr) (x31N x31C : Nat), v1 = (.slice x31 x31N x31C) ∧
 (NILC x10 fun a32 =>
 RUNU PG (storeVar 71 (Addr.add a32 2) (.slice x31 x31N x31C)) w2 fun w3 =>
 LETI n fun x4 =>
 Q (.tuple #[(.int .i64 x4), (.int .i64 (0 : Int))]) w3)))))
theorem eq35 : ∀ (h : Option Addr) (atv : Int) (w : World) (Q : Value → World → Prop), vcF PG TB Tryz.f35 .nil [(.pointer h), (.int .i64 atv)] w Q = N35 h atv w Q := by intros; kernel_rfl
theorem call35 {h : Option Addr} {atv : Int} {w : World} {Q : Value → World → Prop} (hN : N35 h atv w Q) : CALL PG 35 [(.pointer h), (.int .i64 atv)] w Q := calls_vc tabOk Tryz.func35 (by rw [eq35]; exact hN)

/-- (*brougham/host.Host).Connect -/
def N36 (h : Option Addr) (localv : Int) (remote : Int) (path : Int) (w : World) (Q : Value → World → Prop) : Prop :=
 CALL PG 17 [(.int .i64 localv)] w fun v w1 =>
 ∃ x15 : Bool, v = (.bool x15) ∧
 (IFB (!x15)
 (Q (.tuple #[(.int .i64 (0 : Int)), (.int .i64 (202 : Int))]) w1)
 (CALL PG 17 [(.int .i64 remote)] w1 fun v1 w2 =>
 ∃ x19 : Bool, v1 = (.bool x19) ∧
 (IFB (!x19)
 (Q (.tuple #[(.int .i64 (0 : Int)), (.int .i64 (202 : Int))]) w2)
 (CALL PG 18 [(.pointer h), (.int .i64 localv)] w2 fun v2 w3 =>
 ∃ x25 : Option Addr, v2 = (.pointer x25) ∧
 (IFB (!x25.isNone)
 (Q (.tuple #[(.int .i64 (0 : Int)), (.int .i64 (202 : Int))]) w3)
 (IFB (decide (path < (0 : Int)))
 (Q (.tuple #[(.int .i64 (0 : Int)), (.int .i64 (205 : Int))]) w3)
 (NILC h fun a33 =>
 RDI PG (loadVar 3 (Addr.add (Addr.add a33 10) 7)) .i64 w3 fun x36 =>
 IFB (decide (path ≥ x36))
 (Q (.tuple #[(.int .i64 (0 : Int)), (.int .i64 (205 : Int))]) w3)
 (RD PG (Instr.build 80 #[(0, (.int .i64 path)), (1, (.int .u16 (IntKind.u16.wrap localv))), (2, (.int .u16 (IntKind.u16.wrap remote)))]) w3 fun v3 =>
 ∃ x44 : Int, ∃ x44v1 : Int, ∃ x44v2 : Int, v3 = (.agg #[(.int .i64 x44), (.int .u16 x44v1), (.int .u16 x44v2)]) ∧
 (RUNA PG (Instr.alloc 80 true (.tuple #[])) w3 fun a10 w4 =>
 RUNU PG (storeVar 80 a10 (.agg #[(.int .i64 x44), (.int .u16 x44v1), (.int .u16 x44v2)])) w4 fun w5 =>
 RD PG (loadVar 80 a10) w5 fun v4 =>
 ∃ x46 : Int, ∃ x46v1 : Int, ∃ x46v2 : Int, v4 = (.agg #[(.int .i64 x46), (.int .u16 x46v1), (.int .u16 x46v2)]) ∧
 (CALL PG 75 [(.pointer h), (.agg #[(.int .i64 x46), (.int .u16 x46v1), (.int .u16 x46v2)])] w5 fun v5 w6 =>
 ∃ x47 : Bool, v5 = (.bool x47) ∧
 (IFB x47
 (Q (.tuple #[(.int .i64 (0 : Int)), (.int .i64 (202 : Int))]) w6)
 (NILC h fun a49 =>
 RD PG (loadVar 63 (Addr.add a49 29)) (w6.drew) fun v6 =>
 ∃ x51 : Value, v6 = x51 ∧
 (RDI PG (Builtin.len_ #[63] 3 #[x51]) .i64 (w6.drew) fun x52 =>
 NILC h fun a54 =>
 RDI PG (loadVar 3 (Addr.add (Addr.add a54 10) 2)) .i64 (w6.drew) fun x57 =>
 IFB (decide (x52 ≥ x57))
 (Q (.tuple #[(.int .i64 (0 : Int)), (.int .i64 (204 : Int))]) (w6.drew))
 (NILC h fun a60 =>
 NILC h fun a64 =>
 CALL PG 61 [(.pointer (some (Addr.add a60 25)))] ((w6.drew).drew) fun v7 w7 =>
 ∃ x62 : Int, v7 = (.int .u64 x62) ∧
 (CALL PG 61 [(.pointer (some (Addr.add a64 25)))] w7 fun v8 w8 =>
 ∃ x66 : Int, v8 = (.int .u64 x66) ∧
 (LETI x62 fun key =>
 LETI x66 fun first =>
 NILC h fun a68 =>
 RD PG (loadVar 24 (Addr.add a68 10)) (w8.drew) fun v9 =>
 ∃ x70 : Int, ∃ x70v1 : Int, ∃ x70v2 : Int, ∃ x70v3 : Int, ∃ x70v4 : Int, ∃ x70v5 : Int, ∃ x70v6 : Int, ∃ x70v7 : Int, ∃ x70v8 : Int, ∃ x70v9 : Int, ∃ x70v10 : Int, ∃ x70v11 : Int, ∃ x70v12 : Int, ∃ x70v13 : Int, ∃ x70v14 : Int, v9 = (.agg #[(.int .i64 x70), (.int .i64 x70v1), (.int .i64 x70v2), (.int .i64 x70v3), (.int .i64 x70v4), (.int .i64 x70v5), (.int .i64 x70v6), (.int .i64 x70v7), (.int .i64 x70v8), (.int .i64 x70v9), (.int .i64 x70v10), (.int .i64 x70v11), (.int .i64 x70v12), (.int .i64 x70v13), (.int .i64 x70v14)]) ∧
 (RD PG (loadVar 80 a10) (w8.drew) fun v10 =>
 ∃ x72 : Int, ∃ x72v1 : Int, ∃ x72v2 : Int, v10 = (.agg #[(.int .i64 x72), (.int .u16 x72v1), (.int .u16 x72v2)]) ∧
 (CALL PG 76 [(.agg #[(.int .i64 x70), (.int .i64 x70v1), (.int .i64 x70v2), (.int .i64 x70v3), (.int .i64 x70v4), (.int .i64 x70v5), (.int .i64 x70v6), (.int .i64 x70v7), (.int .i64 x70v8), (.int .i64 x70v9), (.int .i64 x70v10), (.int .i64 x70v11), (.int .i64 x70v12), (.int .i64 x70v13), (.int .i64 x70v14)]), (.int .u64 key), (.agg #[(.int .i64 x72), (.int .u16 x72v1), (.int .u16 x72v2)]), (.int .u32 (IntKind.u32.wrap first))] (w8.drew) fun v11 w9 =>
 ∃ x75 : Option Addr, v11 = (.pointer x75) ∧
 (CALL PG 59 [(.pointer h), (.pointer x75)] w9 fun v12 w10 =>
 ∃ x78 : Int, v12 = (.int .i64 x78) ∧
 (LETI x78 fun x8 =>
 Q (.tuple #[(.int .i64 x8), (.int .i64 (0 : Int))]) w10))))))))))))))))))))
theorem eq36 : ∀ (h : Option Addr) (localv : Int) (remote : Int) (path : Int) (w : World) (Q : Value → World → Prop), vcF PG TB Tryz.f36 .nil [(.pointer h), (.int .i64 localv), (.int .i64 remote), (.int .i64 path)] w Q = N36 h localv remote path w Q := by intros; kernel_rfl
theorem call36 {h : Option Addr} {localv : Int} {remote : Int} {path : Int} {w : World} {Q : Value → World → Prop} (hN : N36 h localv remote path w Q) : CALL PG 36 [(.pointer h), (.int .i64 localv), (.int .i64 remote), (.int .i64 path)] w Q := calls_vc tabOk Tryz.func36 (by rw [eq36]; exact hN)

/-- brougham/pack.Get -/
def N38 (b : Option Addr) (bN bC : Nat) (sizes : Option Addr) (sizesN sizesC : Nat) (w : World) (Q : Value → World → Prop) : Prop :=
 ∃ I : Nat → Option Addr → Nat → Nat → Option Addr → Nat → Nat → Int → World → Prop,
 (∃ m, I m b bN bC none 0 0 (0 : Int) w) ∧
 (∀ m1 (b1 : Option Addr) (bN1 bC1 : Nat) (out : Option Addr) (outN outC : Nat) (x15 : Int) (w1 : World), I m1 b1 bN1 bC1 out outN outC x15 w1 → (IFB (decide (x15 < (sizesN : Int)))
 (IDX sizes sizesN x15 fun a17 =>
 RDI PG (loadVar 3 (Addr.add a17 (Int.toNat x15 * 1))) .i64 w1 fun x18 =>
 LETI x18 fun n =>
 IFB (decide (n < (1 : Int)))
 (Q (.tuple #[(.slice none 0 0), (.slice none 0 0), (.bool false)]) w1)
 (IFB (decide (n > (8 : Int)))
 (Q (.tuple #[(.slice none 0 0), (.slice none 0 0), (.bool false)]) w1)
 (IFB (decide (n > (bN1 : Int)))
 (Q (.tuple #[(.slice none 0 0), (.slice none 0 0), (.bool false)]) w1)
 (NEED (0 ≤ (0 : Int) ∧ (0 : Int) ≤ n ∧ n ≤ ((bC1 : Nat) : Int))
 (∃ I1 : Nat → Int → Int → World → Prop,
 (∃ m2, I1 m2 (0 : Int) (0 : Int) w1) ∧
 (∀ m3 (x : Int) (x35 : Int) (w2 : World), I1 m3 x x35 w2 → (IFB (decide (x35 < (((Int.toNat n - Int.toNat (0 : Int)) : Nat) : Int)))
 (IDX (cutA b1 bC1 1 (0 : Int)) (Int.toNat n - Int.toNat (0 : Int)) x35 fun a37 =>
 RDI PG (loadVar 5 (Addr.add a37 (Int.toNat x35 * 1))) .u8 w2 fun x38 =>
 LETI x38 fun c =>
 NEED (0 ≤ (8 : Int))
 (LETI (IntKind.u64.wrap (BitVec.ofInt (IntKind.u64.bits) (shlN .u64 x (8 : Int)) ||| BitVec.ofInt (IntKind.u64.bits) (IntKind.u64.wrap c)).toNat) fun x1 =>
 ∃ m4, m4 < m3 ∧ I1 m4 x1 (IntKind.i64.wrap (x35 + (1 : Int))) w2))
 (RUNL PG (Instr.buildSlice 28 1 #[(0, (.int .u64 x))]) w2 fun x47 x47N x47C w3 =>
 RUNL PG (Builtin.append_ #[28, 28] 28 #[(.slice out outN outC), (.slice x47 x47N x47C)]) w3 fun x48 x48N x48C w4 =>
 NEED (0 ≤ n ∧ n ≤ ((bN1 : Nat) : Int) ∧ ((bN1 : Nat) : Int) ≤ ((bC1 : Nat) : Int))
 (∃ m5, m5 < m1 ∧ I m5 (cutA b1 bC1 1 n) (Int.toNat ((bN1 : Nat) : Int) - Int.toNat n) (bC1 - Int.toNat n) x48 x48N x48C (IntKind.i64.wrap (x15 + (1 : Int))) w4)))))))))
 (RUNL PG (Builtin.append_ #[38, 38] 38 #[(.slice none 0 0), (.slice b1 bN1 bC1)]) w1 fun x55 x55N x55C w5 =>
 Q (.tuple #[(.slice out outN outC), (.slice x55 x55N x55C), (.bool true)]) w5)))
theorem eq38 : ∀ (b : Option Addr) (bN bC : Nat) (sizes : Option Addr) (sizesN sizesC : Nat) (w : World) (Q : Value → World → Prop), vcF PG TB Tryz.f38 (.s .nil (.s .nil (.s (.s .nil (.u (.loop [(0, 38), (7, 28), (15, 3)] (.s .nil (.s .nil (.s (.u (.s .nil (.s .nil (.s .nil (.s (.s .nil (.u (.loop [(10, 25), (35, 3)] .nil))) .nil))))) .nil)))))) .nil))) [(.slice b bN bC), (.slice sizes sizesN sizesC)] w Q = N38 b bN bC sizes sizesN sizesC w Q := by intros; kernel_rfl
theorem call38 {b : Option Addr} {bN bC : Nat} {sizes : Option Addr} {sizesN sizesC : Nat} {w : World} {Q : Value → World → Prop} (hN : N38 b bN bC sizes sizesN sizesC w Q) : CALL PG 38 [(.slice b bN bC), (.slice sizes sizesN sizesC)] w Q := calls_vc tabOk Tryz.func38 (by rw [eq38]; exact hN)

end Go.Br

/- A host: who listens, and bytes that are none; the law of configurations. -/
set_option linter.unusedVariables false
set_option linter.unusedSimpArgs false
set_option linter.unnecessarySimpa false
namespace Go.Br
open Go
instance biHostLawa (x0 : Int) : Bld PG (Instr.build 73 #[(0, .int .i64 x0)]) (.agg #[.int .i64 x0, .slice none 0 0, .slice none 0 0]) := ⟨fun w => by kernel_rfl⟩
instance biHostLawb (x0 : Int) (x1 : Int) (x2 : Int) : Bld PG (Instr.build 80 #[(0, .int .i64 x0), (1, .int .u16 x1), (2, .int .u16 x2)]) (.agg #[.int .i64 x0, .int .u16 x1, .int .u16 x2]) := ⟨fun w => by kernel_rfl⟩
instance biHostLawc : Zro PG 41 2 32 (.agg #[.int .u8 0, .slice none 0 0]) := ⟨tiOf (by kernel_rfl)⟩
instance biHostLawd : Zro PG 44 7 64 (.agg #[.int .u16 0, .int .u16 0, .int .u32 0, .int .u32 0, .int .u8 0, .slice none 0 0, .slice none 0 0]) := ⟨tiOf (by kernel_rfl)⟩
instance biHostLawe : Zro PG 80 3 16 (.agg #[.int .i64 0, .int .u16 0, .int .u16 0]) := ⟨tiOf (by kernel_rfl)⟩
instance biHostLawf : Zro PG 96 6 24 (.agg #[.int .u32 0, .int .u32 0, .int .u8 0, .bool false, .bool false, .int .u64 0]) := ⟨tiOf (by kernel_rfl)⟩
instance biHostLawg (x0 : Int) : Bld PG (Instr.build 27 #[(0, .int .u64 x0)]) (.agg #[.int .u64 x0, .int .u64 0]) := ⟨fun w => by kernel_rfl⟩
instance biHostLawh : Bld PG (Instr.build 44 #[]) (.agg #[.int .u16 0, .int .u16 0, .int .u32 0, .int .u32 0, .int .u8 0, .slice none 0 0, .slice none 0 0]) := ⟨fun w => by kernel_rfl⟩
instance biHostLawi (x0 : Int) (x1 : Int) (x2 : Int) (x3 : Int) (x4 : Int) : Bld PG (Instr.build 44 #[(0, .int .u16 x0), (1, .int .u16 x1), (2, .int .u32 x2), (3, .int .u32 x3), (4, .int .u8 x4)]) (.agg #[.int .u16 x0, .int .u16 x1, .int .u32 x2, .int .u32 x3, .int .u8 x4, .slice none 0 0, .slice none 0 0]) := ⟨fun w => by kernel_rfl⟩
instance biHostLawj (x0 : Int) (x1 : Int) (x2 : Int) (x3 : Int) (x4 : Int) (x5 : Int) (x6 : Int) (x7 : Int) (x8 : Int) (x9 : Int) (x10 : Int) (x11 : Int) (x12 : Int) (x13 : Int) (x14 : Int) : Bld PG (Instr.build 24 #[(0, .int .i64 x0), (1, .int .i64 x1), (2, .int .i64 x2), (3, .int .i64 x3), (4, .int .i64 x4), (5, .int .i64 x5), (6, .int .i64 x6), (7, .int .i64 x7), (8, .int .i64 x8), (9, .int .i64 x9), (10, .int .i64 x10), (11, .int .i64 x11), (12, .int .i64 x12), (13, .int .i64 x13), (14, .int .i64 x14)]) (.agg #[.int .i64 x0, .int .i64 x1, .int .i64 x2, .int .i64 x3, .int .i64 x4, .int .i64 x5, .int .i64 x6, .int .i64 x7, .int .i64 x8, .int .i64 x9, .int .i64 x10, .int .i64 x11, .int .i64 x12, .int .i64 x13, .int .i64 x14]) := ⟨fun w => by kernel_rfl⟩
instance biHostLawk : Zro PG 24 15 120 (.agg #[.int .i64 0, .int .i64 0, .int .i64 0, .int .i64 0, .int .i64 0, .int .i64 0, .int .i64 0, .int .i64 0, .int .i64 0, .int .i64 0, .int .i64 0, .int .i64 0, .int .i64 0, .int .i64 0, .int .i64 0]) := ⟨tiOf (by kernel_rfl)⟩
attribute [local irreducible] Addr.add RD RDS RUN RUNU NILC LETB CALL CALLX CALLV

theorem tiPortp : TI PG 68 1 8 (.pointer none) := tiOf (by kernel_rfl)
theorem huPorts : PG.underlying 64 = some (.slice 68) := by kernel_rfl
def usual : Cfg := ⟨2, 2, 3, 3, 64, 16, 4, 3, 8, 200, 20, 3, 1, 8, 1⟩
theorem usual_ok : CfgOk usual := by decide
abbrev prt (a : Int) : List Value := [.int .i64 a, .slice none 0 0, .slice none 0 0]
theorem St.dropA {c : Ctx} : ∀ {M : List SA} {w : World} {L : List SA}, St c w (M ++ L) → St c w L
  | [], w, L, h => h
  | A :: M, w, L, h => St.dropA (M := M) (St.drop h)
section
variable {c : Ctx} {w : World} {L R : List SA} {mal : Int} {g : Cfg} {k0 k1 n : Int} {p r : Nat}
theorem good_ok {a : Int} {Q : Value → World → Prop} (hk : Q (.bool (decide (1 ≤ a ∧ a ≤ 65535))) w) : CALL PG 17 [.int .i64 a] w Q := by
  refine call17 ?_
  unfold N17
  exact ifd (fun h => letb (decide_eq_decide.2 (by omega)) hk) fun h => letb (decide_eq_false (by omega)).symm hk
theorem listen0_ok {a : Int} (h : St c w (blk p 66 (hcs mal g k0 k1 n none 0 0 r) :: L)) {Q : Value → World → Prop} (hk : ∀ w', St c w' (blk p 66 (hcs mal g k0 k1 n none 0 0 r) :: L) → Q (.pointer none) w') : CALL PG 18 [.pointer (some ⟨p, 0, none⟩), .int .i64 a] w Q := by
  refine call18 ?_
  unfold N18
  refine nilc (h.rdL 28 ?_)
  refine ⟨fun m x w' => x = 0 ∧ St c w' (blk p 66 (hcs mal g k0 k1 n none 0 0 r) :: L), ⟨0, rfl, h⟩, ?_⟩
  clear h
  rintro m _ w' ⟨rfl, h⟩
  exact ifdf (by decide) (hk _ h)
theorem listen1_ok {a : Int} {A : Option Addr} {d q : Nat} (h : St c w (blk p 66 (hcs mal g k0 k1 n A 1 d r) :: own 68 1 A 1 d [.pointer (some ⟨q, 0, none⟩)] :: blk q 73 (prt a) :: L)) {Q : Value → World → Prop}
    (hk : ∀ w', St c w' (blk p 66 (hcs mal g k0 k1 n A 1 d r) :: own 68 1 A 1 d [.pointer (some ⟨q, 0, none⟩)] :: blk q 73 (prt a) :: L) → Q (.pointer (some ⟨q, 0, none⟩)) w') : CALL PG 18 [.pointer (some ⟨p, 0, none⟩), .int .i64 a] w Q := by
  refine call18 ?_
  unfold N18
  refine nilc (h.rdL 28 ?_)
  refine ⟨fun m x w' => x = 0 ∧ St c w' (blk p 66 (hcs mal g k0 k1 n A 1 d r) :: own 68 1 A 1 d [.pointer (some ⟨q, 0, none⟩)] :: blk q 73 (prt a) :: L), ⟨0, rfl, h⟩, ?_⟩
  clear h
  rintro m _ w' ⟨rfl, h⟩
  refine ifdt (by decide) ?_
  have hr : RdIn (blk p 66 (hcs mal g k0 k1 n A 1 d r) :: own 68 1 A 1 d [.pointer (some ⟨q, 0, none⟩)] :: blk q 73 (prt a) :: L) A (([some ⟨q, 0, none⟩] : List (Option Addr)).flatMap fun x => [.pointer x]) := RdIn.own (.tail .head)
  refine h.ix (z := 0) (i := 0) hr rfl (fun b hb => ?_) (by decide)
  subst hb
  refine h.rdWP (g := fun x => [.pointer x]) (Y := [some ⟨q, 0, none⟩]) (i := 0) hr rfl ?_
  refine nilc ?_
  refine h.rdI 0 ?_
  exact ift (by simp) (hk _ h)
theorem usual_okC (h : St c w L) {Q : Value → World → Prop} (hk : ∀ w', St c w' L → Q (cfgv usual) w') : CALL PG 34 [] w Q := by
  refine call34 ?_
  unfold N34
  refine h.allocZ fun q w' h => ?_
  refine RD.bld ?_
  (repeat (first | apply Exists.intro (α := Int) | apply Exists.intro (α := Bool) | apply Exists.intro (α := ByteArray) | (apply Exists.intro (α := Option Addr); apply Exists.intro (α := Nat); apply Exists.intro (α := Nat)) | apply Exists.intro (α := Option Addr) | apply Exists.intro (α := Value)))
  refine ⟨rfl, ?_⟩
  refine h.stG fun w' h => ?_
  refine h.rdG ?_
  (repeat (first | apply Exists.intro (α := Int) | apply Exists.intro (α := Bool) | apply Exists.intro (α := ByteArray) | (apply Exists.intro (α := Option Addr); apply Exists.intro (α := Nat); apply Exists.intro (α := Nat)) | apply Exists.intro (α := Option Addr) | apply Exists.intro (α := Value)))
  refine ⟨rfl, ?_⟩
  exact hk _ h.drop
theorem get0_ok (h : St c w L) {B : Option Addr} {m d : Nat} {x : Int} {l : List Int} (hx : 1 ≤ x ∧ x ≤ 8) (hr : RdIn L B ((x :: l).flatMap iv)) (hm : (x :: l).length = m) {Q : Value → World → Prop} (hk : ∀ w', St c w' L → Q (.tuple #[.slice none 0 0, .slice none 0 0, .bool false]) w') :
    CALL PG 38 [.slice none 0 0, .slice B m d] w Q := by
  refine call38 ?_
  unfold N38
  refine ⟨fun m b bN bC O oN oC x w' => b = none ∧ bN = 0 ∧ bC = 0 ∧ x = 0 ∧ St c w' L, ⟨0, rfl, rfl, rfl, rfl, h⟩, ?_⟩
  clear h
  rintro m2 _ _ _ O oN oC _ w' ⟨rfl, rfl, rfl, rfl, h⟩
  refine ifdt (by rw [← hm]; simp) ?_
  refine h.ix (z := 0) (i := 0) (y := x) hr rfl (fun b hb => ?_) (by rw [← hm]; simp)
  have hr1 := hr
  rw [hb] at hr1
  refine h.rdWI (i := 0) (y := x) hr1 rfl (leti rfl ?_)
  exact ifdf (by omega) (ifdf (by omega) (ifdt (by simp; omega) (hk _ h)))
theorem parse0_ok (h : St c w L) {Q : Value → World → Prop} (hk : ∀ w', St c w' L → Q (.tuple #[.agg #[.int .u16 0, .int .u16 0, .int .u32 0, .int .u32 0, .int .u8 0, .slice none 0 0, .slice none 0 0], .int .i64 70]) w') :
    CALL PG 22 [.slice none 0 0] w Q := by
  refine call22 ?_
  unfold N22
  refine h.allocZ fun q w' h => ?_
  refine h.lit (n := 6) 3 1 (([2, 2, 4, 4, 1, 1] : List Int).flatMap iv) fun q2 w' h => ?_
  refine get0_ok (x := 2) (l := [2, 4, 4, 1, 1]) h (by decide) (RdIn.own .head) rfl fun w' h => ?_
  (repeat (first | apply Exists.intro (α := Int) | apply Exists.intro (α := Bool) | apply Exists.intro (α := ByteArray) | (apply Exists.intro (α := Option Addr); apply Exists.intro (α := Nat); apply Exists.intro (α := Nat)) | apply Exists.intro (α := Option Addr) | apply Exists.intro (α := Value)))
  refine ⟨rfl, ?_⟩
  refine letb rfl (ift rfl ?_)
  refine RD.bld ?_
  (repeat (first | apply Exists.intro (α := Int) | apply Exists.intro (α := Bool) | apply Exists.intro (α := ByteArray) | (apply Exists.intro (α := Option Addr); apply Exists.intro (α := Nat); apply Exists.intro (α := Nat)) | apply Exists.intro (α := Option Addr) | apply Exists.intro (α := Value)))
  refine ⟨rfl, ?_⟩
  have h := h.drop
  refine h.stG fun w' h => ?_
  refine h.rdG ?_
  (repeat (first | apply Exists.intro (α := Int) | apply Exists.intro (α := Bool) | apply Exists.intro (α := ByteArray) | (apply Exists.intro (α := Option Addr); apply Exists.intro (α := Nat); apply Exists.intro (α := Nat)) | apply Exists.intro (α := Option Addr) | apply Exists.intro (α := Value)))
  refine ⟨rfl, ?_⟩
  exact hk _ h.drop
theorem deliver0_ok {pA : Option Addr} {pN pC : Nat} (h : St c w (blk p 66 (hcs 0 g k0 k1 n pA pN pC r) :: L)) {path : Int} {Q : Value → World → Prop} (hk : ∀ w', St c w' (blk p 66 (hcs 1 g k0 k1 n pA pN pC r) :: L) → Q (.tuple #[]) w') :
    CALL PG 9 [.pointer (some ⟨p, 0, none⟩), .int .i64 path, .slice none 0 0] w Q := by
  refine call9 ?_
  unfold N9
  refine parse0_ok h fun w' h => ?_
  (repeat (first | apply Exists.intro (α := Int) | apply Exists.intro (α := Bool) | apply Exists.intro (α := ByteArray) | (apply Exists.intro (α := Option Addr); apply Exists.intro (α := Nat); apply Exists.intro (α := Nat)) | apply Exists.intro (α := Option Addr) | apply Exists.intro (α := Value)))
  refine ⟨rfl, ?_⟩
  refine h.allocZ fun q w' h => ?_
  refine h.stG fun w' h => ?_
  refine leti rfl (ifn (fun _ => ?_) fun e => by cases e)
  refine nilc ?_
  refine h.rdI2 0 6 ?_
  refine nilc ?_
  refine h.st2 0 6 fun w' h => ?_
  exact hk _ (h.sub (.cons .head (Sub.same _).more))
theorem alive23_ok (h : St c w L) {Q : Value → World → Prop} (hk : ∀ w', St c w' L → Q (.bool true) w') : CALL PG 14 [] w Q := by
  refine call14 ?_
  unfold N14
  refine usual_okC h fun w' h => ?_
  (repeat (first | apply Exists.intro (α := Int) | apply Exists.intro (α := Bool) | apply Exists.intro (α := ByteArray) | (apply Exists.intro (α := Option Addr); apply Exists.intro (α := Nat); apply Exists.intro (α := Nat)) | apply Exists.intro (α := Option Addr) | apply Exists.intro (α := Value)))
  refine ⟨rfl, ?_⟩
  refine RD.bld ?_
  (repeat (first | apply Exists.intro (α := Int) | apply Exists.intro (α := Bool) | apply Exists.intro (α := ByteArray) | (apply Exists.intro (α := Option Addr); apply Exists.intro (α := Nat); apply Exists.intro (α := Nat)) | apply Exists.intro (α := Option Addr) | apply Exists.intro (α := Value)))
  refine ⟨rfl, ?_⟩
  refine hnew_ok h usual (fun e => absurd usual_ok e) fun _ p r w' h => ?_
  (repeat (first | apply Exists.intro (α := Int) | apply Exists.intro (α := Bool) | apply Exists.intro (α := ByteArray) | (apply Exists.intro (α := Option Addr); apply Exists.intro (α := Nat); apply Exists.intro (α := Nat)) | apply Exists.intro (α := Option Addr) | apply Exists.intro (α := Value)))
  refine ⟨rfl, ?_⟩
  refine leti rfl (ifn (fun e => absurd rfl e) fun _ => iff_ rfl ?_)
  -- 80 is listened at
  refine call6 ?_
  unfold N6
  refine good_ok ?_
  (repeat (first | apply Exists.intro (α := Int) | apply Exists.intro (α := Bool) | apply Exists.intro (α := ByteArray) | (apply Exists.intro (α := Option Addr); apply Exists.intro (α := Nat); apply Exists.intro (α := Nat)) | apply Exists.intro (α := Option Addr) | apply Exists.intro (α := Value)))
  refine ⟨rfl, ?_⟩
  refine letb rfl (iff_ (by decide) ?_)
  refine listen0_ok h fun w' h => ?_
  (repeat (first | apply Exists.intro (α := Int) | apply Exists.intro (α := Bool) | apply Exists.intro (α := ByteArray) | (apply Exists.intro (α := Option Addr); apply Exists.intro (α := Nat); apply Exists.intro (α := Nat)) | apply Exists.intro (α := Option Addr) | apply Exists.intro (α := Value)))
  refine ⟨rfl, ?_⟩
  refine letb rfl (iff_ rfl ?_)
  have h := h.drew
  refine nilc (h.rdL 28 (nilc ?_))
  refine h.rdI2 10 0 ?_
  refine letb rfl (iff_ (by decide) ?_)
  refine nilc (h.rdL 28 ?_)
  refine RD.bld ?_
  (repeat (first | apply Exists.intro (α := Int) | apply Exists.intro (α := Bool) | apply Exists.intro (α := ByteArray) | (apply Exists.intro (α := Option Addr); apply Exists.intro (α := Nat); apply Exists.intro (α := Nat)) | apply Exists.intro (α := Option Addr) | apply Exists.intro (α := Value)))
  refine ⟨rfl, ?_⟩
  refine h.box fun q w' h => ?_
  have h := h.addOwnNil 68 1
  refine h.app1 huPorts tiPortp [.pointer (some ⟨q, 0, none⟩)] .head (by intro v hv; simp at hv; rw [hv]; rfl) (by decide) fun A d w' h => ?_
  refine nilc ?_
  refine h.st 28 fun w' h => ?_
  have h : St c w' (blk p 66 (hcs 0 usual 1 0 0 A 1 d r) :: own 68 1 A 1 d [.pointer (some ⟨q, 0, none⟩)] :: blk q 73 (prt 80) :: mp r [] :: L) := h
  (repeat (first | apply Exists.intro (α := Int) | apply Exists.intro (α := Bool) | apply Exists.intro (α := ByteArray) | (apply Exists.intro (α := Option Addr); apply Exists.intro (α := Nat); apply Exists.intro (α := Nat)) | apply Exists.intro (α := Option Addr) | apply Exists.intro (α := Value)))
  refine ⟨rfl, ?_⟩
  refine call6 ?_
  unfold N6
  refine good_ok ?_
  (repeat (first | apply Exists.intro (α := Int) | apply Exists.intro (α := Bool) | apply Exists.intro (α := ByteArray) | (apply Exists.intro (α := Option Addr); apply Exists.intro (α := Nat); apply Exists.intro (α := Nat)) | apply Exists.intro (α := Option Addr) | apply Exists.intro (α := Value)))
  refine ⟨rfl, ?_⟩
  refine letb rfl (iff_ (by decide) ?_)
  refine listen1_ok h fun w' h => ?_
  (repeat (first | apply Exists.intro (α := Int) | apply Exists.intro (α := Bool) | apply Exists.intro (α := ByteArray) | (apply Exists.intro (α := Option Addr); apply Exists.intro (α := Nat); apply Exists.intro (α := Nat)) | apply Exists.intro (α := Option Addr) | apply Exists.intro (α := Value)))
  refine ⟨rfl, ?_⟩
  refine letb rfl (ift rfl ?_)
  (repeat (first | apply Exists.intro (α := Int) | apply Exists.intro (α := Bool) | apply Exists.intro (α := ByteArray) | (apply Exists.intro (α := Option Addr); apply Exists.intro (α := Nat); apply Exists.intro (α := Nat)) | apply Exists.intro (α := Option Addr) | apply Exists.intro (α := Value)))
  refine ⟨rfl, ?_⟩
  refine leti rfl (leti rfl ?_)
  refine call35 ?_
  unfold N35
  refine listen1_ok h fun w' h => ?_
  (repeat (first | apply Exists.intro (α := Int) | apply Exists.intro (α := Bool) | apply Exists.intro (α := ByteArray) | (apply Exists.intro (α := Option Addr); apply Exists.intro (α := Nat); apply Exists.intro (α := Nat)) | apply Exists.intro (α := Option Addr) | apply Exists.intro (α := Value)))
  refine ⟨rfl, ?_⟩
  refine iff_ rfl ?_
  refine nilc (h.rdL 2 (ift rfl ?_))
  (repeat (first | apply Exists.intro (α := Int) | apply Exists.intro (α := Bool) | apply Exists.intro (α := ByteArray) | (apply Exists.intro (α := Option Addr); apply Exists.intro (α := Nat); apply Exists.intro (α := Nat)) | apply Exists.intro (α := Option Addr) | apply Exists.intro (α := Value)))
  refine ⟨rfl, ?_⟩
  refine leti rfl (leti rfl ?_)
  refine call36 ?_
  unfold N36
  refine good_ok ?_
  (repeat (first | apply Exists.intro (α := Int) | apply Exists.intro (α := Bool) | apply Exists.intro (α := ByteArray) | (apply Exists.intro (α := Option Addr); apply Exists.intro (α := Nat); apply Exists.intro (α := Nat)) | apply Exists.intro (α := Option Addr) | apply Exists.intro (α := Value)))
  refine ⟨rfl, ?_⟩
  refine iff_ (by decide) ?_
  refine good_ok ?_
  (repeat (first | apply Exists.intro (α := Int) | apply Exists.intro (α := Bool) | apply Exists.intro (α := ByteArray) | (apply Exists.intro (α := Option Addr); apply Exists.intro (α := Nat); apply Exists.intro (α := Nat)) | apply Exists.intro (α := Option Addr) | apply Exists.intro (α := Value)))
  refine ⟨rfl, ?_⟩
  refine iff_ (by decide) ?_
  refine listen1_ok h fun w' h => ?_
  (repeat (first | apply Exists.intro (α := Int) | apply Exists.intro (α := Bool) | apply Exists.intro (α := ByteArray) | (apply Exists.intro (α := Option Addr); apply Exists.intro (α := Nat); apply Exists.intro (α := Nat)) | apply Exists.intro (α := Option Addr) | apply Exists.intro (α := Value)))
  refine ⟨rfl, ?_⟩
  refine ift rfl ?_
  (repeat (first | apply Exists.intro (α := Int) | apply Exists.intro (α := Bool) | apply Exists.intro (α := ByteArray) | (apply Exists.intro (α := Option Addr); apply Exists.intro (α := Nat); apply Exists.intro (α := Nat)) | apply Exists.intro (α := Option Addr) | apply Exists.intro (α := Value)))
  refine ⟨rfl, ?_⟩
  refine leti rfl (leti rfl ?_)
  refine deliver0_ok h fun w' h => ⟨rfl, ?_⟩
  refine ift rfl (ift rfl (ift rfl (ift rfl ?_)))
  refine nilc ?_
  refine h.rdI2 0 6 ?_
  exact letb rfl (hk _ h.drop.drop.drop.drop)
end
end Go.Br
