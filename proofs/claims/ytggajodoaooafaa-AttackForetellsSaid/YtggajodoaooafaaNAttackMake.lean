/- What the code of some functions says, as the core reads it; each reading is checked by the kernel. -/
import Derived.Test.YtggajodoaooafaaBrSeat
set_option linter.unusedVariables false
set_option maxRecDepth 100000
namespace Go.Br
open Go Go.Proofs

/-- brougham/attack.Numbers -/
def N16 (x : Int) (x1 : Int) (x2 : Int) (x3 : Int) (x4 : Int) (x5 : Int) (x6 : Int) (x7 : Int) (x8 : Int) (x9 : Bool) (x10 : Bool) (x11 : Int) (x12 : Int) (x13 : Int) (x14 : Int) (x15 : Int) (x16 : Int) (w : World) (Q : Value → World → Prop) : Prop :=
 RUNA PG (Instr.box 28 (.agg #[(.int .i64 x), (.int .u16 x1), (.int .u16 x2), (.int .i64 x3), (.int .i64 x4), (.int .u32 x5), (.int .u32 x6), (.int .u32 x7), (.int .u32 x8), (.bool x9), (.bool x10), (.int .i64 x11), (.int .i64 x12), (.int .i64 x13), (.int .i64 x14), (.int .i64 x15), (.int .i64 x16)])) w fun a1 w1 =>
 RUNA PG (Instr.alloc 37 true (.tuple #[])) w1 fun a2 w2 =>
 RDI PG (loadVar 25 (Addr.add a1 4)) .i64 w2 fun x4v1 =>
 RDI PG (loadVar 26 (Addr.add a1 5)) .u32 w2 fun x6v1 =>
 RDI PG (loadVar 26 (Addr.add a1 6)) .u32 w2 fun x8v1 =>
 RDI PG (loadVar 26 (Addr.add a1 7)) .u32 w2 fun x10v1 =>
 RDI PG (loadVar 26 (Addr.add a1 8)) .u32 w2 fun x12v1 =>
 RD PG (Instr.build 37 #[(0, (.int .i64 x4v1)), (1, (.int .u32 x6v1)), (2, (.int .u32 x8v1)), (3, (.int .u32 x10v1)), (4, (.int .u32 x12v1))]) w2 fun v =>
 ∃ x13v1 : Int, ∃ x13v2 : Int, ∃ x13v3 : Int, ∃ x13v4 : Int, ∃ x13v5 : Int, v = (.agg #[(.int .i64 x13v1), (.int .u32 x13v2), (.int .u32 x13v3), (.int .u32 x13v4), (.int .u32 x13v5)]) ∧
 (RUNU PG (storeVar 37 a2 (.agg #[(.int .i64 x13v1), (.int .u32 x13v2), (.int .u32 x13v3), (.int .u32 x13v4), (.int .u32 x13v5)])) w2 fun w3 =>
 RD PG (loadVar 37 a2) w3 fun v2 =>
 ∃ r : Int, ∃ r1 : Int, ∃ r2 : Int, ∃ r3 : Int, ∃ r4 : Int, v2 = (.agg #[(.int .i64 r), (.int .u32 r1), (.int .u32 r2), (.int .u32 r3), (.int .u32 r4)]) ∧
 (Q (.agg #[(.int .i64 r), (.int .u32 r1), (.int .u32 r2), (.int .u32 r3), (.int .u32 r4)]) w3))
theorem eq16 : ∀ (x : Int) (x1 : Int) (x2 : Int) (x3 : Int) (x4 : Int) (x5 : Int) (x6 : Int) (x7 : Int) (x8 : Int) (x9 : Bool) (x10 : Bool) (x11 : Int) (x12 : Int) (x13 : Int) (x14 : Int) (x15 : Int) (x16 : Int) (w : World) (Q : Value → World → Prop), vcF PG TB Try.f16 .nil [(.agg #[(.int .i64 x), (.int .u16 x1), (.int .u16 x2), (.int .i64 x3), (.int .i64 x4), (.int .u32 x5), (.int .u32 x6), (.int .u32 x7), (.int .u32 x8), (.bool x9), (.bool x10), (.int .i64 x11), (.int .i64 x12), (.int .i64 x13), (.int .i64 x14), (.int .i64 x15), (.int .i64 x16)])] w Q = N16 x x1 x2 x3 x4 x5 x6 x7 x8 x9 x10 x11 x12 x13 x14 x15 x16 w Q := by intros; kernel_rfl
theorem call16 {x : Int} {x1 : Int} {x2 : Int} {x3 : Int} {x4 : Int} {x5 : Int} {x6 : Int} {x7 : Int} {x8 : Int} {x9 : Bool} {x10 : Bool} {x11 : Int} {x12 : Int} {x13 : Int} {x14 : Int} {x15 : Int} {x16 : Int} {w : World} {Q : Value → World → Prop} (hN : N16 x x1 x2 x3 x4 x5 x6 x7 x8 x9 x10 x11 x12 x13 x14 x15 x16 w Q) : CALL PG 16 [(.agg #[(.int .i64 x), (.int .u16 x1), (.int .u16 x2), (.int .i64 x3), (.int .i64 x4), (.int .u32 x5), (.int .u32 x6), (.int .u32 x7), (.int .u32 x8), (.bool x9), (.bool x10), (.int .i64 x11), (.int .i64 x12), (.int .i64 x13), (.int .i64 x14), (.int .i64 x15), (.int .i64 x16)])] w Q := calls_vc tabOk Try.func16 (by rw [eq16]; exact hN)

/-- brougham/attack.Foretell -/
def N17 (x : Int) (x1 : Int) (x2 : Int) (x3 : Int) (x4 : Int) (x5 : Int) (x6 : Int) (x7 : Int) (x8 : Int) (x9 : Bool) (x10 : Bool) (x11 : Int) (x12 : Int) (x13 : Int) (x14 : Int) (x15 : Int) (x16 : Int) (s : Int) (s1 : Int) (s2 : Int) (s3 : Int) (s4 : Int) (s5 : Option Addr) (sN sC : Nat) (s6 : Option Addr) (sN1 sC1 : Nat) (w : World) (Q : Value → World → Prop) : Prop :=
 RUNA PG (Instr.box 28 (.agg #[(.int .i64 x), (.int .u16 x1), (.int .u16 x2), (.int .i64 x3), (.int .i64 x4), (.int .u32 x5), (.int .u32 x6), (.int .u32 x7), (.int .u32 x8), (.bool x9), (.bool x10), (.int .i64 x11), (.int .i64 x12), (.int .i64 x13), (.int .i64 x14), (.int .i64 x15), (.int .i64 x16)])) w fun a2 w1 =>
 RUNA PG (Instr.box 32 (.agg #[(.int .u16 s), (.int .u16 s1), (.int .u32 s2), (.int .u32 s3), (.int .u8 s4), (.slice s5 sN sC), (.slice s6 sN1 sC1)])) w1 fun a3 w2 =>
 ∃ S : World → Prop, S (w2.drew) ∧
 (RDS PG (loadVar 28 a2) S fun v =>
 ∃ x7v1 : Int, ∃ x7v2 : Int, ∃ x7v3 : Int, ∃ x7v4 : Int, ∃ x7v5 : Int, ∃ x7v6 : Int, ∃ x7v7 : Int, ∃ x7v8 : Int, ∃ x7v9 : Int, ∃ x7v10 : Bool, ∃ x7v11 : Bool, ∃ x7v12 : Int, ∃ x7v13 : Int, ∃ x7v14 : Int, ∃ x7v15 : Int, ∃ x7v16 : Int, ∃ x7v17 : Int, v = (.agg #[(.int .i64 x7v1), (.int .u16 x7v2), (.int .u16 x7v3), (.int .i64 x7v4), (.int .i64 x7v5), (.int .u32 x7v6), (.int .u32 x7v7), (.int .u32 x7v8), (.int .u32 x7v9), (.bool x7v10), (.bool x7v11), (.int .i64 x7v12), (.int .i64 x7v13), (.int .i64 x7v14), (.int .i64 x7v15), (.int .i64 x7v16), (.int .i64 x7v17)]) ∧
 (RDS PG (loadVar 32 a3) S fun v1 =>
 ∃ x9v1 : Int, ∃ x9v2 : Int, ∃ x9v3 : Int, ∃ x9v4 : Int, ∃ x9v5 : Int, ∃ (x9v6 : Option Addr) (x9N x9C : Nat), ∃ (x9v7 : Option Addr) (x9N1 x9C1 : Nat), v1 = (.agg #[(.int .u16 x9v1), (.int .u16 x9v2), (.int .u32 x9v3), (.int .u32 x9v4), (.int .u8 x9v5), (.slice x9v6 x9N x9C), (.slice x9v7 x9N1 x9C1)]) ∧
 (CALL PG 16 [(.agg #[(.int .i64 x7v1), (.int .u16 x7v2), (.int .u16 x7v3), (.int .i64 x7v4), (.int .i64 x7v5), (.int .u32 x7v6), (.int .u32 x7v7), (.int .u32 x7v8), (.int .u32 x7v9), (.bool x7v10), (.bool x7v11), (.int .i64 x7v12), (.int .i64 x7v13), (.int .i64 x7v14), (.int .i64 x7v15), (.int .i64 x7v16), (.int .i64 x7v17)])] (w2.drew) fun v2 w3 =>
 ∃ x8v1 : Int, ∃ x8v2 : Int, ∃ x8v3 : Int, ∃ x8v4 : Int, ∃ x8v5 : Int, v2 = (.agg #[(.int .i64 x8v1), (.int .u32 x8v2), (.int .u32 x8v3), (.int .u32 x8v4), (.int .u32 x8v5)]) ∧
 (∃ S1 : World → Prop, (∀ x, S1 x → S x) ∧ S1 w3 ∧
 (CALL PG 69 [(.agg #[(.int .i64 x8v1), (.int .u32 x8v2), (.int .u32 x8v3), (.int .u32 x8v4), (.int .u32 x8v5)]), (.agg #[(.int .u16 x9v1), (.int .u16 x9v2), (.int .u32 x9v3), (.int .u32 x9v4), (.int .u8 x9v5), (.slice x9v6 x9N x9C), (.slice x9v7 x9N1 x9C1)]), (.bool false)] w3 fun v3 w4 =>
 ∃ x10v1 : Int, v3 = (.int .i64 x10v1) ∧
 (LETB (x10v1 == (4 : Int)) fun x11v1 =>
 IFB x11v1
 (Q (.int .i64 (6 : Int)) w4)
 (LETB (x10v1 == (3 : Int)) fun x13v1 =>
 IFB x13v1
 (RDI PG (loadVar 3 (Addr.add a2 12)) .i64 w4 fun x17 =>
 IFB (decide (x17 > (0 : Int)))
 (Q (.int .i64 (4 : Int)) w4)
 (Q (.int .i64 (5 : Int)) w4))
 (LETB (x10v1 == (5 : Int)) fun x13v2 =>
 IFB x13v2
 (RDI PG (loadVar 3 (Addr.add a2 12)) .i64 w4 fun x17v1 =>
 IFB (decide (x17v1 > (0 : Int)))
 (Q (.int .i64 (4 : Int)) w4)
 (Q (.int .i64 (5 : Int)) w4))
 (LETB (x10v1 == (1 : Int)) fun x19 =>
 IFB x19
 (RDI PG (loadVar 25 (Addr.add a2 4)) .i64 w4 fun x22 =>
 IFB (x22 == (1 : Int))
 (Q (.int .i64 (2 : Int)) w4)
 (Q (.int .i64 (1 : Int)) w4))
 (RD PG (loadVar 32 a3) w4 fun v4 =>
 ∃ x25 : Int, ∃ x25v1 : Int, ∃ x25v2 : Int, ∃ x25v3 : Int, ∃ x25v4 : Int, ∃ (x25v5 : Option Addr) (x25N x25C : Nat), ∃ (x25v6 : Option Addr) (x25N1 x25C1 : Nat), v4 = (.agg #[(.int .u16 x25), (.int .u16 x25v1), (.int .u32 x25v2), (.int .u32 x25v3), (.int .u8 x25v4), (.slice x25v5 x25N x25C), (.slice x25v6 x25N1 x25C1)]) ∧
 (CALL PG 70 [(.agg #[(.int .u16 x25), (.int .u16 x25v1), (.int .u32 x25v2), (.int .u32 x25v3), (.int .u8 x25v4), (.slice x25v5 x25N x25C), (.slice x25v6 x25N1 x25C1)]), (.int .u8 (3 : Int))] w4 fun v5 w5 =>
 ∃ x26 : Int, ∃ (x26v1 : Option Addr) (x26N x26C : Nat), ∃ x26v2 : Bool, v5 = (.tuple #[(.agg #[(.int .u8 x26), (.slice x26v1 x26N x26C)]), (.bool x26v2)]) ∧
 (RUNA PG (Instr.alloc 138 true (.tuple #[])) w5 fun a5 w6 =>
 RUNU PG (storeVar 138 a5 (.agg #[(.int .u8 x26), (.slice x26v1 x26N x26C)])) w6 fun w7 =>
 LETB x26v2 fun has =>
 IFB has
 (Q (.int .i64 (2 : Int)) w7)
 (Q (.int .i64 (3 : Int)) w7)))))))))))))
theorem eq17 : ∀ (x : Int) (x1 : Int) (x2 : Int) (x3 : Int) (x4 : Int) (x5 : Int) (x6 : Int) (x7 : Int) (x8 : Int) (x9 : Bool) (x10 : Bool) (x11 : Int) (x12 : Int) (x13 : Int) (x14 : Int) (x15 : Int) (x16 : Int) (s : Int) (s1 : Int) (s2 : Int) (s3 : Int) (s4 : Int) (s5 : Option Addr) (sN sC : Nat) (s6 : Option Addr) (sN1 sC1 : Nat) (w : World) (Q : Value → World → Prop), vcF PG TB Try.f17 .nil [(.agg #[(.int .i64 x), (.int .u16 x1), (.int .u16 x2), (.int .i64 x3), (.int .i64 x4), (.int .u32 x5), (.int .u32 x6), (.int .u32 x7), (.int .u32 x8), (.bool x9), (.bool x10), (.int .i64 x11), (.int .i64 x12), (.int .i64 x13), (.int .i64 x14), (.int .i64 x15), (.int .i64 x16)]), (.agg #[(.int .u16 s), (.int .u16 s1), (.int .u32 s2), (.int .u32 s3), (.int .u8 s4), (.slice s5 sN sC), (.slice s6 sN1 sC1)])] w Q = N17 x x1 x2 x3 x4 x5 x6 x7 x8 x9 x10 x11 x12 x13 x14 x15 x16 s s1 s2 s3 s4 s5 sN sC s6 sN1 sC1 w Q := by intros; kernel_rfl
theorem call17 {x : Int} {x1 : Int} {x2 : Int} {x3 : Int} {x4 : Int} {x5 : Int} {x6 : Int} {x7 : Int} {x8 : Int} {x9 : Bool} {x10 : Bool} {x11 : Int} {x12 : Int} {x13 : Int} {x14 : Int} {x15 : Int} {x16 : Int} {s : Int} {s1 : Int} {s2 : Int} {s3 : Int} {s4 : Int} {s5 : Option Addr} {sN sC : Nat} {s6 : Option Addr} {sN1 sC1 : Nat} {w : World} {Q : Value → World → Prop} (hN : N17 x x1 x2 x3 x4 x5 x6 x7 x8 x9 x10 x11 x12 x13 x14 x15 x16 s s1 s2 s3 s4 s5 sN sC s6 sN1 sC1 w Q) : CALL PG 17 [(.agg #[(.int .i64 x), (.int .u16 x1), (.int .u16 x2), (.int .i64 x3), (.int .i64 x4), (.int .u32 x5), (.int .u32 x6), (.int .u32 x7), (.int .u32 x8), (.bool x9), (.bool x10), (.int .i64 x11), (.int .i64 x12), (.int .i64 x13), (.int .i64 x14), (.int .i64 x15), (.int .i64 x16)]), (.agg #[(.int .u16 s), (.int .u16 s1), (.int .u32 s2), (.int .u32 s3), (.int .u8 s4), (.slice s5 sN sC), (.slice s6 sN1 sC1)])] w Q := calls_vc tabOk Try.func17 (by rw [eq17]; exact hN)

/-- brougham/broughamlaw33.alive -/
def N20  (w : World) (Q : Value → World → Prop) : Prop :=
 RD PG (Instr.build 47 #[(0, (.int .u16 (5 : Int))), (1, (.int .u16 (80 : Int)))]) w fun v =>
 ∃ x2 : Int, ∃ x2v1 : Int, v = (.agg #[(.int .u16 x2), (.int .u16 x2v1)]) ∧
 (CALL PG 21 [(.int .i64 (1 : Int)), (.agg #[(.int .u16 x2), (.int .u16 x2v1)]), (.int .u32 (7 : Int)), (.int .u32 (0 : Int)), (.slice none 0 0)] w fun v1 w1 =>
 ∃ x3 : Int, ∃ x3v1 : Int, ∃ x3v2 : Int, ∃ x3v3 : Int, ∃ x3v4 : Int, ∃ (x3v5 : Option Addr) (x3N x3C : Nat), ∃ (x3v6 : Option Addr) (x3N1 x3C1 : Nat), v1 = (.agg #[(.int .u16 x3), (.int .u16 x3v1), (.int .u32 x3v2), (.int .u32 x3v3), (.int .u8 x3v4), (.slice x3v5 x3N x3C), (.slice x3v6 x3N1 x3C1)]) ∧
 (RUNA PG (Instr.alloc 32 true (.tuple #[])) w1 fun a1 w2 =>
 RUNU PG (storeVar 32 a1 (.agg #[(.int .u16 x3), (.int .u16 x3v1), (.int .u32 x3v2), (.int .u32 x3v3), (.int .u8 x3v4), (.slice x3v5 x3N x3C), (.slice x3v6 x3N1 x3C1)])) w2 fun w3 =>
 RDI PG (loadVar 5 (Addr.add a1 4)) .u8 w3 fun x5 =>
 IFB (x5 == (4 : Int))
 (RDI PG (loadVar 22 (Addr.add a1 0)) .u16 w3 fun x9 =>
 IFB (x9 == (80 : Int))
 (RDI PG (loadVar 22 (Addr.add a1 1)) .u16 w3 fun x14 =>
 IFB (x14 == (5 : Int))
 (RDI PG (loadVar 26 (Addr.add a1 2)) .u32 w3 fun x19 =>
 IFB (x19 == (7 : Int))
 (RD PG (Instr.build 28 #[(2, (.int .i64 (3 : Int))), (6, (.int .u32 (7 : Int)))]) w3 fun v2 =>
 ∃ x23 : Int, ∃ x23v1 : Int, ∃ x23v2 : Int, ∃ x23v3 : Int, ∃ x23v4 : Int, ∃ x23v5 : Int, ∃ x23v6 : Int, ∃ x23v7 : Int, ∃ x23v8 : Int, ∃ x23v9 : Bool, ∃ x23v10 : Bool, ∃ x23v11 : Int, ∃ x23v12 : Int, ∃ x23v13 : Int, ∃ x23v14 : Int, ∃ x23v15 : Int, ∃ x23v16 : Int, v2 = (.agg #[(.int .i64 x23), (.int .u16 x23v1), (.int .u16 x23v2), (.int .i64 x23v3), (.int .i64 x23v4), (.int .u32 x23v5), (.int .u32 x23v6), (.int .u32 x23v7), (.int .u32 x23v8), (.bool x23v9), (.bool x23v10), (.int .i64 x23v11), (.int .i64 x23v12), (.int .i64 x23v13), (.int .i64 x23v14), (.int .i64 x23v15), (.int .i64 x23v16)]) ∧
 (RD PG (loadVar 32 a1) w3 fun v3 =>
 ∃ x24 : Int, ∃ x24v1 : Int, ∃ x24v2 : Int, ∃ x24v3 : Int, ∃ x24v4 : Int, ∃ (x24v5 : Option Addr) (x24N x24C : Nat), ∃ (x24v6 : Option Addr) (x24N1 x24C1 : Nat), v3 = (.agg #[(.int .u16 x24), (.int .u16 x24v1), (.int .u32 x24v2), (.int .u32 x24v3), (.int .u8 x24v4), (.slice x24v5 x24N x24C), (.slice x24v6 x24N1 x24C1)]) ∧
 (CALL PG 17 [(.agg #[(.int .i64 x23), (.int .u16 x23v1), (.int .u16 x23v2), (.int .i64 x23v3), (.int .i64 x23v4), (.int .u32 x23v5), (.int .u32 x23v6), (.int .u32 x23v7), (.int .u32 x23v8), (.bool x23v9), (.bool x23v10), (.int .i64 x23v11), (.int .i64 x23v12), (.int .i64 x23v13), (.int .i64 x23v14), (.int .i64 x23v15), (.int .i64 x23v16)]), (.agg #[(.int .u16 x24), (.int .u16 x24v1), (.int .u32 x24v2), (.int .u32 x24v3), (.int .u8 x24v4), (.slice x24v5 x24N x24C), (.slice x24v6 x24N1 x24C1)])] w3 fun v4 w4 =>
 ∃ x25 : Int, v4 = (.int .i64 x25) ∧
 (LETB (x25 == (6 : Int)) fun x0 =>
 Q (.bool x0) w4))))
 (LETB false fun x0v1 =>
 Q (.bool x0v1) w3))
 (LETB false fun x0v2 =>
 Q (.bool x0v2) w3))
 (LETB false fun x0v3 =>
 Q (.bool x0v3) w3))
 (LETB false fun x0v4 =>
 Q (.bool x0v4) w3)))
theorem eq20 : ∀  (w : World) (Q : Value → World → Prop), vcF PG TB Try.f20 .nil [] w Q = N20  w Q := by intros; kernel_rfl
theorem call20  {w : World} {Q : Value → World → Prop} (hN : N20  w Q) : CALL PG 20 [] w Q := calls_vc tabOk Try.func20 (by rw [eq20]; exact hN)

/-- brougham/attack.Make -/
def N21 (k : Int) (a : Int) (a1 : Int) (seq : Int) (ack : Int) (data : Option Addr) (dataN dataC : Nat) (w : World) (Q : Value → World → Prop) : Prop :=
 RUNA PG (Instr.box 47 (.agg #[(.int .u16 a), (.int .u16 a1)])) w fun a6 w1 =>
 RUNA PG (Instr.alloc 32 true (.tuple #[])) w1 fun a10 w2 =>
 RDI PG (loadVar 22 (Addr.add a6 1)) .u16 w2 fun x13 =>
 RDI PG (loadVar 22 (Addr.add a6 0)) .u16 w2 fun x15 =>
 RD PG (Instr.build 32 #[(0, (.int .u16 x13)), (1, (.int .u16 x15)), (2, (.int .u32 seq)), (3, (.int .u32 ack))]) w2 fun v =>
 ∃ x18 : Int, ∃ x18v1 : Int, ∃ x18v2 : Int, ∃ x18v3 : Int, ∃ x18v4 : Int, ∃ (x18v5 : Option Addr) (x18N x18C : Nat), ∃ (x18v6 : Option Addr) (x18N1 x18C1 : Nat), v = (.agg #[(.int .u16 x18), (.int .u16 x18v1), (.int .u32 x18v2), (.int .u32 x18v3), (.int .u8 x18v4), (.slice x18v5 x18N x18C), (.slice x18v6 x18N1 x18C1)]) ∧
 (RUNA PG (Instr.alloc 32 true (.tuple #[])) w2 fun a11 w3 =>
 RUNU PG (storeVar 32 a11 (.agg #[(.int .u16 x18), (.int .u16 x18v1), (.int .u32 x18v2), (.int .u32 x18v3), (.int .u8 x18v4), (.slice x18v5 x18N x18C), (.slice x18v6 x18N1 x18C1)])) w3 fun w4 =>
 LETB (k == (1 : Int)) fun x21 =>
 IFB x21
 (RUNU PG (storeVar 5 (Addr.add a11 4) (.int .u8 (4 : Int))) w4 fun w5 =>
 RD PG (loadVar 32 a11) w5 fun v1 =>
 ∃ x70 : Int, ∃ x70v1 : Int, ∃ x70v2 : Int, ∃ x70v3 : Int, ∃ x70v4 : Int, ∃ (x70v5 : Option Addr) (x70N x70C : Nat), ∃ (x70v6 : Option Addr) (x70N1 x70C1 : Nat), v1 = (.agg #[(.int .u16 x70), (.int .u16 x70v1), (.int .u32 x70v2), (.int .u32 x70v3), (.int .u8 x70v4), (.slice x70v5 x70N x70C), (.slice x70v6 x70N1 x70C1)]) ∧
 (RUNU PG (storeVar 32 a10 (.agg #[(.int .u16 x70), (.int .u16 x70v1), (.int .u32 x70v2), (.int .u32 x70v3), (.int .u8 x70v4), (.slice x70v5 x70N x70C), (.slice x70v6 x70N1 x70C1)])) w5 fun w6 =>
 RD PG (loadVar 32 a10) w6 fun v3 =>
 ∃ r : Int, ∃ r1 : Int, ∃ r2 : Int, ∃ r3 : Int, ∃ r4 : Int, ∃ (r5 : Option Addr) (rN rC : Nat), ∃ (r6 : Option Addr) (rN1 rC1 : Nat), v3 = (.agg #[(.int .u16 r), (.int .u16 r1), (.int .u32 r2), (.int .u32 r3), (.int .u8 r4), (.slice r5 rN rC), (.slice r6 rN1 rC1)]) ∧
 (Q (.agg #[(.int .u16 r), (.int .u16 r1), (.int .u32 r2), (.int .u32 r3), (.int .u8 r4), (.slice r5 rN rC), (.slice r6 rN1 rC1)]) w6)))
 (LETB (k == (2 : Int)) fun x24 =>
 IFB x24
 (RUNU PG (storeVar 5 (Addr.add a11 4) (.int .u8 (1 : Int))) w4 fun w7 =>
 ∃ S : World → Prop, S (w7.drew) ∧
 (RDS PG (loadVar 32 a11) S fun v4 =>
 ∃ x27 : Int, ∃ x27v1 : Int, ∃ x27v2 : Int, ∃ x27v3 : Int, ∃ x27v4 : Int, ∃ (x27v5 : Option Addr) (x27N x27C : Nat), ∃ (x27v6 : Option Addr) (x27N1 x27C1 : Nat), v4 = (.agg #[(.int .u16 x27), (.int .u16 x27v1), (.int .u32 x27v2), (.int .u32 x27v3), (.int .u8 x27v4), (.slice x27v5 x27N x27C), (.slice x27v6 x27N1 x27C1)]) ∧
 (RDS PG (Instr.build 148 #[(0, (.int .u64 (1 : Int)))]) S fun v5 =>
 ∃ x28 : Int, ∃ x28v1 : Bool, ∃ x28v2 : Int, v5 = (.agg #[(.int .u64 x28), (.bool x28v1), (.int .u64 x28v2)]) ∧
 (CALL PG 73 [(.agg #[(.int .u64 x28), (.bool x28v1), (.int .u64 x28v2)])] (w7.drew) fun v6 w8 =>
 ∃ x29 : Int, ∃ (x29v1 : Option Addr) (x29N x29C : Nat), v6 = (.agg #[(.int .u8 x29), (.slice x29v1 x29N x29C)]) ∧
 (∃ S1 : World → Prop, (∀ x, S1 x → S x) ∧ S1 w8 ∧
 (RUNL PG (Instr.buildSlice 29 1 #[(0, (.agg #[(.int .u8 x29), (.slice x29v1 x29N x29C)]))]) w8 fun x30 x30N x30C w9 =>
 ∃ S2 : World → Prop, (∀ x, S2 x → S1 x) ∧ S2 w9 ∧
 (CALL PG 72 [(.agg #[(.int .u16 x27), (.int .u16 x27v1), (.int .u32 x27v2), (.int .u32 x27v3), (.int .u8 x27v4), (.slice x27v5 x27N x27C), (.slice x27v6 x27N1 x27C1)]), (.slice x30 x30N x30C)] w9 fun v7 w10 =>
 ∃ x31 : Int, ∃ x31v1 : Int, ∃ x31v2 : Int, ∃ x31v3 : Int, ∃ x31v4 : Int, ∃ (x31v5 : Option Addr) (x31N x31C : Nat), ∃ (x31v6 : Option Addr) (x31N1 x31C1 : Nat), v7 = (.agg #[(.int .u16 x31), (.int .u16 x31v1), (.int .u32 x31v2), (.int .u32 x31v3), (.int .u8 x31v4), (.slice x31v5 x31N x31C), (.slice x31v6 x31N1 x31C1)]) ∧
 (RUNU PG (storeVar 32 a10 (.agg #[(.int .u16 x31), (.int .u16 x31v1), (.int .u32 x31v2), (.int .u32 x31v3), (.int .u8 x31v4), (.slice x31v5 x31N x31C), (.slice x31v6 x31N1 x31C1)])) w10 fun w11 =>
 RD PG (loadVar 32 a10) w11 fun v9 =>
 ∃ r7 : Int, ∃ r8 : Int, ∃ r9 : Int, ∃ r10 : Int, ∃ r11 : Int, ∃ (r12 : Option Addr) (rN2 rC2 : Nat), ∃ (r13 : Option Addr) (rN3 rC3 : Nat), v9 = (.agg #[(.int .u16 r7), (.int .u16 r8), (.int .u32 r9), (.int .u32 r10), (.int .u8 r11), (.slice r12 rN2 rC2), (.slice r13 rN3 rC3)]) ∧
 (Q (.agg #[(.int .u16 r7), (.int .u16 r8), (.int .u32 r9), (.int .u32 r10), (.int .u8 r11), (.slice r12 rN2 rC2), (.slice r13 rN3 rC3)]) w11)))))))))
 (LETB (k == (3 : Int)) fun x32 =>
 IFB x32
 (RUNU PG (storeVar 5 (Addr.add a11 4) (.int .u8 (3 : Int))) w4 fun w12 =>
 ∃ S3 : World → Prop, S3 (w12.drew) ∧
 (RDS PG (loadVar 32 a11) S3 fun v10 =>
 ∃ x35 : Int, ∃ x35v1 : Int, ∃ x35v2 : Int, ∃ x35v3 : Int, ∃ x35v4 : Int, ∃ (x35v5 : Option Addr) (x35N x35C : Nat), ∃ (x35v6 : Option Addr) (x35N1 x35C1 : Nat), v10 = (.agg #[(.int .u16 x35), (.int .u16 x35v1), (.int .u32 x35v2), (.int .u32 x35v3), (.int .u8 x35v4), (.slice x35v5 x35N x35C), (.slice x35v6 x35N1 x35C1)]) ∧
 (RDS PG (Instr.build 148 #[(0, (.int .u64 (1 : Int))), (1, (.bool true))]) S3 fun v11 =>
 ∃ x36 : Int, ∃ x36v1 : Bool, ∃ x36v2 : Int, v11 = (.agg #[(.int .u64 x36), (.bool x36v1), (.int .u64 x36v2)]) ∧
 (CALL PG 73 [(.agg #[(.int .u64 x36), (.bool x36v1), (.int .u64 x36v2)])] (w12.drew) fun v12 w13 =>
 ∃ x37 : Int, ∃ (x37v1 : Option Addr) (x37N x37C : Nat), v12 = (.agg #[(.int .u8 x37), (.slice x37v1 x37N x37C)]) ∧
 (∃ S4 : World → Prop, (∀ x, S4 x → S3 x) ∧ S4 w13 ∧
 (RUNL PG (Instr.buildSlice 29 1 #[(0, (.agg #[(.int .u8 x37), (.slice x37v1 x37N x37C)]))]) w13 fun x38 x38N x38C w14 =>
 ∃ S5 : World → Prop, (∀ x, S5 x → S4 x) ∧ S5 w14 ∧
 (CALL PG 72 [(.agg #[(.int .u16 x35), (.int .u16 x35v1), (.int .u32 x35v2), (.int .u32 x35v3), (.int .u8 x35v4), (.slice x35v5 x35N x35C), (.slice x35v6 x35N1 x35C1)]), (.slice x38 x38N x38C)] w14 fun v13 w15 =>
 ∃ x39 : Int, ∃ x39v1 : Int, ∃ x39v2 : Int, ∃ x39v3 : Int, ∃ x39v4 : Int, ∃ (x39v5 : Option Addr) (x39N x39C : Nat), ∃ (x39v6 : Option Addr) (x39N1 x39C1 : Nat), v13 = (.agg #[(.int .u16 x39), (.int .u16 x39v1), (.int .u32 x39v2), (.int .u32 x39v3), (.int .u8 x39v4), (.slice x39v5 x39N x39C), (.slice x39v6 x39N1 x39C1)]) ∧
 (RUNU PG (storeVar 32 a10 (.agg #[(.int .u16 x39), (.int .u16 x39v1), (.int .u32 x39v2), (.int .u32 x39v3), (.int .u8 x39v4), (.slice x39v5 x39N x39C), (.slice x39v6 x39N1 x39C1)])) w15 fun w16 =>
 RD PG (loadVar 32 a10) w16 fun v15 =>
 ∃ r14 : Int, ∃ r15 : Int, ∃ r16 : Int, ∃ r17 : Int, ∃ r18 : Int, ∃ (r19 : Option Addr) (rN4 rC4 : Nat), ∃ (r20 : Option Addr) (rN5 rC5 : Nat), v15 = (.agg #[(.int .u16 r14), (.int .u16 r15), (.int .u32 r16), (.int .u32 r17), (.int .u8 r18), (.slice r19 rN4 rC4), (.slice r20 rN5 rC5)]) ∧
 (Q (.agg #[(.int .u16 r14), (.int .u16 r15), (.int .u32 r16), (.int .u32 r17), (.int .u8 r18), (.slice r19 rN4 rC4), (.slice r20 rN5 rC5)]) w16)))))))))
 (LETB (k == (4 : Int)) fun x40 =>
 IFB x40
 (RUNU PG (storeVar 5 (Addr.add a11 4) (.int .u8 (2 : Int))) w4 fun w17 =>
 NEED (0 ≤ (0 : Int) ∧ (0 : Int) ≤ (minN (dataN : Int) (1024 : Int)) ∧ (minN (dataN : Int) (1024 : Int)) ≤ ((dataC : Nat) : Int))
 (RUNL PG (Builtin.append_ #[30, 30] 30 #[(.slice none 0 0), (.slice (cutA data dataC 1 (0 : Int)) (Int.toNat (minN (dataN : Int) (1024 : Int)) - Int.toNat (0 : Int)) (dataC - Int.toNat (0 : Int)))]) w17 fun x48 x48N x48C w18 =>
 RUNU PG (storeVar 30 (Addr.add a11 6) (.slice x48 x48N x48C)) w18 fun w19 =>
 ∃ S6 : World → Prop, S6 (w19.drew) ∧
 (RDS PG (loadVar 32 a11) S6 fun v16 =>
 ∃ x50 : Int, ∃ x50v1 : Int, ∃ x50v2 : Int, ∃ x50v3 : Int, ∃ x50v4 : Int, ∃ (x50v5 : Option Addr) (x50N x50C : Nat), ∃ (x50v6 : Option Addr) (x50N1 x50C1 : Nat), v16 = (.agg #[(.int .u16 x50), (.int .u16 x50v1), (.int .u32 x50v2), (.int .u32 x50v3), (.int .u8 x50v4), (.slice x50v5 x50N x50C), (.slice x50v6 x50N1 x50C1)]) ∧
 (RDS PG (Instr.build 151 #[(2, (.int .u64 (IntKind.u64.wrap seq))), (3, (.int .u64 (IntKind.u64.wrap ack)))]) S6 fun v17 =>
 ∃ x55 : Bool, ∃ x55v1 : Bool, ∃ x55v2 : Int, ∃ x55v3 : Int, ∃ x55v4 : Int, ∃ x55v5 : Int, v17 = (.agg #[(.bool x55), (.bool x55v1), (.int .u64 x55v2), (.int .u64 x55v3), (.int .u32 x55v4), (.int .u64 x55v5)]) ∧
 (CALL PG 74 [(.agg #[(.bool x55), (.bool x55v1), (.int .u64 x55v2), (.int .u64 x55v3), (.int .u32 x55v4), (.int .u64 x55v5)])] (w19.drew) fun v18 w20 =>
 ∃ x56 : Int, ∃ (x56v1 : Option Addr) (x56N x56C : Nat), v18 = (.agg #[(.int .u8 x56), (.slice x56v1 x56N x56C)]) ∧
 (∃ S7 : World → Prop, (∀ x, S7 x → S6 x) ∧ S7 w20 ∧
 (RUNL PG (Instr.buildSlice 29 1 #[(0, (.agg #[(.int .u8 x56), (.slice x56v1 x56N x56C)]))]) w20 fun x57 x57N x57C w21 =>
 ∃ S8 : World → Prop, (∀ x, S8 x → S7 x) ∧ S8 w21 ∧
 (CALL PG 72 [(.agg #[(.int .u16 x50), (.int .u16 x50v1), (.int .u32 x50v2), (.int .u32 x50v3), (.int .u8 x50v4), (.slice x50v5 x50N x50C), (.slice x50v6 x50N1 x50C1)]), (.slice x57 x57N x57C)] w21 fun v19 w22 =>
 ∃ x58 : Int, ∃ x58v1 : Int, ∃ x58v2 : Int, ∃ x58v3 : Int, ∃ x58v4 : Int, ∃ (x58v5 : Option Addr) (x58N x58C : Nat), ∃ (x58v6 : Option Addr) (x58N1 x58C1 : Nat), v19 = (.agg #[(.int .u16 x58), (.int .u16 x58v1), (.int .u32 x58v2), (.int .u32 x58v3), (.int .u8 x58v4), (.slice x58v5 x58N x58C), (.slice x58v6 x58N1 x58C1)]) ∧
 (RUNU PG (storeVar 32 a10 (.agg #[(.int .u16 x58), (.int .u16 x58v1), (.int .u32 x58v2), (.int .u32 x58v3), (.int .u8 x58v4), (.slice x58v5 x58N x58C), (.slice x58v6 x58N1 x58C1)])) w22 fun w23 =>
 RD PG (loadVar 32 a10) w23 fun v21 =>
 ∃ r21 : Int, ∃ r22 : Int, ∃ r23 : Int, ∃ r24 : Int, ∃ r25 : Int, ∃ (r26 : Option Addr) (rN6 rC6 : Nat), ∃ (r27 : Option Addr) (rN7 rC7 : Nat), v21 = (.agg #[(.int .u16 r21), (.int .u16 r22), (.int .u32 r23), (.int .u32 r24), (.int .u8 r25), (.slice r26 rN6 rC6), (.slice r27 rN7 rC7)]) ∧
 (Q (.agg #[(.int .u16 r21), (.int .u16 r22), (.int .u32 r23), (.int .u32 r24), (.int .u8 r25), (.slice r26 rN6 rC6), (.slice r27 rN7 rC7)]) w23))))))))))
 (LETB (k == (6 : Int)) fun x59 =>
 IFB x59
 (RUNU PG (storeVar 5 (Addr.add a11 4) (.int .u8 (2 : Int))) w4 fun w24 =>
 ∃ S9 : World → Prop, S9 (w24.drew) ∧
 (RDS PG (loadVar 32 a11) S9 fun v22 =>
 ∃ x62 : Int, ∃ x62v1 : Int, ∃ x62v2 : Int, ∃ x62v3 : Int, ∃ x62v4 : Int, ∃ (x62v5 : Option Addr) (x62N x62C : Nat), ∃ (x62v6 : Option Addr) (x62N1 x62C1 : Nat), v22 = (.agg #[(.int .u16 x62), (.int .u16 x62v1), (.int .u32 x62v2), (.int .u32 x62v3), (.int .u8 x62v4), (.slice x62v5 x62N x62C), (.slice x62v6 x62N1 x62C1)]) ∧
 (RDS PG (Instr.build 151 #[]) S9 fun v23 =>
 ∃ x63 : Bool, ∃ x63v1 : Bool, ∃ x63v2 : Int, ∃ x63v3 : Int, ∃ x63v4 : Int, ∃ x63v5 : Int, v23 = (.agg #[(.bool x63), (.bool x63v1), (.int .u64 x63v2), (.int .u64 x63v3), (.int .u32 x63v4), (.int .u64 x63v5)]) ∧
 (RDS PG (Instr.build 153 #[(0, (.int .u8 (7 : Int))), (1, (.int .u32 ack))]) S9 fun v24 =>
 ∃ x66 : Int, ∃ x66v1 : Int, ∃ x66v2 : Int, ∃ x66v3 : Int, ∃ x66v4 : Bool, ∃ x66v5 : Int, v24 = (.agg #[(.int .u8 x66), (.int .u32 x66v1), (.int .u8 x66v2), (.int .u8 x66v3), (.bool x66v4), (.int .u64 x66v5)]) ∧
 (CALL PG 74 [(.agg #[(.bool x63), (.bool x63v1), (.int .u64 x63v2), (.int .u64 x63v3), (.int .u32 x63v4), (.int .u64 x63v5)])] (w24.drew) fun v25 w25 =>
 ∃ x64 : Int, ∃ (x64v1 : Option Addr) (x64N x64C : Nat), v25 = (.agg #[(.int .u8 x64), (.slice x64v1 x64N x64C)]) ∧
 (∃ S10 : World → Prop, (∀ x, S10 x → S9 x) ∧ S10 w25 ∧
 (CALL PG 75 [(.agg #[(.int .u8 x66), (.int .u32 x66v1), (.int .u8 x66v2), (.int .u8 x66v3), (.bool x66v4), (.int .u64 x66v5)])] w25 fun v26 w26 =>
 ∃ x67 : Int, ∃ (x67v1 : Option Addr) (x67N x67C : Nat), v26 = (.agg #[(.int .u8 x67), (.slice x67v1 x67N x67C)]) ∧
 (∃ S11 : World → Prop, (∀ x, S11 x → S10 x) ∧ S11 w26 ∧
 (RUNL PG (Instr.buildSlice 29 2 #[(0, (.agg #[(.int .u8 x64), (.slice x64v1 x64N x64C)])), (1, (.agg #[(.int .u8 x67), (.slice x67v1 x67N x67C)]))]) w26 fun x68 x68N x68C w27 =>
 ∃ S12 : World → Prop, (∀ x, S12 x → S11 x) ∧ S12 w27 ∧
 (CALL PG 72 [(.agg #[(.int .u16 x62), (.int .u16 x62v1), (.int .u32 x62v2), (.int .u32 x62v3), (.int .u8 x62v4), (.slice x62v5 x62N x62C), (.slice x62v6 x62N1 x62C1)]), (.slice x68 x68N x68C)] w27 fun v27 w28 =>
 ∃ x69 : Int, ∃ x69v1 : Int, ∃ x69v2 : Int, ∃ x69v3 : Int, ∃ x69v4 : Int, ∃ (x69v5 : Option Addr) (x69N x69C : Nat), ∃ (x69v6 : Option Addr) (x69N1 x69C1 : Nat), v27 = (.agg #[(.int .u16 x69), (.int .u16 x69v1), (.int .u32 x69v2), (.int .u32 x69v3), (.int .u8 x69v4), (.slice x69v5 x69N x69C), (.slice x69v6 x69N1 x69C1)]) ∧
 (RUNU PG (storeVar 32 a10 (.agg #[(.int .u16 x69), (.int .u16 x69v1), (.int .u32 x69v2), (.int .u32 x69v3), (.int .u8 x69v4), (.slice x69v5 x69N x69C), (.slice x69v6 x69N1 x69C1)])) w28 fun w29 =>
 RD PG (loadVar 32 a10) w29 fun v29 =>
 ∃ r28 : Int, ∃ r29 : Int, ∃ r30 : Int, ∃ r31 : Int, ∃ r32 : Int, ∃ (r33 : Option Addr) (rN8 rC8 : Nat), ∃ (r34 : Option Addr) (rN9 rC9 : Nat), v29 = (.agg #[(.int .u16 r28), (.int .u16 r29), (.int .u32 r30), (.int .u32 r31), (.int .u8 r32), (.slice r33 rN8 rC8), (.slice r34 rN9 rC9)]) ∧
 (Q (.agg #[(.int .u16 r28), (.int .u16 r29), (.int .u32 r30), (.int .u32 r31), (.int .u8 r32), (.slice r33 rN8 rC8), (.slice r34 rN9 rC9)]) w29))))))))))))
 (RUNU PG (storeVar 5 (Addr.add a11 4) (.int .u8 (2 : Int))) w4 fun w30 =>
 RD PG (loadVar 32 a11) w30 fun v30 =>
 ∃ x70v7 : Int, ∃ x70v8 : Int, ∃ x70v9 : Int, ∃ x70v10 : Int, ∃ x70v11 : Int, ∃ (x70v12 : Option Addr) (x70N2 x70C2 : Nat), ∃ (x70v13 : Option Addr) (x70N3 x70C3 : Nat), v30 = (.agg #[(.int .u16 x70v7), (.int .u16 x70v8), (.int .u32 x70v9), (.int .u32 x70v10), (.int .u8 x70v11), (.slice x70v12 x70N2 x70C2), (.slice x70v13 x70N3 x70C3)]) ∧
 (RUNU PG (storeVar 32 a10 (.agg #[(.int .u16 x70v7), (.int .u16 x70v8), (.int .u32 x70v9), (.int .u32 x70v10), (.int .u8 x70v11), (.slice x70v12 x70N2 x70C2), (.slice x70v13 x70N3 x70C3)])) w30 fun w31 =>
 RD PG (loadVar 32 a10) w31 fun v32 =>
 ∃ r35 : Int, ∃ r36 : Int, ∃ r37 : Int, ∃ r38 : Int, ∃ r39 : Int, ∃ (r40 : Option Addr) (rN10 rC10 : Nat), ∃ (r41 : Option Addr) (rN11 rC11 : Nat), v32 = (.agg #[(.int .u16 r35), (.int .u16 r36), (.int .u32 r37), (.int .u32 r38), (.int .u8 r39), (.slice r40 rN10 rC10), (.slice r41 rN11 rC11)]) ∧
 (Q (.agg #[(.int .u16 r35), (.int .u16 r36), (.int .u32 r37), (.int .u32 r38), (.int .u8 r39), (.slice r40 rN10 rC10), (.slice r41 rN11 rC11)]) w31))))))))
theorem eq21 : ∀ (k : Int) (a : Int) (a1 : Int) (seq : Int) (ack : Int) (data : Option Addr) (dataN dataC : Nat) (w : World) (Q : Value → World → Prop), vcF PG TB Try.f21 .nil [(.int .i64 k), (.agg #[(.int .u16 a), (.int .u16 a1)]), (.int .u32 seq), (.int .u32 ack), (.slice data dataN dataC)] w Q = N21 k a a1 seq ack data dataN dataC w Q := by intros; kernel_rfl
theorem call21 {k : Int} {a : Int} {a1 : Int} {seq : Int} {ack : Int} {data : Option Addr} {dataN dataC : Nat} {w : World} {Q : Value → World → Prop} (hN : N21 k a a1 seq ack data dataN dataC w Q) : CALL PG 21 [(.int .i64 k), (.agg #[(.int .u16 a), (.int .u16 a1)]), (.int .u32 seq), (.int .u32 ack), (.slice data dataN dataC)] w Q := calls_vc tabOk Try.func21 (by rw [eq21]; exact hN)

/-- brougham/broughamref33.Make -/
def N23 (kind : Int) (localv : Int) (remote : Int) (seq : Int) (ack : Int) (data : Option Addr) (dataN dataC : Nat) (w : World) (Q : Value → World → Prop) : Prop :=
 RUNA PG (Instr.alloc 32 true (.tuple #[])) w fun a12 w1 =>
 RD PG (Instr.build 32 #[(0, (.int .u16 remote)), (1, (.int .u16 localv)), (2, (.int .u32 seq)), (3, (.int .u32 ack)), (4, (.int .u8 (2 : Int)))]) w1 fun v =>
 ∃ x18 : Int, ∃ x18v1 : Int, ∃ x18v2 : Int, ∃ x18v3 : Int, ∃ x18v4 : Int, ∃ (x18v5 : Option Addr) (x18N x18C : Nat), ∃ (x18v6 : Option Addr) (x18N1 x18C1 : Nat), v = (.agg #[(.int .u16 x18), (.int .u16 x18v1), (.int .u32 x18v2), (.int .u32 x18v3), (.int .u8 x18v4), (.slice x18v5 x18N x18C), (.slice x18v6 x18N1 x18C1)]) ∧
 (RUNA PG (Instr.alloc 32 true (.tuple #[])) w1 fun a13 w2 =>
 RUNU PG (storeVar 32 a13 (.agg #[(.int .u16 x18), (.int .u16 x18v1), (.int .u32 x18v2), (.int .u32 x18v3), (.int .u8 x18v4), (.slice x18v5 x18N x18C), (.slice x18v6 x18N1 x18C1)])) w2 fun w3 =>
 LETB (kind == (1 : Int)) fun x20 =>
 IFB x20
 (RUNU PG (storeVar 5 (Addr.add a13 4) (.int .u8 (4 : Int))) w3 fun w4 =>
 RD PG (loadVar 32 a13) w4 fun v1 =>
 ∃ x67 : Int, ∃ x67v1 : Int, ∃ x67v2 : Int, ∃ x67v3 : Int, ∃ x67v4 : Int, ∃ (x67v5 : Option Addr) (x67N x67C : Nat), ∃ (x67v6 : Option Addr) (x67N1 x67C1 : Nat), v1 = (.agg #[(.int .u16 x67), (.int .u16 x67v1), (.int .u32 x67v2), (.int .u32 x67v3), (.int .u8 x67v4), (.slice x67v5 x67N x67C), (.slice x67v6 x67N1 x67C1)]) ∧
 (RUNU PG (storeVar 32 a12 (.agg #[(.int .u16 x67), (.int .u16 x67v1), (.int .u32 x67v2), (.int .u32 x67v3), (.int .u8 x67v4), (.slice x67v5 x67N x67C), (.slice x67v6 x67N1 x67C1)])) w4 fun w5 =>
 RD PG (loadVar 32 a12) w5 fun v3 =>
 ∃ r : Int, ∃ r1 : Int, ∃ r2 : Int, ∃ r3 : Int, ∃ r4 : Int, ∃ (r5 : Option Addr) (rN rC : Nat), ∃ (r6 : Option Addr) (rN1 rC1 : Nat), v3 = (.agg #[(.int .u16 r), (.int .u16 r1), (.int .u32 r2), (.int .u32 r3), (.int .u8 r4), (.slice r5 rN rC), (.slice r6 rN1 rC1)]) ∧
 (Q (.agg #[(.int .u16 r), (.int .u16 r1), (.int .u32 r2), (.int .u32 r3), (.int .u8 r4), (.slice r5 rN rC), (.slice r6 rN1 rC1)]) w5)))
 (LETB (kind == (2 : Int)) fun x23 =>
 IFB x23
 (RUNU PG (storeVar 5 (Addr.add a13 4) (.int .u8 (1 : Int))) w3 fun w6 =>
 CALL PG 77 [(.int .u64 (1 : Int)), (.int .u64 (0 : Int)), (.bool false)] w6 fun v4 w7 =>
 ∃ (x26 : Option Addr) (x26N x26C : Nat), v4 = (.slice x26 x26N x26C) ∧
 (RD PG (Instr.build 138 #[(0, (.int .u8 (1 : Int))), (1, (.slice x26 x26N x26C))]) w7 fun v5 =>
 ∃ x27 : Int, ∃ (x27v1 : Option Addr) (x27N x27C : Nat), v5 = (.agg #[(.int .u8 x27), (.slice x27v1 x27N x27C)]) ∧
 (RUNL PG (Instr.buildSlice 29 1 #[(0, (.agg #[(.int .u8 x27), (.slice x27v1 x27N x27C)]))]) w7 fun x28 x28N x28C w8 =>
 RUNU PG (storeVar 29 (Addr.add a13 5) (.slice x28 x28N x28C)) w8 fun w9 =>
 RD PG (loadVar 32 a13) w9 fun v6 =>
 ∃ x67v7 : Int, ∃ x67v8 : Int, ∃ x67v9 : Int, ∃ x67v10 : Int, ∃ x67v11 : Int, ∃ (x67v12 : Option Addr) (x67N2 x67C2 : Nat), ∃ (x67v13 : Option Addr) (x67N3 x67C3 : Nat), v6 = (.agg #[(.int .u16 x67v7), (.int .u16 x67v8), (.int .u32 x67v9), (.int .u32 x67v10), (.int .u8 x67v11), (.slice x67v12 x67N2 x67C2), (.slice x67v13 x67N3 x67C3)]) ∧
 (RUNU PG (storeVar 32 a12 (.agg #[(.int .u16 x67v7), (.int .u16 x67v8), (.int .u32 x67v9), (.int .u32 x67v10), (.int .u8 x67v11), (.slice x67v12 x67N2 x67C2), (.slice x67v13 x67N3 x67C3)])) w9 fun w10 =>
 RD PG (loadVar 32 a12) w10 fun v8 =>
 ∃ r7 : Int, ∃ r8 : Int, ∃ r9 : Int, ∃ r10 : Int, ∃ r11 : Int, ∃ (r12 : Option Addr) (rN2 rC2 : Nat), ∃ (r13 : Option Addr) (rN3 rC3 : Nat), v8 = (.agg #[(.int .u16 r7), (.int .u16 r8), (.int .u32 r9), (.int .u32 r10), (.int .u8 r11), (.slice r12 rN2 rC2), (.slice r13 rN3 rC3)]) ∧
 (Q (.agg #[(.int .u16 r7), (.int .u16 r8), (.int .u32 r9), (.int .u32 r10), (.int .u8 r11), (.slice r12 rN2 rC2), (.slice r13 rN3 rC3)]) w10)))))
 (LETB (kind == (3 : Int)) fun x30 =>
 IFB x30
 (RUNU PG (storeVar 5 (Addr.add a13 4) (.int .u8 (3 : Int))) w3 fun w11 =>
 CALL PG 77 [(.int .u64 (1 : Int)), (.int .u64 (0 : Int)), (.bool true)] w11 fun v9 w12 =>
 ∃ (x33 : Option Addr) (x33N x33C : Nat), v9 = (.slice x33 x33N x33C) ∧
 (RD PG (Instr.build 138 #[(0, (.int .u8 (1 : Int))), (1, (.slice x33 x33N x33C))]) w12 fun v10 =>
 ∃ x34 : Int, ∃ (x34v1 : Option Addr) (x34N x34C : Nat), v10 = (.agg #[(.int .u8 x34), (.slice x34v1 x34N x34C)]) ∧
 (RUNL PG (Instr.buildSlice 29 1 #[(0, (.agg #[(.int .u8 x34), (.slice x34v1 x34N x34C)]))]) w12 fun x35 x35N x35C w13 =>
 RUNU PG (storeVar 29 (Addr.add a13 5) (.slice x35 x35N x35C)) w13 fun w14 =>
 RD PG (loadVar 32 a13) w14 fun v11 =>
 ∃ x67v14 : Int, ∃ x67v15 : Int, ∃ x67v16 : Int, ∃ x67v17 : Int, ∃ x67v18 : Int, ∃ (x67v19 : Option Addr) (x67N4 x67C4 : Nat), ∃ (x67v20 : Option Addr) (x67N5 x67C5 : Nat), v11 = (.agg #[(.int .u16 x67v14), (.int .u16 x67v15), (.int .u32 x67v16), (.int .u32 x67v17), (.int .u8 x67v18), (.slice x67v19 x67N4 x67C4), (.slice x67v20 x67N5 x67C5)]) ∧
 (RUNU PG (storeVar 32 a12 (.agg #[(.int .u16 x67v14), (.int .u16 x67v15), (.int .u32 x67v16), (.int .u32 x67v17), (.int .u8 x67v18), (.slice x67v19 x67N4 x67C4), (.slice x67v20 x67N5 x67C5)])) w14 fun w15 =>
 RD PG (loadVar 32 a12) w15 fun v13 =>
 ∃ r14 : Int, ∃ r15 : Int, ∃ r16 : Int, ∃ r17 : Int, ∃ r18 : Int, ∃ (r19 : Option Addr) (rN4 rC4 : Nat), ∃ (r20 : Option Addr) (rN5 rC5 : Nat), v13 = (.agg #[(.int .u16 r14), (.int .u16 r15), (.int .u32 r16), (.int .u32 r17), (.int .u8 r18), (.slice r19 rN4 rC4), (.slice r20 rN5 rC5)]) ∧
 (Q (.agg #[(.int .u16 r14), (.int .u16 r15), (.int .u32 r16), (.int .u32 r17), (.int .u8 r18), (.slice r19 rN4 rC4), (.slice r20 rN5 rC5)]) w15)))))
 (LETB (kind == (4 : Int)) fun x37 =>
 IFB x37
 (RD PG (Instr.build 158 #[(2, (.int .u64 (IntKind.u64.wrap seq))), (3, (.int .u64 (IntKind.u64.wrap ack)))]) w3 fun v14 =>
 ∃ x43 : Bool, ∃ x43v1 : Bool, ∃ x43v2 : Int, ∃ x43v3 : Int, ∃ x43v4 : Int, ∃ x43v5 : Int, v14 = (.agg #[(.bool x43), (.bool x43v1), (.int .u64 x43v2), (.int .u64 x43v3), (.int .u32 x43v4), (.int .u64 x43v5)]) ∧
 (CALL PG 78 [(.agg #[(.bool x43), (.bool x43v1), (.int .u64 x43v2), (.int .u64 x43v3), (.int .u32 x43v4), (.int .u64 x43v5)])] w3 fun v15 w16 =>
 ∃ (x44 : Option Addr) (x44N x44C : Nat), v15 = (.slice x44 x44N x44C) ∧
 (RD PG (Instr.build 138 #[(0, (.int .u8 (3 : Int))), (1, (.slice x44 x44N x44C))]) w16 fun v16 =>
 ∃ x45 : Int, ∃ (x45v1 : Option Addr) (x45N x45C : Nat), v16 = (.agg #[(.int .u8 x45), (.slice x45v1 x45N x45C)]) ∧
 (RUNL PG (Instr.buildSlice 29 1 #[(0, (.agg #[(.int .u8 x45), (.slice x45v1 x45N x45C)]))]) w16 fun x46 x46N x46C w17 =>
 RUNU PG (storeVar 29 (Addr.add a13 5) (.slice x46 x46N x46C)) w17 fun w18 =>
 RUNU PG (storeVar 30 (Addr.add a13 6) (.slice data dataN dataC)) w18 fun w19 =>
 IFB (decide ((dataN : Int) > (1024 : Int)))
 (NEED (0 ≤ (0 : Int) ∧ (0 : Int) ≤ (1024 : Int) ∧ (1024 : Int) ≤ ((dataC : Nat) : Int))
 (RUNU PG (storeVar 30 (Addr.add a13 6) (.slice (cutA data dataC 1 (0 : Int)) (Int.toNat (1024 : Int) - Int.toNat (0 : Int)) (dataC - Int.toNat (0 : Int)))) w19 fun w20 =>
 RD PG (loadVar 32 a13) w20 fun v17 =>
 ∃ x67v21 : Int, ∃ x67v22 : Int, ∃ x67v23 : Int, ∃ x67v24 : Int, ∃ x67v25 : Int, ∃ (x67v26 : Option Addr) (x67N6 x67C6 : Nat), ∃ (x67v27 : Option Addr) (x67N7 x67C7 : Nat), v17 = (.agg #[(.int .u16 x67v21), (.int .u16 x67v22), (.int .u32 x67v23), (.int .u32 x67v24), (.int .u8 x67v25), (.slice x67v26 x67N6 x67C6), (.slice x67v27 x67N7 x67C7)]) ∧
 (RUNU PG (storeVar 32 a12 (.agg #[(.int .u16 x67v21), (.int .u16 x67v22), (.int .u32 x67v23), (.int .u32 x67v24), (.int .u8 x67v25), (.slice x67v26 x67N6 x67C6), (.slice x67v27 x67N7 x67C7)])) w20 fun w21 =>
 RD PG (loadVar 32 a12) w21 fun v19 =>
 ∃ r21 : Int, ∃ r22 : Int, ∃ r23 : Int, ∃ r24 : Int, ∃ r25 : Int, ∃ (r26 : Option Addr) (rN6 rC6 : Nat), ∃ (r27 : Option Addr) (rN7 rC7 : Nat), v19 = (.agg #[(.int .u16 r21), (.int .u16 r22), (.int .u32 r23), (.int .u32 r24), (.int .u8 r25), (.slice r26 rN6 rC6), (.slice r27 rN7 rC7)]) ∧
 (Q (.agg #[(.int .u16 r21), (.int .u16 r22), (.int .u32 r23), (.int .u32 r24), (.int .u8 r25), (.slice r26 rN6 rC6), (.slice r27 rN7 rC7)]) w21))))
 (RD PG (loadVar 32 a13) w19 fun v20 =>
 ∃ x67v28 : Int, ∃ x67v29 : Int, ∃ x67v30 : Int, ∃ x67v31 : Int, ∃ x67v32 : Int, ∃ (x67v33 : Option Addr) (x67N8 x67C8 : Nat), ∃ (x67v34 : Option Addr) (x67N9 x67C9 : Nat), v20 = (.agg #[(.int .u16 x67v28), (.int .u16 x67v29), (.int .u32 x67v30), (.int .u32 x67v31), (.int .u8 x67v32), (.slice x67v33 x67N8 x67C8), (.slice x67v34 x67N9 x67C9)]) ∧
 (RUNU PG (storeVar 32 a12 (.agg #[(.int .u16 x67v28), (.int .u16 x67v29), (.int .u32 x67v30), (.int .u32 x67v31), (.int .u8 x67v32), (.slice x67v33 x67N8 x67C8), (.slice x67v34 x67N9 x67C9)])) w19 fun w22 =>
 RD PG (loadVar 32 a12) w22 fun v22 =>
 ∃ r28 : Int, ∃ r29 : Int, ∃ r30 : Int, ∃ r31 : Int, ∃ r32 : Int, ∃ (r33 : Option Addr) (rN8 rC8 : Nat), ∃ (r34 : Option Addr) (rN9 rC9 : Nat), v22 = (.agg #[(.int .u16 r28), (.int .u16 r29), (.int .u32 r30), (.int .u32 r31), (.int .u8 r32), (.slice r33 rN8 rC8), (.slice r34 rN9 rC9)]) ∧
 (Q (.agg #[(.int .u16 r28), (.int .u16 r29), (.int .u32 r30), (.int .u32 r31), (.int .u8 r32), (.slice r33 rN8 rC8), (.slice r34 rN9 rC9)]) w22)))))))
 (LETB (kind == (6 : Int)) fun x56 =>
 IFB x56
 (RD PG (Instr.build 158 #[]) w3 fun v23 =>
 ∃ x58 : Bool, ∃ x58v1 : Bool, ∃ x58v2 : Int, ∃ x58v3 : Int, ∃ x58v4 : Int, ∃ x58v5 : Int, v23 = (.agg #[(.bool x58), (.bool x58v1), (.int .u64 x58v2), (.int .u64 x58v3), (.int .u32 x58v4), (.int .u64 x58v5)]) ∧
 (CALL PG 78 [(.agg #[(.bool x58), (.bool x58v1), (.int .u64 x58v2), (.int .u64 x58v3), (.int .u32 x58v4), (.int .u64 x58v5)])] w3 fun v24 w23 =>
 ∃ (x59 : Option Addr) (x59N x59C : Nat), v24 = (.slice x59 x59N x59C) ∧
 (RD PG (Instr.build 138 #[(0, (.int .u8 (3 : Int))), (1, (.slice x59 x59N x59C))]) w23 fun v25 =>
 ∃ x60 : Int, ∃ (x60v1 : Option Addr) (x60N x60C : Nat), v25 = (.agg #[(.int .u8 x60), (.slice x60v1 x60N x60C)]) ∧
 (RD PG (Instr.build 161 #[(0, (.int .u32 ack))]) w23 fun v26 =>
 ∃ x62 : Int, ∃ x62v1 : Int, ∃ x62v2 : Int, ∃ x62v3 : Bool, ∃ x62v4 : Int, v26 = (.agg #[(.int .u32 x62), (.int .u8 x62v1), (.int .u8 x62v2), (.bool x62v3), (.int .u64 x62v4)]) ∧
 (CALL PG 79 [(.agg #[(.int .u32 x62), (.int .u8 x62v1), (.int .u8 x62v2), (.bool x62v3), (.int .u64 x62v4)])] w23 fun v27 w24 =>
 ∃ (x63 : Option Addr) (x63N x63C : Nat), v27 = (.slice x63 x63N x63C) ∧
 (RD PG (Instr.build 138 #[(0, (.int .u8 (7 : Int))), (1, (.slice x63 x63N x63C))]) w24 fun v28 =>
 ∃ x64 : Int, ∃ (x64v1 : Option Addr) (x64N x64C : Nat), v28 = (.agg #[(.int .u8 x64), (.slice x64v1 x64N x64C)]) ∧
 (RUNL PG (Instr.buildSlice 29 2 #[(0, (.agg #[(.int .u8 x60), (.slice x60v1 x60N x60C)])), (1, (.agg #[(.int .u8 x64), (.slice x64v1 x64N x64C)]))]) w24 fun x65 x65N x65C w25 =>
 RUNU PG (storeVar 29 (Addr.add a13 5) (.slice x65 x65N x65C)) w25 fun w26 =>
 RD PG (loadVar 32 a13) w26 fun v29 =>
 ∃ x67v35 : Int, ∃ x67v36 : Int, ∃ x67v37 : Int, ∃ x67v38 : Int, ∃ x67v39 : Int, ∃ (x67v40 : Option Addr) (x67N10 x67C10 : Nat), ∃ (x67v41 : Option Addr) (x67N11 x67C11 : Nat), v29 = (.agg #[(.int .u16 x67v35), (.int .u16 x67v36), (.int .u32 x67v37), (.int .u32 x67v38), (.int .u8 x67v39), (.slice x67v40 x67N10 x67C10), (.slice x67v41 x67N11 x67C11)]) ∧
 (RUNU PG (storeVar 32 a12 (.agg #[(.int .u16 x67v35), (.int .u16 x67v36), (.int .u32 x67v37), (.int .u32 x67v38), (.int .u8 x67v39), (.slice x67v40 x67N10 x67C10), (.slice x67v41 x67N11 x67C11)])) w26 fun w27 =>
 RD PG (loadVar 32 a12) w27 fun v31 =>
 ∃ r35 : Int, ∃ r36 : Int, ∃ r37 : Int, ∃ r38 : Int, ∃ r39 : Int, ∃ (r40 : Option Addr) (rN10 rC10 : Nat), ∃ (r41 : Option Addr) (rN11 rC11 : Nat), v31 = (.agg #[(.int .u16 r35), (.int .u16 r36), (.int .u32 r37), (.int .u32 r38), (.int .u8 r39), (.slice r40 rN10 rC10), (.slice r41 rN11 rC11)]) ∧
 (Q (.agg #[(.int .u16 r35), (.int .u16 r36), (.int .u32 r37), (.int .u32 r38), (.int .u8 r39), (.slice r40 rN10 rC10), (.slice r41 rN11 rC11)]) w27)))))))))
 (RD PG (loadVar 32 a13) w3 fun v32 =>
 ∃ x67v42 : Int, ∃ x67v43 : Int, ∃ x67v44 : Int, ∃ x67v45 : Int, ∃ x67v46 : Int, ∃ (x67v47 : Option Addr) (x67N12 x67C12 : Nat), ∃ (x67v48 : Option Addr) (x67N13 x67C13 : Nat), v32 = (.agg #[(.int .u16 x67v42), (.int .u16 x67v43), (.int .u32 x67v44), (.int .u32 x67v45), (.int .u8 x67v46), (.slice x67v47 x67N12 x67C12), (.slice x67v48 x67N13 x67C13)]) ∧
 (RUNU PG (storeVar 32 a12 (.agg #[(.int .u16 x67v42), (.int .u16 x67v43), (.int .u32 x67v44), (.int .u32 x67v45), (.int .u8 x67v46), (.slice x67v47 x67N12 x67C12), (.slice x67v48 x67N13 x67C13)])) w3 fun w28 =>
 RD PG (loadVar 32 a12) w28 fun v34 =>
 ∃ r42 : Int, ∃ r43 : Int, ∃ r44 : Int, ∃ r45 : Int, ∃ r46 : Int, ∃ (r47 : Option Addr) (rN12 rC12 : Nat), ∃ (r48 : Option Addr) (rN13 rC13 : Nat), v34 = (.agg #[(.int .u16 r42), (.int .u16 r43), (.int .u32 r44), (.int .u32 r45), (.int .u8 r46), (.slice r47 rN12 rC12), (.slice r48 rN13 rC13)]) ∧
 (Q (.agg #[(.int .u16 r42), (.int .u16 r43), (.int .u32 r44), (.int .u32 r45), (.int .u8 r46), (.slice r47 rN12 rC12), (.slice r48 rN13 rC13)]) w28))))))))
theorem eq23 : ∀ (kind : Int) (localv : Int) (remote : Int) (seq : Int) (ack : Int) (data : Option Addr) (dataN dataC : Nat) (w : World) (Q : Value → World → Prop), vcF PG TB Try.f23 .nil [(.int .i64 kind), (.int .u16 localv), (.int .u16 remote), (.int .u32 seq), (.int .u32 ack), (.slice data dataN dataC)] w Q = N23 kind localv remote seq ack data dataN dataC w Q := by intros; kernel_rfl
theorem call23 {kind : Int} {localv : Int} {remote : Int} {seq : Int} {ack : Int} {data : Option Addr} {dataN dataC : Nat} {w : World} {Q : Value → World → Prop} (hN : N23 kind localv remote seq ack data dataN dataC w Q) : CALL PG 23 [(.int .i64 kind), (.int .u16 localv), (.int .u16 remote), (.int .u32 seq), (.int .u32 ack), (.slice data dataN dataC)] w Q := calls_vc tabOk Try.func23 (by rw [eq23]; exact hN)

end Go.Br
