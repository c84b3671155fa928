/- What the code of some functions says, as the core reads it; each reading is checked by the kernel. -/
import Derived.Test.YtggajodoaooafaaBrSeat
set_option linter.unusedVariables false
set_option maxRecDepth 100000
namespace Go.Br
open Go Go.Proofs

/-- brougham/broughamlaw33.AttackForetells -/
def N3 (a : Int) (a1 : Int) (a2 : Int) (a3 : Int) (a4 : Int) (a5 : Int) (a6 : Int) (a7 : Int) (a8 : Int) (a9 : Bool) (a10 : Bool) (a11 : Int) (a12 : Int) (a13 : Int) (a14 : Int) (a15 : Int) (a16 : Int) (b : Int) (b1 : Int) (b2 : Int) (b3 : Int) (b4 : Int) (b5 : Int) (b6 : Int) (b7 : Int) (b8 : Int) (b9 : Bool) (b10 : Bool) (b11 : Int) (b12 : Int) (b13 : Int) (b14 : Int) (b15 : Int) (b16 : Int) (s : Int) (s1 : Int) (s2 : Int) (s3 : Int) (s4 : Int) (s5 : Option Addr) (sN sC : Nat) (s6 : Option Addr) (sN1 sC1 : Nat) (w : World) (Q : Value → World → Prop) : Prop :=
 RUNA PG (Instr.box 28 (.agg #[(.int .i64 a), (.int .u16 a1), (.int .u16 a2), (.int .i64 a3), (.int .i64 a4), (.int .u32 a5), (.int .u32 a6), (.int .u32 a7), (.int .u32 a8), (.bool a9), (.bool a10), (.int .i64 a11), (.int .i64 a12), (.int .i64 a13), (.int .i64 a14), (.int .i64 a15), (.int .i64 a16)])) w fun a3v1 w1 =>
 RUNA PG (Instr.box 28 (.agg #[(.int .i64 b), (.int .u16 b1), (.int .u16 b2), (.int .i64 b3), (.int .i64 b4), (.int .u32 b5), (.int .u32 b6), (.int .u32 b7), (.int .u32 b8), (.bool b9), (.bool b10), (.int .i64 b11), (.int .i64 b12), (.int .i64 b13), (.int .i64 b14), (.int .i64 b15), (.int .i64 b16)])) w1 fun a4v1 w2 =>
 RUNA PG (Instr.box 32 (.agg #[(.int .u16 s), (.int .u16 s1), (.int .u32 s2), (.int .u32 s3), (.int .u8 s4), (.slice s5 sN sC), (.slice s6 sN1 sC1)])) w2 fun a5v1 w3 =>
 RD PG (loadVar 32 a5v1) w3 fun v =>
 ∃ x10 : Int, ∃ x10v1 : Int, ∃ x10v2 : Int, ∃ x10v3 : Int, ∃ x10v4 : Int, ∃ (x10v5 : Option Addr) (x10N x10C : Nat), ∃ (x10v6 : Option Addr) (x10N1 x10C1 : Nat), v = (.agg #[(.int .u16 x10), (.int .u16 x10v1), (.int .u32 x10v2), (.int .u32 x10v3), (.int .u8 x10v4), (.slice x10v5 x10N x10C), (.slice x10v6 x10N1 x10C1)]) ∧
 (CALL PG 15 [(.agg #[(.int .u16 x10), (.int .u16 x10v1), (.int .u32 x10v2), (.int .u32 x10v3), (.int .u8 x10v4), (.slice x10v5 x10N x10C), (.slice x10v6 x10N1 x10C1)])] w3 fun v1 w4 =>
 ∃ x11 : Bool, v1 = (.bool x11) ∧
 (IFB x11
 (Q (.bool true) w4)
 (RDI PG (loadVar 25 (Addr.add a3v1 4)) .i64 w4 fun x13 =>
 RDI PG (loadVar 26 (Addr.add a3v1 5)) .u32 w4 fun x15 =>
 RDI PG (loadVar 26 (Addr.add a3v1 6)) .u32 w4 fun x17 =>
 RDI PG (loadVar 26 (Addr.add a3v1 7)) .u32 w4 fun x19 =>
 RDI PG (loadVar 26 (Addr.add a3v1 8)) .u32 w4 fun x21 =>
 RD PG (Instr.build 35 #[(0, (.int .i64 x13)), (1, (.int .u32 x15)), (2, (.int .u32 x17)), (3, (.int .u32 x19)), (4, (.int .u32 x21))]) w4 fun v2 =>
 ∃ x22 : Int, ∃ x22v1 : Int, ∃ x22v2 : Int, ∃ x22v3 : Int, ∃ x22v4 : Int, v2 = (.agg #[(.int .i64 x22), (.int .u32 x22v1), (.int .u32 x22v2), (.int .u32 x22v3), (.int .u32 x22v4)]) ∧
 (RUNA PG (Instr.alloc 35 true (.tuple #[])) w4 fun a7v1 w5 =>
 RUNU PG (storeVar 35 a7v1 (.agg #[(.int .i64 x22), (.int .u32 x22v1), (.int .u32 x22v2), (.int .u32 x22v3), (.int .u32 x22v4)])) w5 fun w6 =>
 RD PG (loadVar 28 a3v1) w6 fun v3 =>
 ∃ x23 : Int, ∃ x23v1 : Int, ∃ x23v2 : Int, ∃ x23v3 : Int, ∃ x23v4 : Int, ∃ x23v5 : Int, ∃ x23v6 : Int, ∃ x23v7 : Int, ∃ x23v8 : Int, ∃ x23v9 : Bool, ∃ x23v10 : Bool, ∃ x23v11 : Int, ∃ x23v12 : Int, ∃ x23v13 : Int, ∃ x23v14 : Int, ∃ x23v15 : Int, ∃ x23v16 : Int, v3 = (.agg #[(.int .i64 x23), (.int .u16 x23v1), (.int .u16 x23v2), (.int .i64 x23v3), (.int .i64 x23v4), (.int .u32 x23v5), (.int .u32 x23v6), (.int .u32 x23v7), (.int .u32 x23v8), (.bool x23v9), (.bool x23v10), (.int .i64 x23v11), (.int .i64 x23v12), (.int .i64 x23v13), (.int .i64 x23v14), (.int .i64 x23v15), (.int .i64 x23v16)]) ∧
 (CALL PG 16 [(.agg #[(.int .i64 x23), (.int .u16 x23v1), (.int .u16 x23v2), (.int .i64 x23v3), (.int .i64 x23v4), (.int .u32 x23v5), (.int .u32 x23v6), (.int .u32 x23v7), (.int .u32 x23v8), (.bool x23v9), (.bool x23v10), (.int .i64 x23v11), (.int .i64 x23v12), (.int .i64 x23v13), (.int .i64 x23v14), (.int .i64 x23v15), (.int .i64 x23v16)])] w6 fun v4 w7 =>
 ∃ x24 : Int, ∃ x24v1 : Int, ∃ x24v2 : Int, ∃ x24v3 : Int, ∃ x24v4 : Int, v4 = (.agg #[(.int .i64 x24), (.int .u32 x24v1), (.int .u32 x24v2), (.int .u32 x24v3), (.int .u32 x24v4)]) ∧
 (RUNA PG (Instr.alloc 37 true (.tuple #[])) w7 fun a8v1 w8 =>
 RUNU PG (storeVar 37 a8v1 (.agg #[(.int .i64 x24), (.int .u32 x24v1), (.int .u32 x24v2), (.int .u32 x24v3), (.int .u32 x24v4)])) w8 fun w9 =>
 RD PG (loadVar 28 a4v1) w9 fun v5 =>
 ∃ x25 : Int, ∃ x25v1 : Int, ∃ x25v2 : Int, ∃ x25v3 : Int, ∃ x25v4 : Int, ∃ x25v5 : Int, ∃ x25v6 : Int, ∃ x25v7 : Int, ∃ x25v8 : Int, ∃ x25v9 : Bool, ∃ x25v10 : Bool, ∃ x25v11 : Int, ∃ x25v12 : Int, ∃ x25v13 : Int, ∃ x25v14 : Int, ∃ x25v15 : Int, ∃ x25v16 : Int, v5 = (.agg #[(.int .i64 x25), (.int .u16 x25v1), (.int .u16 x25v2), (.int .i64 x25v3), (.int .i64 x25v4), (.int .u32 x25v5), (.int .u32 x25v6), (.int .u32 x25v7), (.int .u32 x25v8), (.bool x25v9), (.bool x25v10), (.int .i64 x25v11), (.int .i64 x25v12), (.int .i64 x25v13), (.int .i64 x25v14), (.int .i64 x25v15), (.int .i64 x25v16)]) ∧
 (RUNA PG (Instr.alloc 28 true (.tuple #[])) w9 fun a9v1 w10 =>
 RUNU PG (storeVar 28 a9v1 (.agg #[(.int .i64 x25), (.int .u16 x25v1), (.int .u16 x25v2), (.int .i64 x25v3), (.int .i64 x25v4), (.int .u32 x25v5), (.int .u32 x25v6), (.int .u32 x25v7), (.int .u32 x25v8), (.bool x25v9), (.bool x25v10), (.int .i64 x25v11), (.int .i64 x25v12), (.int .i64 x25v13), (.int .i64 x25v14), (.int .i64 x25v15), (.int .i64 x25v16)])) w10 fun w11 =>
 ∃ S : World → Prop, S (w11.drew) ∧
 (RDSB PG (loadVar 4 (Addr.add a3v1 10)) S fun x27 =>
 RDSI PG (loadVar 3 (Addr.add a3v1 11)) .i64 S fun x29 =>
 RDSI PG (loadVar 3 (Addr.add a3v1 12)) .i64 S fun x31 =>
 RUNU PG (storeVar 4 (Addr.add a9v1 10) (.bool x27)) (w11.drew) fun w12 =>
 ∃ S1 : World → Prop, (∀ x, S1 x → S x) ∧ S1 w12 ∧
 (RUNU PG (storeVar 3 (Addr.add a9v1 11) (.int .i64 x29)) w12 fun w13 =>
 ∃ S2 : World → Prop, (∀ x, S2 x → S1 x) ∧ S2 w13 ∧
 (RUNU PG (storeVar 3 (Addr.add a9v1 12) (.int .i64 x31)) w13 fun w14 =>
 ∃ S3 : World → Prop, S3 (w14.drew) ∧
 (RDSI PG (loadVar 25 (Addr.add a8v1 0)) .i64 S3 fun x36 =>
 RDSI PG (loadVar 3 (Addr.add a7v1 0)) .i64 S3 fun x38 =>
 IFB (x36 == x38)
 (RDSI PG (loadVar 26 (Addr.add a8v1 1)) .u32 S3 fun x42 =>
 RDSI PG (loadVar 26 (Addr.add a7v1 1)) .u32 S3 fun x44 =>
 IFB (x42 == x44)
 (RDSI PG (loadVar 26 (Addr.add a8v1 2)) .u32 S3 fun x49 =>
 RDSI PG (loadVar 26 (Addr.add a7v1 2)) .u32 S3 fun x51 =>
 IFB (x49 == x51)
 (RDSI PG (loadVar 26 (Addr.add a8v1 3)) .u32 S3 fun x56 =>
 RDSI PG (loadVar 26 (Addr.add a7v1 3)) .u32 S3 fun x58 =>
 IFB (x56 == x58)
 (RDSI PG (loadVar 26 (Addr.add a8v1 4)) .u32 S3 fun x63 =>
 RDSI PG (loadVar 26 (Addr.add a7v1 4)) .u32 S3 fun x65 =>
 IFB (x63 == x65)
 (RDS PG (loadVar 28 a3v1) S3 fun v6 =>
 ∃ x69 : Int, ∃ x69v1 : Int, ∃ x69v2 : Int, ∃ x69v3 : Int, ∃ x69v4 : Int, ∃ x69v5 : Int, ∃ x69v6 : Int, ∃ x69v7 : Int, ∃ x69v8 : Int, ∃ x69v9 : Bool, ∃ x69v10 : Bool, ∃ x69v11 : Int, ∃ x69v12 : Int, ∃ x69v13 : Int, ∃ x69v14 : Int, ∃ x69v15 : Int, ∃ x69v16 : Int, v6 = (.agg #[(.int .i64 x69), (.int .u16 x69v1), (.int .u16 x69v2), (.int .i64 x69v3), (.int .i64 x69v4), (.int .u32 x69v5), (.int .u32 x69v6), (.int .u32 x69v7), (.int .u32 x69v8), (.bool x69v9), (.bool x69v10), (.int .i64 x69v11), (.int .i64 x69v12), (.int .i64 x69v13), (.int .i64 x69v14), (.int .i64 x69v15), (.int .i64 x69v16)]) ∧
 (RDS PG (loadVar 32 a5v1) S3 fun v7 =>
 ∃ x70 : Int, ∃ x70v1 : Int, ∃ x70v2 : Int, ∃ x70v3 : Int, ∃ x70v4 : Int, ∃ (x70v5 : Option Addr) (x70N x70C : Nat), ∃ (x70v6 : Option Addr) (x70N1 x70C1 : Nat), v7 = (.agg #[(.int .u16 x70), (.int .u16 x70v1), (.int .u32 x70v2), (.int .u32 x70v3), (.int .u8 x70v4), (.slice x70v5 x70N x70C), (.slice x70v6 x70N1 x70C1)]) ∧
 (RDS PG (loadVar 35 a7v1) S3 fun v8 =>
 ∃ x72 : Int, ∃ x72v1 : Int, ∃ x72v2 : Int, ∃ x72v3 : Int, ∃ x72v4 : Int, v8 = (.agg #[(.int .i64 x72), (.int .u32 x72v1), (.int .u32 x72v2), (.int .u32 x72v3), (.int .u32 x72v4)]) ∧
 (RDSI PG (loadVar 3 (Addr.add a3v1 12)) .i64 S3 fun x74 =>
 RDS PG (loadVar 32 a5v1) S3 fun v9 =>
 ∃ x75 : Int, ∃ x75v1 : Int, ∃ x75v2 : Int, ∃ x75v3 : Int, ∃ x75v4 : Int, ∃ (x75v5 : Option Addr) (x75N x75C : Nat), ∃ (x75v6 : Option Addr) (x75N1 x75C1 : Nat), v9 = (.agg #[(.int .u16 x75), (.int .u16 x75v1), (.int .u32 x75v2), (.int .u32 x75v3), (.int .u8 x75v4), (.slice x75v5 x75N x75C), (.slice x75v6 x75N1 x75C1)]) ∧
 (CALL PG 17 [(.agg #[(.int .i64 x69), (.int .u16 x69v1), (.int .u16 x69v2), (.int .i64 x69v3), (.int .i64 x69v4), (.int .u32 x69v5), (.int .u32 x69v6), (.int .u32 x69v7), (.int .u32 x69v8), (.bool x69v9), (.bool x69v10), (.int .i64 x69v11), (.int .i64 x69v12), (.int .i64 x69v13), (.int .i64 x69v14), (.int .i64 x69v15), (.int .i64 x69v16)]), (.agg #[(.int .u16 x70), (.int .u16 x70v1), (.int .u32 x70v2), (.int .u32 x70v3), (.int .u8 x70v4), (.slice x70v5 x70N x70C), (.slice x70v6 x70N1 x70C1)])] (w14.drew) fun v10 w15 =>
 ∃ x71 : Int, v10 = (.int .i64 x71) ∧
 (∃ S4 : World → Prop, (∀ x, S4 x → S3 x) ∧ S4 w15 ∧
 (CALL PG 18 [(.agg #[(.int .i64 x72), (.int .u32 x72v1), (.int .u32 x72v2), (.int .u32 x72v3), (.int .u32 x72v4)]), (.int .i64 x74), (.agg #[(.int .u16 x75), (.int .u16 x75v1), (.int .u32 x75v2), (.int .u32 x75v3), (.int .u8 x75v4), (.slice x75v5 x75N x75C), (.slice x75v6 x75N1 x75C1)])] w15 fun v11 w16 =>
 ∃ x76 : Int, v11 = (.int .i64 x76) ∧
 (∃ S5 : World → Prop, S5 w16 ∧
 (IFB (x71 == x76)
 (RDS PG (loadVar 28 a3v1) S5 fun v12 =>
 ∃ x80 : Int, ∃ x80v1 : Int, ∃ x80v2 : Int, ∃ x80v3 : Int, ∃ x80v4 : Int, ∃ x80v5 : Int, ∃ x80v6 : Int, ∃ x80v7 : Int, ∃ x80v8 : Int, ∃ x80v9 : Bool, ∃ x80v10 : Bool, ∃ x80v11 : Int, ∃ x80v12 : Int, ∃ x80v13 : Int, ∃ x80v14 : Int, ∃ x80v15 : Int, ∃ x80v16 : Int, v12 = (.agg #[(.int .i64 x80), (.int .u16 x80v1), (.int .u16 x80v2), (.int .i64 x80v3), (.int .i64 x80v4), (.int .u32 x80v5), (.int .u32 x80v6), (.int .u32 x80v7), (.int .u32 x80v8), (.bool x80v9), (.bool x80v10), (.int .i64 x80v11), (.int .i64 x80v12), (.int .i64 x80v13), (.int .i64 x80v14), (.int .i64 x80v15), (.int .i64 x80v16)]) ∧
 (RDS PG (loadVar 28 a4v1) S5 fun v13 =>
 ∃ x81 : Int, ∃ x81v1 : Int, ∃ x81v2 : Int, ∃ x81v3 : Int, ∃ x81v4 : Int, ∃ x81v5 : Int, ∃ x81v6 : Int, ∃ x81v7 : Int, ∃ x81v8 : Int, ∃ x81v9 : Bool, ∃ x81v10 : Bool, ∃ x81v11 : Int, ∃ x81v12 : Int, ∃ x81v13 : Int, ∃ x81v14 : Int, ∃ x81v15 : Int, ∃ x81v16 : Int, v13 = (.agg #[(.int .i64 x81), (.int .u16 x81v1), (.int .u16 x81v2), (.int .i64 x81v3), (.int .i64 x81v4), (.int .u32 x81v5), (.int .u32 x81v6), (.int .u32 x81v7), (.int .u32 x81v8), (.bool x81v9), (.bool x81v10), (.int .i64 x81v11), (.int .i64 x81v12), (.int .i64 x81v13), (.int .i64 x81v14), (.int .i64 x81v15), (.int .i64 x81v16)]) ∧
 (RDS PG (loadVar 28 a3v1) S5 fun v14 =>
 ∃ x83 : Int, ∃ x83v1 : Int, ∃ x83v2 : Int, ∃ x83v3 : Int, ∃ x83v4 : Int, ∃ x83v5 : Int, ∃ x83v6 : Int, ∃ x83v7 : Int, ∃ x83v8 : Int, ∃ x83v9 : Bool, ∃ x83v10 : Bool, ∃ x83v11 : Int, ∃ x83v12 : Int, ∃ x83v13 : Int, ∃ x83v14 : Int, ∃ x83v15 : Int, ∃ x83v16 : Int, v14 = (.agg #[(.int .i64 x83), (.int .u16 x83v1), (.int .u16 x83v2), (.int .i64 x83v3), (.int .i64 x83v4), (.int .u32 x83v5), (.int .u32 x83v6), (.int .u32 x83v7), (.int .u32 x83v8), (.bool x83v9), (.bool x83v10), (.int .i64 x83v11), (.int .i64 x83v12), (.int .i64 x83v13), (.int .i64 x83v14), (.int .i64 x83v15), (.int .i64 x83v16)]) ∧
 (RDS PG (loadVar 28 a9v1) S5 fun v15 =>
 ∃ x84 : Int, ∃ x84v1 : Int, ∃ x84v2 : Int, ∃ x84v3 : Int, ∃ x84v4 : Int, ∃ x84v5 : Int, ∃ x84v6 : Int, ∃ x84v7 : Int, ∃ x84v8 : Int, ∃ x84v9 : Bool, ∃ x84v10 : Bool, ∃ x84v11 : Int, ∃ x84v12 : Int, ∃ x84v13 : Int, ∃ x84v14 : Int, ∃ x84v15 : Int, ∃ x84v16 : Int, v15 = (.agg #[(.int .i64 x84), (.int .u16 x84v1), (.int .u16 x84v2), (.int .i64 x84v3), (.int .i64 x84v4), (.int .u32 x84v5), (.int .u32 x84v6), (.int .u32 x84v7), (.int .u32 x84v8), (.bool x84v9), (.bool x84v10), (.int .i64 x84v11), (.int .i64 x84v12), (.int .i64 x84v13), (.int .i64 x84v14), (.int .i64 x84v15), (.int .i64 x84v16)]) ∧
 (RDSB PG (do eqGuard .eql 28 (.tmp 83) (.tmp 84) (.agg #[(.int .i64 x83), (.int .u16 x83v1), (.int .u16 x83v2), (.int .i64 x83v3), (.int .i64 x83v4), (.int .u32 x83v5), (.int .u32 x83v6), (.int .u32 x83v7), (.int .u32 x83v8), (.bool x83v9), (.bool x83v10), (.int .i64 x83v11), (.int .i64 x83v12), (.int .i64 x83v13), (.int .i64 x83v14), (.int .i64 x83v15), (.int .i64 x83v16)]) (.agg #[(.int .i64 x84), (.int .u16 x84v1), (.int .u16 x84v2), (.int .i64 x84v3), (.int .i64 x84v4), (.int .u32 x84v5), (.int .u32 x84v6), (.int .u32 x84v7), (.int .u32 x84v8), (.bool x84v9), (.bool x84v10), (.int .i64 x84v11), (.int .i64 x84v12), (.int .i64 x84v13), (.int .i64 x84v14), (.int .i64 x84v15), (.int .i64 x84v16)]); binOp .eql 28 (.agg #[(.int .i64 x83), (.int .u16 x83v1), (.int .u16 x83v2), (.int .i64 x83v3), (.int .i64 x83v4), (.int .u32 x83v5), (.int .u32 x83v6), (.int .u32 x83v7), (.int .u32 x83v8), (.bool x83v9), (.bool x83v10), (.int .i64 x83v11), (.int .i64 x83v12), (.int .i64 x83v13), (.int .i64 x83v14), (.int .i64 x83v15), (.int .i64 x83v16)]) (.agg #[(.int .i64 x84), (.int .u16 x84v1), (.int .u16 x84v2), (.int .i64 x84v3), (.int .i64 x84v4), (.int .u32 x84v5), (.int .u32 x84v6), (.int .u32 x84v7), (.int .u32 x84v8), (.bool x84v9), (.bool x84v10), (.int .i64 x84v11), (.int .i64 x84v12), (.int .i64 x84v13), (.int .i64 x84v14), (.int .i64 x84v15), (.int .i64 x84v16)])) S5 fun x85 =>
 CALL PG 19 [(.agg #[(.int .i64 x80), (.int .u16 x80v1), (.int .u16 x80v2), (.int .i64 x80v3), (.int .i64 x80v4), (.int .u32 x80v5), (.int .u32 x80v6), (.int .u32 x80v7), (.int .u32 x80v8), (.bool x80v9), (.bool x80v10), (.int .i64 x80v11), (.int .i64 x80v12), (.int .i64 x80v13), (.int .i64 x80v14), (.int .i64 x80v15), (.int .i64 x80v16)]), (.agg #[(.int .i64 x81), (.int .u16 x81v1), (.int .u16 x81v2), (.int .i64 x81v3), (.int .i64 x81v4), (.int .u32 x81v5), (.int .u32 x81v6), (.int .u32 x81v7), (.int .u32 x81v8), (.bool x81v9), (.bool x81v10), (.int .i64 x81v11), (.int .i64 x81v12), (.int .i64 x81v13), (.int .i64 x81v14), (.int .i64 x81v15), (.int .i64 x81v16)])] w16 fun v16 w17 =>
 ∃ x82 : Bool, v16 = (.bool x82) ∧
 (∃ S6 : World → Prop, (∀ x, S6 x → S5 x) ∧ S6 w17 ∧
 (IFB (x82 == x85)
 (CALL PG 20 [] w17 fun v17 w18 =>
 ∃ x89 : Bool, v17 = (.bool x89) ∧
 (LETB x89 fun x6 =>
 Q (.bool x6) w18))
 (LETB false fun x6v1 =>
 Q (.bool x6v1) w17))))))))
 (LETB false fun x6v2 =>
 Q (.bool x6v2) w16))))))))))
 (∃ S7 : World → Prop, S7 (w14.drew) ∧
 (LETB false fun x6v3 =>
 Q (.bool x6v3) (w14.drew))))
 (∃ S8 : World → Prop, S8 (w14.drew) ∧
 (LETB false fun x6v4 =>
 Q (.bool x6v4) (w14.drew))))
 (∃ S9 : World → Prop, S9 (w14.drew) ∧
 (LETB false fun x6v5 =>
 Q (.bool x6v5) (w14.drew))))
 (∃ S10 : World → Prop, S10 (w14.drew) ∧
 (LETB false fun x6v6 =>
 Q (.bool x6v6) (w14.drew))))
 (∃ S11 : World → Prop, S11 (w14.drew) ∧
 (LETB false fun x6v7 =>
 Q (.bool x6v7) (w14.drew))))))))))))))
theorem eq3 : ∀ (a : Int) (a1 : Int) (a2 : Int) (a3 : Int) (a4 : Int) (a5 : Int) (a6 : Int) (a7 : Int) (a8 : Int) (a9 : Bool) (a10 : Bool) (a11 : Int) (a12 : Int) (a13 : Int) (a14 : Int) (a15 : Int) (a16 : Int) (b : Int) (b1 : Int) (b2 : Int) (b3 : Int) (b4 : Int) (b5 : Int) (b6 : Int) (b7 : Int) (b8 : Int) (b9 : Bool) (b10 : Bool) (b11 : Int) (b12 : Int) (b13 : Int) (b14 : Int) (b15 : Int) (b16 : Int) (s : Int) (s1 : Int) (s2 : Int) (s3 : Int) (s4 : Int) (s5 : Option Addr) (sN sC : Nat) (s6 : Option Addr) (sN1 sC1 : Nat) (w : World) (Q : Value → World → Prop), vcF PG TB Try.f3 .nil [(.agg #[(.int .i64 a), (.int .u16 a1), (.int .u16 a2), (.int .i64 a3), (.int .i64 a4), (.int .u32 a5), (.int .u32 a6), (.int .u32 a7), (.int .u32 a8), (.bool a9), (.bool a10), (.int .i64 a11), (.int .i64 a12), (.int .i64 a13), (.int .i64 a14), (.int .i64 a15), (.int .i64 a16)]), (.agg #[(.int .i64 b), (.int .u16 b1), (.int .u16 b2), (.int .i64 b3), (.int .i64 b4), (.int .u32 b5), (.int .u32 b6), (.int .u32 b7), (.int .u32 b8), (.bool b9), (.bool b10), (.int .i64 b11), (.int .i64 b12), (.int .i64 b13), (.int .i64 b14), (.int .i64 b15), (.int .i64 b16)]), (.agg #[(.int .u16 s), (.int .u16 s1), (.int .u32 s2), (.int .u32 s3), (.int .u8 s4), (.slice s5 sN sC), (.slice s6 sN1 sC1)])] w Q = N3 a a1 a2 a3 a4 a5 a6 a7 a8 a9 a10 a11 a12 a13 a14 a15 a16 b b1 b2 b3 b4 b5 b6 b7 b8 b9 b10 b11 b12 b13 b14 b15 b16 s s1 s2 s3 s4 s5 sN sC s6 sN1 sC1 w Q := by intros; kernel_rfl
theorem call3 {a : Int} {a1 : Int} {a2 : Int} {a3 : Int} {a4 : Int} {a5 : Int} {a6 : Int} {a7 : Int} {a8 : Int} {a9 : Bool} {a10 : Bool} {a11 : Int} {a12 : Int} {a13 : Int} {a14 : Int} {a15 : Int} {a16 : Int} {b : Int} {b1 : Int} {b2 : Int} {b3 : Int} {b4 : Int} {b5 : Int} {b6 : Int} {b7 : Int} {b8 : Int} {b9 : Bool} {b10 : Bool} {b11 : Int} {b12 : Int} {b13 : Int} {b14 : Int} {b15 : Int} {b16 : Int} {s : Int} {s1 : Int} {s2 : Int} {s3 : Int} {s4 : Int} {s5 : Option Addr} {sN sC : Nat} {s6 : Option Addr} {sN1 sC1 : Nat} {w : World} {Q : Value → World → Prop} (hN : N3 a a1 a2 a3 a4 a5 a6 a7 a8 a9 a10 a11 a12 a13 a14 a15 a16 b b1 b2 b3 b4 b5 b6 b7 b8 b9 b10 b11 b12 b13 b14 b15 b16 s s1 s2 s3 s4 s5 sN sC s6 sN1 sC1 w Q) : CALL PG 3 [(.agg #[(.int .i64 a), (.int .u16 a1), (.int .u16 a2), (.int .i64 a3), (.int .i64 a4), (.int .u32 a5), (.int .u32 a6), (.int .u32 a7), (.int .u32 a8), (.bool a9), (.bool a10), (.int .i64 a11), (.int .i64 a12), (.int .i64 a13), (.int .i64 a14), (.int .i64 a15), (.int .i64 a16)]), (.agg #[(.int .i64 b), (.int .u16 b1), (.int .u16 b2), (.int .i64 b3), (.int .i64 b4), (.int .u32 b5), (.int .u32 b6), (.int .u32 b7), (.int .u32 b8), (.bool b9), (.bool b10), (.int .i64 b11), (.int .i64 b12), (.int .i64 b13), (.int .i64 b14), (.int .i64 b15), (.int .i64 b16)]), (.agg #[(.int .u16 s), (.int .u16 s1), (.int .u32 s2), (.int .u32 s3), (.int .u8 s4), (.slice s5 sN sC), (.slice s6 sN1 sC1)])] w Q := calls_vc tabOk Try.func3 (by rw [eq3]; exact hN)

/-- brougham/broughamlaw07.Great -/
def N15 (s : Int) (s1 : Int) (s2 : Int) (s3 : Int) (s4 : Int) (s5 : Option Addr) (sN sC : Nat) (s6 : Option Addr) (sN1 sC1 : Nat) (w : World) (Q : Value → World → Prop) : Prop :=
 RUNA PG (Instr.box 32 (.agg #[(.int .u16 s), (.int .u16 s1), (.int .u32 s2), (.int .u32 s3), (.int .u8 s4), (.slice s5 sN sC), (.slice s6 sN1 sC1)])) w fun a1 w1 =>
 RDL PG (loadVar 29 (Addr.add a1 5)) w1 fun x5 x5N x5C =>
 IFB (decide ((x5N : Int) > (120 : Int)))
 (Q (.bool true) w1)
 (RDL PG (loadVar 30 (Addr.add a1 6)) w1 fun x10 x10N x10C =>
 IFB (decide ((x10N : Int) > (2000 : Int)))
 (Q (.bool true) w1)
 (∃ I : Nat → Int → World → Prop,
 (∃ m, I m (0 : Int) w1) ∧
 (∀ m1 (i : Int) (w2 : World), I m1 i w2 → (RDL PG (loadVar 29 (Addr.add a1 5)) w2 fun x16 x16N x16C =>
 IFB (decide (i < (x16N : Int)))
 (RDL PG (loadVar 29 (Addr.add a1 5)) w2 fun x22 x22N x22C =>
 IDX x22 x22N i fun a24 =>
 RDL PG (loadVar 30 (Addr.add (Addr.add a24 (Int.toNat i * 2)) 1)) w2 fun x26 x26N x26C =>
 IFB (decide ((x26N : Int) > (400 : Int)))
 (Q (.bool true) w2)
 (LETI (IntKind.i64.wrap (i + (1 : Int))) fun i1 =>
 ∃ m2, m2 < m1 ∧ I m2 i1 w2))
 (Q (.bool false) w2)))))
theorem eq15 : ∀ (s : Int) (s1 : Int) (s2 : Int) (s3 : Int) (s4 : Int) (s5 : Option Addr) (sN sC : Nat) (s6 : Option Addr) (sN1 sC1 : Nat) (w : World) (Q : Value → World → Prop), vcF PG TB Try.f15 (.s .nil (.s .nil (.s (.s .nil (.u (.loop [(3, 3)] .nil))) .nil))) [(.agg #[(.int .u16 s), (.int .u16 s1), (.int .u32 s2), (.int .u32 s3), (.int .u8 s4), (.slice s5 sN sC), (.slice s6 sN1 sC1)])] w Q = N15 s s1 s2 s3 s4 s5 sN sC s6 sN1 sC1 w Q := by intros; kernel_rfl
theorem call15 {s : Int} {s1 : Int} {s2 : Int} {s3 : Int} {s4 : Int} {s5 : Option Addr} {sN sC : Nat} {s6 : Option Addr} {sN1 sC1 : Nat} {w : World} {Q : Value → World → Prop} (hN : N15 s s1 s2 s3 s4 s5 sN sC s6 sN1 sC1 w Q) : CALL PG 15 [(.agg #[(.int .u16 s), (.int .u16 s1), (.int .u32 s2), (.int .u32 s3), (.int .u8 s4), (.slice s5 sN sC), (.slice s6 sN1 sC1)])] w Q := calls_vc tabOk Try.func15 (by rw [eq15]; exact hN)

/-- brougham/broughamref33.Foretell -/
def N18 (n : Int) (n1 : Int) (n2 : Int) (n3 : Int) (n4 : Int) (tokens : Int) (s : Int) (s1 : Int) (s2 : Int) (s3 : Int) (s4 : Int) (s5 : Option Addr) (sN sC : Nat) (s6 : Option Addr) (sN1 sC1 : Nat) (w : World) (Q : Value → World → Prop) : Prop :=
 RUNA PG (Instr.box 35 (.agg #[(.int .i64 n), (.int .u32 n1), (.int .u32 n2), (.int .u32 n3), (.int .u32 n4)])) w fun a3 w1 =>
 RUNA PG (Instr.box 32 (.agg #[(.int .u16 s), (.int .u16 s1), (.int .u32 s2), (.int .u32 s3), (.int .u8 s4), (.slice s5 sN sC), (.slice s6 sN1 sC1)])) w1 fun a5 w2 =>
 ∃ R : World → Prop,
 (RD PG (loadVar 35 a3) w2 fun v =>
 ∃ x8 : Int, ∃ x8v1 : Int, ∃ x8v2 : Int, ∃ x8v3 : Int, ∃ x8v4 : Int, v = (.agg #[(.int .i64 x8), (.int .u32 x8v1), (.int .u32 x8v2), (.int .u32 x8v3), (.int .u32 x8v4)]) ∧
 (RD PG (loadVar 32 a5) w2 fun v1 =>
 ∃ x9 : Int, ∃ x9v1 : Int, ∃ x9v2 : Int, ∃ x9v3 : Int, ∃ x9v4 : Int, ∃ (x9v5 : Option Addr) (x9N x9C : Nat), ∃ (x9v6 : Option Addr) (x9N1 x9C1 : Nat), v1 = (.agg #[(.int .u16 x9), (.int .u16 x9v1), (.int .u32 x9v2), (.int .u32 x9v3), (.int .u8 x9v4), (.slice x9v5 x9N x9C), (.slice x9v6 x9N1 x9C1)]) ∧
 (CALL PG 71 [(.agg #[(.int .i64 x8), (.int .u32 x8v1), (.int .u32 x8v2), (.int .u32 x8v3), (.int .u32 x8v4)]), (.agg #[(.int .u16 x9), (.int .u16 x9v1), (.int .u32 x9v2), (.int .u32 x9v3), (.int .u8 x9v4), (.slice x9v5 x9N x9C), (.slice x9v6 x9N1 x9C1)]), (.bool false)] w2 fun v2 w3 =>
 ∃ x10 : Int, v2 = (.int .i64 x10) ∧
 (LETB (x10 == (1 : Int)) fun x11 =>
 IFB x11
 (RDI PG (loadVar 3 (Addr.add a3 0)) .i64 w3 fun x14 =>
 IFB (x14 == (1 : Int))
 (Q (.int .i64 (2 : Int)) w3)
 (Q (.int .i64 (1 : Int)) w3))
 (LETB (x10 == (3 : Int)) fun x16 =>
 IFB x16
 (IFB (decide (tokens > (0 : Int)))
 (Q (.int .i64 (4 : Int)) w3)
 (Q (.int .i64 (5 : Int)) w3))
 (LETB (x10 == (5 : Int)) fun x16v1 =>
 IFB x16v1
 (IFB (decide (tokens > (0 : Int)))
 (Q (.int .i64 (4 : Int)) w3)
 (Q (.int .i64 (5 : Int)) w3))
 (LETB (x10 == (4 : Int)) fun x21 =>
 IFB x21
 (Q (.int .i64 (6 : Int)) w3)
 (R w3)))))))) ∧
 (∀  (w4 : World), R w4 → (∃ I : Nat → Int → World → Prop,
 (∃ m, I m (0 : Int) w4) ∧
 (∀ m1 (i : Int) (w5 : World), I m1 i w5 → (RDL PG (loadVar 29 (Addr.add a5 5)) w5 fun x25 x25N x25C =>
 IFB (decide (i < (x25N : Int)))
 (RDL PG (loadVar 29 (Addr.add a5 5)) w5 fun x31 x31N x31C =>
 IDX x31 x31N i fun a33 =>
 RDI PG (loadVar 5 (Addr.add (Addr.add a33 (Int.toNat i * 2)) 0)) .u8 w5 fun x35 =>
 IFB (x35 == (3 : Int))
 (Q (.int .i64 (2 : Int)) w5)
 (LETI (IntKind.i64.wrap (i + (1 : Int))) fun i1 =>
 ∃ m2, m2 < m1 ∧ I m2 i1 w5))
 (Q (.int .i64 (3 : Int)) w5)))))
theorem eq18 : ∀ (n : Int) (n1 : Int) (n2 : Int) (n3 : Int) (n4 : Int) (tokens : Int) (s : Int) (s1 : Int) (s2 : Int) (s3 : Int) (s4 : Int) (s5 : Option Addr) (sN sC : Nat) (s6 : Option Addr) (sN1 sC1 : Nat) (w : World) (Q : Value → World → Prop), vcF PG TB Try.f18 (.s .nil (.cut [] .nil (.s (.s .nil (.u (.loop [(7, 3)] .nil))) .nil))) [(.agg #[(.int .i64 n), (.int .u32 n1), (.int .u32 n2), (.int .u32 n3), (.int .u32 n4)]), (.int .i64 tokens), (.agg #[(.int .u16 s), (.int .u16 s1), (.int .u32 s2), (.int .u32 s3), (.int .u8 s4), (.slice s5 sN sC), (.slice s6 sN1 sC1)])] w Q = N18 n n1 n2 n3 n4 tokens s s1 s2 s3 s4 s5 sN sC s6 sN1 sC1 w Q := by intros; kernel_rfl
theorem call18 {n : Int} {n1 : Int} {n2 : Int} {n3 : Int} {n4 : Int} {tokens : Int} {s : Int} {s1 : Int} {s2 : Int} {s3 : Int} {s4 : Int} {s5 : Option Addr} {sN sC : Nat} {s6 : Option Addr} {sN1 sC1 : Nat} {w : World} {Q : Value → World → Prop} (hN : N18 n n1 n2 n3 n4 tokens s s1 s2 s3 s4 s5 sN sC s6 sN1 sC1 w Q) : CALL PG 18 [(.agg #[(.int .i64 n), (.int .u32 n1), (.int .u32 n2), (.int .u32 n3), (.int .u32 n4)]), (.int .i64 tokens), (.agg #[(.int .u16 s), (.int .u16 s1), (.int .u32 s2), (.int .u32 s3), (.int .u8 s4), (.slice s5 sN sC), (.slice s6 sN1 sC1)])] w Q := calls_vc tabOk Try.func18 (by rw [eq18]; exact hN)

/-- brougham/attack.Harmless -/
def N19 (a : Int) (a1 : Int) (a2 : Int) (a3 : Int) (a4 : Int) (a5 : Int) (a6 : Int) (a7 : Int) (a8 : Int) (a9 : Bool) (a10 : Bool) (a11 : Int) (a12 : Int) (a13 : Int) (a14 : Int) (a15 : Int) (a16 : Int) (b : Int) (b1 : Int) (b2 : Int) (b3 : Int) (b4 : Int) (b5 : Int) (b6 : Int) (b7 : Int) (b8 : Int) (b9 : Bool) (b10 : Bool) (b11 : Int) (b12 : Int) (b13 : Int) (b14 : Int) (b15 : Int) (b16 : Int) (w : World) (Q : Value → World → Prop) : Prop :=
 RUNA PG (Instr.box 28 (.agg #[(.int .i64 a), (.int .u16 a1), (.int .u16 a2), (.int .i64 a3), (.int .i64 a4), (.int .u32 a5), (.int .u32 a6), (.int .u32 a7), (.int .u32 a8), (.bool a9), (.bool a10), (.int .i64 a11), (.int .i64 a12), (.int .i64 a13), (.int .i64 a14), (.int .i64 a15), (.int .i64 a16)])) w fun a2v1 w1 =>
 RUNA PG (Instr.box 28 (.agg #[(.int .i64 b), (.int .u16 b1), (.int .u16 b2), (.int .i64 b3), (.int .i64 b4), (.int .u32 b5), (.int .u32 b6), (.int .u32 b7), (.int .u32 b8), (.bool b9), (.bool b10), (.int .i64 b11), (.int .i64 b12), (.int .i64 b13), (.int .i64 b14), (.int .i64 b15), (.int .i64 b16)])) w1 fun a3v1 w2 =>
 RD PG (loadVar 24 (Addr.add a2v1 0)) w2 fun v =>
 ∃ x6 : Int, ∃ x6v1 : Int, ∃ x6v2 : Int, v = (.agg #[(.int .i64 x6), (.int .u16 x6v1), (.int .u16 x6v2)]) ∧
 (RD PG (loadVar 24 (Addr.add a3v1 0)) w2 fun v1 =>
 ∃ x8 : Int, ∃ x8v1 : Int, ∃ x8v2 : Int, v1 = (.agg #[(.int .i64 x8), (.int .u16 x8v1), (.int .u16 x8v2)]) ∧
 (RDB PG (do eqGuard .eql 24 (.tmp 6) (.tmp 8) (.agg #[(.int .i64 x6), (.int .u16 x6v1), (.int .u16 x6v2)]) (.agg #[(.int .i64 x8), (.int .u16 x8v1), (.int .u16 x8v2)]); binOp .eql 24 (.agg #[(.int .i64 x6), (.int .u16 x6v1), (.int .u16 x6v2)]) (.agg #[(.int .i64 x8), (.int .u16 x8v1), (.int .u16 x8v2)])) w2 fun x9 =>
 IFB x9
 (RDI PG (loadVar 3 (Addr.add a2v1 3)) .i64 w2 fun x12 =>
 RDI PG (loadVar 3 (Addr.add a3v1 3)) .i64 w2 fun x14 =>
 IFB (x12 == x14)
 (RDI PG (loadVar 25 (Addr.add a2v1 4)) .i64 w2 fun x19 =>
 RDI PG (loadVar 25 (Addr.add a3v1 4)) .i64 w2 fun x21 =>
 IFB (x19 == x21)
 (RDI PG (loadVar 26 (Addr.add a2v1 5)) .u32 w2 fun x26 =>
 RDI PG (loadVar 26 (Addr.add a3v1 5)) .u32 w2 fun x28 =>
 IFB (x26 == x28)
 (RDI PG (loadVar 26 (Addr.add a2v1 6)) .u32 w2 fun x33 =>
 RDI PG (loadVar 26 (Addr.add a3v1 6)) .u32 w2 fun x35 =>
 IFB (x33 == x35)
 (RDI PG (loadVar 26 (Addr.add a2v1 7)) .u32 w2 fun x40 =>
 RDI PG (loadVar 26 (Addr.add a3v1 7)) .u32 w2 fun x42 =>
 IFB (x40 == x42)
 (RDI PG (loadVar 26 (Addr.add a2v1 8)) .u32 w2 fun x47 =>
 RDI PG (loadVar 26 (Addr.add a3v1 8)) .u32 w2 fun x49 =>
 IFB (x47 == x49)
 (RDB PG (loadVar 4 (Addr.add a2v1 9)) w2 fun x54 =>
 RDB PG (loadVar 4 (Addr.add a3v1 9)) w2 fun x56 =>
 IFB (x54 == x56)
 (RDI PG (loadVar 3 (Addr.add a2v1 13)) .i64 w2 fun x61 =>
 RDI PG (loadVar 3 (Addr.add a3v1 13)) .i64 w2 fun x63 =>
 IFB (x61 == x63)
 (RDI PG (loadVar 3 (Addr.add a2v1 14)) .i64 w2 fun x68 =>
 RDI PG (loadVar 3 (Addr.add a3v1 14)) .i64 w2 fun x70 =>
 IFB (x68 == x70)
 (RDI PG (loadVar 3 (Addr.add a2v1 15)) .i64 w2 fun x75 =>
 RDI PG (loadVar 3 (Addr.add a3v1 15)) .i64 w2 fun x77 =>
 IFB (x75 == x77)
 (RDI PG (loadVar 3 (Addr.add a2v1 16)) .i64 w2 fun x82 =>
 RDI PG (loadVar 3 (Addr.add a3v1 16)) .i64 w2 fun x84 =>
 LETB (x82 == x84) fun x4 =>
 Q (.bool x4) w2)
 (LETB false fun x4v1 =>
 Q (.bool x4v1) w2))
 (LETB false fun x4v2 =>
 Q (.bool x4v2) w2))
 (LETB false fun x4v3 =>
 Q (.bool x4v3) w2))
 (LETB false fun x4v4 =>
 Q (.bool x4v4) w2))
 (LETB false fun x4v5 =>
 Q (.bool x4v5) w2))
 (LETB false fun x4v6 =>
 Q (.bool x4v6) w2))
 (LETB false fun x4v7 =>
 Q (.bool x4v7) w2))
 (LETB false fun x4v8 =>
 Q (.bool x4v8) w2))
 (LETB false fun x4v9 =>
 Q (.bool x4v9) w2))
 (LETB false fun x4v10 =>
 Q (.bool x4v10) w2))
 (LETB false fun x4v11 =>
 Q (.bool x4v11) w2)))
theorem eq19 : ∀ (a : Int) (a1 : Int) (a2 : Int) (a3 : Int) (a4 : Int) (a5 : Int) (a6 : Int) (a7 : Int) (a8 : Int) (a9 : Bool) (a10 : Bool) (a11 : Int) (a12 : Int) (a13 : Int) (a14 : Int) (a15 : Int) (a16 : Int) (b : Int) (b1 : Int) (b2 : Int) (b3 : Int) (b4 : Int) (b5 : Int) (b6 : Int) (b7 : Int) (b8 : Int) (b9 : Bool) (b10 : Bool) (b11 : Int) (b12 : Int) (b13 : Int) (b14 : Int) (b15 : Int) (b16 : Int) (w : World) (Q : Value → World → Prop), vcF PG TB Try.f19 .nil [(.agg #[(.int .i64 a), (.int .u16 a1), (.int .u16 a2), (.int .i64 a3), (.int .i64 a4), (.int .u32 a5), (.int .u32 a6), (.int .u32 a7), (.int .u32 a8), (.bool a9), (.bool a10), (.int .i64 a11), (.int .i64 a12), (.int .i64 a13), (.int .i64 a14), (.int .i64 a15), (.int .i64 a16)]), (.agg #[(.int .i64 b), (.int .u16 b1), (.int .u16 b2), (.int .i64 b3), (.int .i64 b4), (.int .u32 b5), (.int .u32 b6), (.int .u32 b7), (.int .u32 b8), (.bool b9), (.bool b10), (.int .i64 b11), (.int .i64 b12), (.int .i64 b13), (.int .i64 b14), (.int .i64 b15), (.int .i64 b16)])] w Q = N19 a a1 a2 a3 a4 a5 a6 a7 a8 a9 a10 a11 a12 a13 a14 a15 a16 b b1 b2 b3 b4 b5 b6 b7 b8 b9 b10 b11 b12 b13 b14 b15 b16 w Q := by intros; kernel_rfl
theorem call19 {a : Int} {a1 : Int} {a2 : Int} {a3 : Int} {a4 : Int} {a5 : Int} {a6 : Int} {a7 : Int} {a8 : Int} {a9 : Bool} {a10 : Bool} {a11 : Int} {a12 : Int} {a13 : Int} {a14 : Int} {a15 : Int} {a16 : Int} {b : Int} {b1 : Int} {b2 : Int} {b3 : Int} {b4 : Int} {b5 : Int} {b6 : Int} {b7 : Int} {b8 : Int} {b9 : Bool} {b10 : Bool} {b11 : Int} {b12 : Int} {b13 : Int} {b14 : Int} {b15 : Int} {b16 : Int} {w : World} {Q : Value → World → Prop} (hN : N19 a a1 a2 a3 a4 a5 a6 a7 a8 a9 a10 a11 a12 a13 a14 a15 a16 b b1 b2 b3 b4 b5 b6 b7 b8 b9 b10 b11 b12 b13 b14 b15 b16 w Q) : CALL PG 19 [(.agg #[(.int .i64 a), (.int .u16 a1), (.int .u16 a2), (.int .i64 a3), (.int .i64 a4), (.int .u32 a5), (.int .u32 a6), (.int .u32 a7), (.int .u32 a8), (.bool a9), (.bool a10), (.int .i64 a11), (.int .i64 a12), (.int .i64 a13), (.int .i64 a14), (.int .i64 a15), (.int .i64 a16)]), (.agg #[(.int .i64 b), (.int .u16 b1), (.int .u16 b2), (.int .i64 b3), (.int .i64 b4), (.int .u32 b5), (.int .u32 b6), (.int .u32 b7), (.int .u32 b8), (.bool b9), (.bool b10), (.int .i64 b11), (.int .i64 b12), (.int .i64 b13), (.int .i64 b14), (.int .i64 b15), (.int .i64 b16)])] w Q := calls_vc tabOk Try.func19 (by rw [eq19]; exact hN)

end Go.Br
