/- What the code of some functions says, as the core reads it; each reading is checked by the kernel. -/
import Derived.Test.YtggajodoaooafaaBrSeat
set_option linter.unusedVariables false
set_option maxRecDepth 100000
namespace Go.Br
open Go Go.Proofs

/-- brougham/judge.Judge -/
def N69 (n : Int) (n1 : Int) (n2 : Int) (n3 : Int) (n4 : Int) (s : Int) (s1 : Int) (s2 : Int) (s3 : Int) (s4 : Int) (s5 : Option Addr) (sN sC : Nat) (s6 : Option Addr) (sN1 sC1 : Nat) (sealed : Bool) (w : World) (Q : Value → World → Prop) : Prop :=
 RUNA PG (Instr.box 37 (.agg #[(.int .i64 n), (.int .u32 n1), (.int .u32 n2), (.int .u32 n3), (.int .u32 n4)])) w fun a3 w1 =>
 RUNA PG (Instr.box 32 (.agg #[(.int .u16 s), (.int .u16 s1), (.int .u32 s2), (.int .u32 s3), (.int .u8 s4), (.slice s5 sN sC), (.slice s6 sN1 sC1)])) w1 fun a4 w2 =>
 RDI PG (loadVar 25 (Addr.add a3 0)) .i64 w2 fun x8 =>
 LETB (x8 == (1 : Int)) fun x9 =>
 IFB x9
 (RD PG (loadVar 37 a3) w2 fun v =>
 ∃ x11 : Int, ∃ x11v1 : Int, ∃ x11v2 : Int, ∃ x11v3 : Int, ∃ x11v4 : Int, v = (.agg #[(.int .i64 x11), (.int .u32 x11v1), (.int .u32 x11v2), (.int .u32 x11v3), (.int .u32 x11v4)]) ∧
 (RD PG (loadVar 32 a4) w2 fun v1 =>
 ∃ x12 : Int, ∃ x12v1 : Int, ∃ x12v2 : Int, ∃ x12v3 : Int, ∃ x12v4 : Int, ∃ (x12v5 : Option Addr) (x12N x12C : Nat), ∃ (x12v6 : Option Addr) (x12N1 x12C1 : Nat), v1 = (.agg #[(.int .u16 x12), (.int .u16 x12v1), (.int .u32 x12v2), (.int .u32 x12v3), (.int .u8 x12v4), (.slice x12v5 x12N x12C), (.slice x12v6 x12N1 x12C1)]) ∧
 (CALL PG 105 [(.agg #[(.int .i64 x11), (.int .u32 x11v1), (.int .u32 x11v2), (.int .u32 x11v3), (.int .u32 x11v4)]), (.agg #[(.int .u16 x12), (.int .u16 x12v1), (.int .u32 x12v2), (.int .u32 x12v3), (.int .u8 x12v4), (.slice x12v5 x12N x12C), (.slice x12v6 x12N1 x12C1)])] w2 fun v2 w3 =>
 ∃ x13 : Int, v2 = (.int .i64 x13) ∧
 (LETI x13 fun x6 =>
 Q (.int .i64 x6) w3))))
 (LETB (x8 == (2 : Int)) fun x14 =>
 IFB x14
 (RD PG (loadVar 37 a3) w2 fun v3 =>
 ∃ x16 : Int, ∃ x16v1 : Int, ∃ x16v2 : Int, ∃ x16v3 : Int, ∃ x16v4 : Int, v3 = (.agg #[(.int .i64 x16), (.int .u32 x16v1), (.int .u32 x16v2), (.int .u32 x16v3), (.int .u32 x16v4)]) ∧
 (RD PG (loadVar 32 a4) w2 fun v4 =>
 ∃ x17 : Int, ∃ x17v1 : Int, ∃ x17v2 : Int, ∃ x17v3 : Int, ∃ x17v4 : Int, ∃ (x17v5 : Option Addr) (x17N x17C : Nat), ∃ (x17v6 : Option Addr) (x17N1 x17C1 : Nat), v4 = (.agg #[(.int .u16 x17), (.int .u16 x17v1), (.int .u32 x17v2), (.int .u32 x17v3), (.int .u8 x17v4), (.slice x17v5 x17N x17C), (.slice x17v6 x17N1 x17C1)]) ∧
 (CALL PG 106 [(.agg #[(.int .i64 x16), (.int .u32 x16v1), (.int .u32 x16v2), (.int .u32 x16v3), (.int .u32 x16v4)]), (.agg #[(.int .u16 x17), (.int .u16 x17v1), (.int .u32 x17v2), (.int .u32 x17v3), (.int .u8 x17v4), (.slice x17v5 x17N x17C), (.slice x17v6 x17N1 x17C1)]), (.bool sealed)] w2 fun v5 w4 =>
 ∃ x19 : Int, v5 = (.int .i64 x19) ∧
 (LETI x19 fun x6v1 =>
 Q (.int .i64 x6v1) w4))))
 (LETB (x8 == (3 : Int)) fun x20 =>
 IFB x20
 (RD PG (loadVar 37 a3) w2 fun v6 =>
 ∃ x22 : Int, ∃ x22v1 : Int, ∃ x22v2 : Int, ∃ x22v3 : Int, ∃ x22v4 : Int, v6 = (.agg #[(.int .i64 x22), (.int .u32 x22v1), (.int .u32 x22v2), (.int .u32 x22v3), (.int .u32 x22v4)]) ∧
 (RD PG (loadVar 32 a4) w2 fun v7 =>
 ∃ x23 : Int, ∃ x23v1 : Int, ∃ x23v2 : Int, ∃ x23v3 : Int, ∃ x23v4 : Int, ∃ (x23v5 : Option Addr) (x23N x23C : Nat), ∃ (x23v6 : Option Addr) (x23N1 x23C1 : Nat), v7 = (.agg #[(.int .u16 x23), (.int .u16 x23v1), (.int .u32 x23v2), (.int .u32 x23v3), (.int .u8 x23v4), (.slice x23v5 x23N x23C), (.slice x23v6 x23N1 x23C1)]) ∧
 (CALL PG 107 [(.agg #[(.int .i64 x22), (.int .u32 x22v1), (.int .u32 x22v2), (.int .u32 x22v3), (.int .u32 x22v4)]), (.agg #[(.int .u16 x23), (.int .u16 x23v1), (.int .u32 x23v2), (.int .u32 x23v3), (.int .u8 x23v4), (.slice x23v5 x23N x23C), (.slice x23v6 x23N1 x23C1)]), (.bool sealed)] w2 fun v8 w5 =>
 ∃ x25 : Int, v8 = (.int .i64 x25) ∧
 (LETI x25 fun x6v2 =>
 Q (.int .i64 x6v2) w5))))
 (Q (.int .i64 (2 : Int)) w2)))
theorem eq69 : ∀ (n : Int) (n1 : Int) (n2 : Int) (n3 : Int) (n4 : Int) (s : Int) (s1 : Int) (s2 : Int) (s3 : Int) (s4 : Int) (s5 : Option Addr) (sN sC : Nat) (s6 : Option Addr) (sN1 sC1 : Nat) (sealed : Bool) (w : World) (Q : Value → World → Prop), vcF PG TB Try.f69 .nil [(.agg #[(.int .i64 n), (.int .u32 n1), (.int .u32 n2), (.int .u32 n3), (.int .u32 n4)]), (.agg #[(.int .u16 s), (.int .u16 s1), (.int .u32 s2), (.int .u32 s3), (.int .u8 s4), (.slice s5 sN sC), (.slice s6 sN1 sC1)]), (.bool sealed)] w Q = N69 n n1 n2 n3 n4 s s1 s2 s3 s4 s5 sN sC s6 sN1 sC1 sealed w Q := by intros; kernel_rfl
theorem call69 {n : Int} {n1 : Int} {n2 : Int} {n3 : Int} {n4 : Int} {s : Int} {s1 : Int} {s2 : Int} {s3 : Int} {s4 : Int} {s5 : Option Addr} {sN sC : Nat} {s6 : Option Addr} {sN1 sC1 : Nat} {sealed : Bool} {w : World} {Q : Value → World → Prop} (hN : N69 n n1 n2 n3 n4 s s1 s2 s3 s4 s5 sN sC s6 sN1 sC1 sealed w Q) : CALL PG 69 [(.agg #[(.int .i64 n), (.int .u32 n1), (.int .u32 n2), (.int .u32 n3), (.int .u32 n4)]), (.agg #[(.int .u16 s), (.int .u16 s1), (.int .u32 s2), (.int .u32 s3), (.int .u8 s4), (.slice s5 sN sC), (.slice s6 sN1 sC1)]), (.bool sealed)] w Q := calls_vc tabOk Try.func69 (by rw [eq69]; exact hN)

/-- brougham/broughamref15.Judge -/
def N71 (n : Int) (n1 : Int) (n2 : Int) (n3 : Int) (n4 : Int) (s : Int) (s1 : Int) (s2 : Int) (s3 : Int) (s4 : Int) (s5 : Option Addr) (sN sC : Nat) (s6 : Option Addr) (sN1 sC1 : Nat) (sealed : Bool) (w : World) (Q : Value → World → Prop) : Prop :=
 RUNA PG (Instr.box 35 (.agg #[(.int .i64 n), (.int .u32 n1), (.int .u32 n2), (.int .u32 n3), (.int .u32 n4)])) w fun a3 w1 =>
 RUNA PG (Instr.box 32 (.agg #[(.int .u16 s), (.int .u16 s1), (.int .u32 s2), (.int .u32 s3), (.int .u8 s4), (.slice s5 sN sC), (.slice s6 sN1 sC1)])) w1 fun a4 w2 =>
 RDI PG (loadVar 3 (Addr.add a3 0)) .i64 w2 fun x8 =>
 IFB (x8 == (1 : Int))
 (RD PG (loadVar 32 a4) w2 fun v =>
 ∃ x10 : Int, ∃ x10v1 : Int, ∃ x10v2 : Int, ∃ x10v3 : Int, ∃ x10v4 : Int, ∃ (x10v5 : Option Addr) (x10N x10C : Nat), ∃ (x10v6 : Option Addr) (x10N1 x10C1 : Nat), v = (.agg #[(.int .u16 x10), (.int .u16 x10v1), (.int .u32 x10v2), (.int .u32 x10v3), (.int .u8 x10v4), (.slice x10v5 x10N x10C), (.slice x10v6 x10N1 x10C1)]) ∧
 (CALL PG 108 [(.agg #[(.int .u16 x10), (.int .u16 x10v1), (.int .u32 x10v2), (.int .u32 x10v3), (.int .u8 x10v4), (.slice x10v5 x10N x10C), (.slice x10v6 x10N1 x10C1)]), (.int .i64 (2 : Int))] w2 fun v1 w3 =>
 ∃ x11 : Bool, v1 = (.bool x11) ∧
 (IFB (!x11)
 (RDI PG (loadVar 5 (Addr.add a4 4)) .u8 w3 fun x22 =>
 IFB (x22 == (2 : Int))
 (Q (.int .i64 (5 : Int)) w3)
 (Q (.int .i64 (2 : Int)) w3))
 (RDI PG (loadVar 26 (Addr.add a4 3)) .u32 w3 fun x15 =>
 RDI PG (loadVar 26 (Addr.add a3 1)) .u32 w3 fun x17 =>
 IFB (x15 != (IntKind.u32.wrap (x17 + (1 : Int))))
 (RDI PG (loadVar 5 (Addr.add a4 4)) .u8 w3 fun x22v1 =>
 IFB (x22v1 == (2 : Int))
 (Q (.int .i64 (5 : Int)) w3)
 (Q (.int .i64 (2 : Int)) w3))
 (RD PG (loadVar 32 a4) w3 fun v2 =>
 ∃ x24 : Int, ∃ x24v1 : Int, ∃ x24v2 : Int, ∃ x24v3 : Int, ∃ x24v4 : Int, ∃ (x24v5 : Option Addr) (x24N x24C : Nat), ∃ (x24v6 : Option Addr) (x24N1 x24C1 : Nat), v2 = (.agg #[(.int .u16 x24), (.int .u16 x24v1), (.int .u32 x24v2), (.int .u32 x24v3), (.int .u8 x24v4), (.slice x24v5 x24N x24C), (.slice x24v6 x24N1 x24C1)]) ∧
 (CALL PG 108 [(.agg #[(.int .u16 x24), (.int .u16 x24v1), (.int .u32 x24v2), (.int .u32 x24v3), (.int .u8 x24v4), (.slice x24v5 x24N x24C), (.slice x24v6 x24N1 x24C1)]), (.int .i64 (4 : Int))] w3 fun v3 w4 =>
 ∃ x25 : Bool, v3 = (.bool x25) ∧
 (IFB x25
 (Q (.int .i64 (4 : Int)) w4)
 (RD PG (loadVar 32 a4) w4 fun v4 =>
 ∃ x26 : Int, ∃ x26v1 : Int, ∃ x26v2 : Int, ∃ x26v3 : Int, ∃ x26v4 : Int, ∃ (x26v5 : Option Addr) (x26N x26C : Nat), ∃ (x26v6 : Option Addr) (x26N1 x26C1 : Nat), v4 = (.agg #[(.int .u16 x26), (.int .u16 x26v1), (.int .u32 x26v2), (.int .u32 x26v3), (.int .u8 x26v4), (.slice x26v5 x26N x26C), (.slice x26v6 x26N1 x26C1)]) ∧
 (CALL PG 108 [(.agg #[(.int .u16 x26), (.int .u16 x26v1), (.int .u32 x26v2), (.int .u32 x26v3), (.int .u8 x26v4), (.slice x26v5 x26N x26C), (.slice x26v6 x26N1 x26C1)]), (.int .i64 (1 : Int))] w4 fun v5 w5 =>
 ∃ x27 : Bool, v5 = (.bool x27) ∧
 (CALL PG 109 [(.bool x27)] w5 fun v6 w6 =>
 ∃ x28 : Int, v6 = (.int .i64 x28) ∧
 (LETI x28 fun x6 =>
 Q (.int .i64 x6) w6)))))))))))
 (∃ R : World → Prop,
 (RDI PG (loadVar 3 (Addr.add a3 0)) .i64 w2 fun x30 =>
 IFB (x30 != (2 : Int))
 (RDI PG (loadVar 3 (Addr.add a3 0)) .i64 w2 fun x34 =>
 IFB (x34 != (3 : Int))
 (Q (.int .i64 (2 : Int)) w2)
 (R w2))
 (R w2)) ∧
 (∀  (w7 : World), R w7 → (RD PG (loadVar 32 a4) w7 fun v7 =>
 ∃ x37 : Int, ∃ x37v1 : Int, ∃ x37v2 : Int, ∃ x37v3 : Int, ∃ x37v4 : Int, ∃ (x37v5 : Option Addr) (x37N x37C : Nat), ∃ (x37v6 : Option Addr) (x37N1 x37C1 : Nat), v7 = (.agg #[(.int .u16 x37), (.int .u16 x37v1), (.int .u32 x37v2), (.int .u32 x37v3), (.int .u8 x37v4), (.slice x37v5 x37N x37C), (.slice x37v6 x37N1 x37C1)]) ∧
 (CALL PG 108 [(.agg #[(.int .u16 x37), (.int .u16 x37v1), (.int .u32 x37v2), (.int .u32 x37v3), (.int .u8 x37v4), (.slice x37v5 x37N x37C), (.slice x37v6 x37N1 x37C1)]), (.int .i64 (4 : Int))] w7 fun v8 w8 =>
 ∃ x38 : Bool, v8 = (.bool x38) ∧
 (IFB x38
 (RDI PG (loadVar 26 (Addr.add a4 2)) .u32 w8 fun x40 =>
 RDI PG (loadVar 26 (Addr.add a3 4)) .u32 w8 fun x42 =>
 IFB (x40 == x42)
 (Q (.int .i64 (4 : Int)) w8)
 (RDI PG (loadVar 3 (Addr.add a3 0)) .i64 w8 fun x45 =>
 IFB (x45 == (3 : Int))
 (RDI PG (loadVar 26 (Addr.add a4 2)) .u32 w8 fun x49 =>
 RDI PG (loadVar 26 (Addr.add a3 4)) .u32 w8 fun x51 =>
 CALL PG 110 [(.int .u32 x49), (.int .u32 x51), (.int .u32 (1048576 : Int))] w8 fun v9 w9 =>
 ∃ x52 : Bool, v9 = (.bool x52) ∧
 (IFB x52
 (Q (.int .i64 (3 : Int)) w9)
 (Q (.int .i64 (2 : Int)) w9)))
 (Q (.int .i64 (2 : Int)) w8)))
 (RD PG (loadVar 32 a4) w8 fun v10 =>
 ∃ x54 : Int, ∃ x54v1 : Int, ∃ x54v2 : Int, ∃ x54v3 : Int, ∃ x54v4 : Int, ∃ (x54v5 : Option Addr) (x54N x54C : Nat), ∃ (x54v6 : Option Addr) (x54N1 x54C1 : Nat), v10 = (.agg #[(.int .u16 x54), (.int .u16 x54v1), (.int .u32 x54v2), (.int .u32 x54v3), (.int .u8 x54v4), (.slice x54v5 x54N x54C), (.slice x54v6 x54N1 x54C1)]) ∧
 (CALL PG 108 [(.agg #[(.int .u16 x54), (.int .u16 x54v1), (.int .u32 x54v2), (.int .u32 x54v3), (.int .u8 x54v4), (.slice x54v5 x54N x54C), (.slice x54v6 x54N1 x54C1)]), (.int .i64 (1 : Int))] w8 fun v11 w10 =>
 ∃ x55 : Bool, v11 = (.bool x55) ∧
 (IFB x55
 (RDI PG (loadVar 3 (Addr.add a3 0)) .i64 w10 fun x57 =>
 IFB (x57 == (3 : Int))
 (Q (.int .i64 (3 : Int)) w10)
 (RDI PG (loadVar 5 (Addr.add a4 4)) .u8 w10 fun x60 =>
 IFB (x60 == (1 : Int))
 (RDI PG (loadVar 26 (Addr.add a4 2)) .u32 w10 fun x64 =>
 RDI PG (loadVar 26 (Addr.add a3 4)) .u32 w10 fun x67 =>
 CALL PG 109 [(.bool ((IntKind.u32.wrap (x64 + (1 : Int))) == x67))] w10 fun v12 w11 =>
 ∃ x70 : Int, v12 = (.int .i64 x70) ∧
 (LETI x70 fun x6v1 =>
 Q (.int .i64 x6v1) w11))
 (CALL PG 109 [(.bool false)] w10 fun v13 w12 =>
 ∃ x70v1 : Int, v13 = (.int .i64 x70v1) ∧
 (LETI x70v1 fun x6v2 =>
 Q (.int .i64 x6v2) w12))))
 (RD PG (loadVar 35 a3) w10 fun v14 =>
 ∃ x71 : Int, ∃ x71v1 : Int, ∃ x71v2 : Int, ∃ x71v3 : Int, ∃ x71v4 : Int, v14 = (.agg #[(.int .i64 x71), (.int .u32 x71v1), (.int .u32 x71v2), (.int .u32 x71v3), (.int .u32 x71v4)]) ∧
 (RD PG (loadVar 32 a4) w10 fun v15 =>
 ∃ x72 : Int, ∃ x72v1 : Int, ∃ x72v2 : Int, ∃ x72v3 : Int, ∃ x72v4 : Int, ∃ (x72v5 : Option Addr) (x72N x72C : Nat), ∃ (x72v6 : Option Addr) (x72N1 x72C1 : Nat), v15 = (.agg #[(.int .u16 x72), (.int .u16 x72v1), (.int .u32 x72v2), (.int .u32 x72v3), (.int .u8 x72v4), (.slice x72v5 x72N x72C), (.slice x72v6 x72N1 x72C1)]) ∧
 (CALL PG 111 [(.agg #[(.int .i64 x71), (.int .u32 x71v1), (.int .u32 x71v2), (.int .u32 x71v3), (.int .u32 x71v4)]), (.agg #[(.int .u16 x72), (.int .u16 x72v1), (.int .u32 x72v2), (.int .u32 x72v3), (.int .u8 x72v4), (.slice x72v5 x72N x72C), (.slice x72v6 x72N1 x72C1)]), (.bool sealed)] w10 fun v16 w13 =>
 ∃ x74 : Bool, v16 = (.bool x74) ∧
 (CALL PG 109 [(.bool x74)] w13 fun v17 w14 =>
 ∃ x75 : Int, v17 = (.int .i64 x75) ∧
 (LETI x75 fun x6v3 =>
 Q (.int .i64 x6v3) w14)))))))))))))
theorem eq71 : ∀ (n : Int) (n1 : Int) (n2 : Int) (n3 : Int) (n4 : Int) (s : Int) (s1 : Int) (s2 : Int) (s3 : Int) (s4 : Int) (s5 : Option Addr) (sN sC : Nat) (s6 : Option Addr) (sN1 sC1 : Nat) (sealed : Bool) (w : World) (Q : Value → World → Prop), vcF PG TB Try.f71 (.s .nil (.s .nil (.cut [] .nil .nil))) [(.agg #[(.int .i64 n), (.int .u32 n1), (.int .u32 n2), (.int .u32 n3), (.int .u32 n4)]), (.agg #[(.int .u16 s), (.int .u16 s1), (.int .u32 s2), (.int .u32 s3), (.int .u8 s4), (.slice s5 sN sC), (.slice s6 sN1 sC1)]), (.bool sealed)] w Q = N71 n n1 n2 n3 n4 s s1 s2 s3 s4 s5 sN sC s6 sN1 sC1 sealed w Q := by intros; kernel_rfl
theorem call71 {n : Int} {n1 : Int} {n2 : Int} {n3 : Int} {n4 : Int} {s : Int} {s1 : Int} {s2 : Int} {s3 : Int} {s4 : Int} {s5 : Option Addr} {sN sC : Nat} {s6 : Option Addr} {sN1 sC1 : Nat} {sealed : Bool} {w : World} {Q : Value → World → Prop} (hN : N71 n n1 n2 n3 n4 s s1 s2 s3 s4 s5 sN sC s6 sN1 sC1 sealed w Q) : CALL PG 71 [(.agg #[(.int .i64 n), (.int .u32 n1), (.int .u32 n2), (.int .u32 n3), (.int .u32 n4)]), (.agg #[(.int .u16 s), (.int .u16 s1), (.int .u32 s2), (.int .u32 s3), (.int .u8 s4), (.slice s5 sN sC), (.slice s6 sN1 sC1)]), (.bool sealed)] w Q := calls_vc tabOk Try.func71 (by rw [eq71]; exact hN)

/-- brougham/judge.opening -/
def N105 (n : Int) (n1 : Int) (n2 : Int) (n3 : Int) (n4 : Int) (s : Int) (s1 : Int) (s2 : Int) (s3 : Int) (s4 : Int) (s5 : Option Addr) (sN sC : Nat) (s6 : Option Addr) (sN1 sC1 : Nat) (w : World) (Q : Value → World → Prop) : Prop :=
 RUNA PG (Instr.box 37 (.agg #[(.int .i64 n), (.int .u32 n1), (.int .u32 n2), (.int .u32 n3), (.int .u32 n4)])) w fun a2 w1 =>
 RUNA PG (Instr.box 32 (.agg #[(.int .u16 s), (.int .u16 s1), (.int .u32 s2), (.int .u32 s3), (.int .u8 s4), (.slice s5 sN sC), (.slice s6 sN1 sC1)])) w1 fun a3 w2 =>
 ∃ R : Bool → World → Prop,
 (RDI PG (loadVar 5 (Addr.add a3 4)) .u8 w2 fun x7 =>
 IFB ((IntKind.u8.wrap (BitVec.ofInt (IntKind.u8.bits) x7 &&& BitVec.ofInt (IntKind.u8.bits) (2 : Int)).toNat) != (0 : Int))
 (RDI PG (loadVar 26 (Addr.add a3 3)) .u32 w2 fun x12 =>
 RDI PG (loadVar 26 (Addr.add a2 1)) .u32 w2 fun x14 =>
 LETB (x12 == (IntKind.u32.wrap (x14 + (1 : Int)))) fun answers =>
 R answers w2)
 (LETB false fun answers1 =>
 R answers1 w2)) ∧
 (∀ (answers2 : Bool) (w3 : World), R answers2 w3 → (∃ R1 : Bool → World → Prop,
 (IFB (!answers2)
 (RDI PG (loadVar 5 (Addr.add a3 4)) .u8 w3 fun x23 =>
 LETB (x23 == (2 : Int)) fun x18 =>
 R1 x18 w3)
 (LETB false fun x18v1 =>
 R1 x18v1 w3)) ∧
 (∀ (x18v2 : Bool) (w4 : World), R1 x18v2 w4 → (IFB x18v2
 (Q (.int .i64 (5 : Int)) w4)
 (LETB (!answers2) fun x26 =>
 IFB x26
 (Q (.int .i64 (2 : Int)) w4)
 (RDI PG (loadVar 5 (Addr.add a3 4)) .u8 w4 fun x31 =>
 LETB ((IntKind.u8.wrap (BitVec.ofInt (IntKind.u8.bits) x31 &&& BitVec.ofInt (IntKind.u8.bits) (4 : Int)).toNat) != (0 : Int)) fun x29 =>
 IFB x29
 (Q (.int .i64 (4 : Int)) w4)
 (RDI PG (loadVar 5 (Addr.add a3 4)) .u8 w4 fun x36 =>
 LETB ((IntKind.u8.wrap (BitVec.ofInt (IntKind.u8.bits) x36 &&& BitVec.ofInt (IntKind.u8.bits) (1 : Int)).toNat) != (0 : Int)) fun x34 =>
 IFB x34
 (Q (.int .i64 (1 : Int)) w4)
 (Q (.int .i64 (2 : Int)) w4))))))))
theorem eq105 : ∀ (n : Int) (n1 : Int) (n2 : Int) (n3 : Int) (n4 : Int) (s : Int) (s1 : Int) (s2 : Int) (s3 : Int) (s4 : Int) (s5 : Option Addr) (sN sC : Nat) (s6 : Option Addr) (sN1 sC1 : Nat) (w : World) (Q : Value → World → Prop), vcF PG TB Try.f105 (.s .nil (.cut [(5, 4)] .nil (.s (.u (.cut [(18, 4)] .nil .nil)) .nil))) [(.agg #[(.int .i64 n), (.int .u32 n1), (.int .u32 n2), (.int .u32 n3), (.int .u32 n4)]), (.agg #[(.int .u16 s), (.int .u16 s1), (.int .u32 s2), (.int .u32 s3), (.int .u8 s4), (.slice s5 sN sC), (.slice s6 sN1 sC1)])] w Q = N105 n n1 n2 n3 n4 s s1 s2 s3 s4 s5 sN sC s6 sN1 sC1 w Q := by intros; kernel_rfl
theorem call105 {n : Int} {n1 : Int} {n2 : Int} {n3 : Int} {n4 : Int} {s : Int} {s1 : Int} {s2 : Int} {s3 : Int} {s4 : Int} {s5 : Option Addr} {sN sC : Nat} {s6 : Option Addr} {sN1 sC1 : Nat} {w : World} {Q : Value → World → Prop} (hN : N105 n n1 n2 n3 n4 s s1 s2 s3 s4 s5 sN sC s6 sN1 sC1 w Q) : CALL PG 105 [(.agg #[(.int .i64 n), (.int .u32 n1), (.int .u32 n2), (.int .u32 n3), (.int .u32 n4)]), (.agg #[(.int .u16 s), (.int .u16 s1), (.int .u32 s2), (.int .u32 s3), (.int .u8 s4), (.slice s5 sN sC), (.slice s6 sN1 sC1)])] w Q := calls_vc tabOk Try.func105 (by rw [eq105]; exact hN)

/-- brougham/judge.half -/
def N106 (n : Int) (n1 : Int) (n2 : Int) (n3 : Int) (n4 : Int) (s : Int) (s1 : Int) (s2 : Int) (s3 : Int) (s4 : Int) (s5 : Option Addr) (sN sC : Nat) (s6 : Option Addr) (sN1 sC1 : Nat) (sealed : Bool) (w : World) (Q : Value → World → Prop) : Prop :=
 RUNA PG (Instr.box 37 (.agg #[(.int .i64 n), (.int .u32 n1), (.int .u32 n2), (.int .u32 n3), (.int .u32 n4)])) w fun a3 w1 =>
 RUNA PG (Instr.box 32 (.agg #[(.int .u16 s), (.int .u16 s1), (.int .u32 s2), (.int .u32 s3), (.int .u8 s4), (.slice s5 sN sC), (.slice s6 sN1 sC1)])) w1 fun a4 w2 =>
 RDI PG (loadVar 5 (Addr.add a4 4)) .u8 w2 fun x9 =>
 LETB ((IntKind.u8.wrap (BitVec.ofInt (IntKind.u8.bits) x9 &&& BitVec.ofInt (IntKind.u8.bits) (4 : Int)).toNat) != (0 : Int)) fun x7 =>
 IFB x7
 (RDI PG (loadVar 26 (Addr.add a4 2)) .u32 w2 fun x13 =>
 RDI PG (loadVar 26 (Addr.add a3 4)) .u32 w2 fun x15 =>
 IFB (x13 == x15)
 (Q (.int .i64 (4 : Int)) w2)
 (Q (.int .i64 (2 : Int)) w2))
 (RDI PG (loadVar 5 (Addr.add a4 4)) .u8 w2 fun x19 =>
 LETB ((IntKind.u8.wrap (BitVec.ofInt (IntKind.u8.bits) x19 &&& BitVec.ofInt (IntKind.u8.bits) (1 : Int)).toNat) != (0 : Int)) fun x17 =>
 IFB x17
 (RDI PG (loadVar 5 (Addr.add a4 4)) .u8 w2 fun x23 =>
 IFB (x23 == (1 : Int))
 (RDI PG (loadVar 26 (Addr.add a4 2)) .u32 w2 fun x27 =>
 RDI PG (loadVar 26 (Addr.add a3 4)) .u32 w2 fun x30 =>
 IFB ((IntKind.u32.wrap (x27 + (1 : Int))) == x30)
 (Q (.int .i64 (1 : Int)) w2)
 (Q (.int .i64 (2 : Int)) w2))
 (Q (.int .i64 (2 : Int)) w2))
 (RD PG (loadVar 37 a3) w2 fun v =>
 ∃ x33 : Int, ∃ x33v1 : Int, ∃ x33v2 : Int, ∃ x33v3 : Int, ∃ x33v4 : Int, v = (.agg #[(.int .i64 x33), (.int .u32 x33v1), (.int .u32 x33v2), (.int .u32 x33v3), (.int .u32 x33v4)]) ∧
 (RD PG (loadVar 32 a4) w2 fun v1 =>
 ∃ x34 : Int, ∃ x34v1 : Int, ∃ x34v2 : Int, ∃ x34v3 : Int, ∃ x34v4 : Int, ∃ (x34v5 : Option Addr) (x34N x34C : Nat), ∃ (x34v6 : Option Addr) (x34N1 x34C1 : Nat), v1 = (.agg #[(.int .u16 x34), (.int .u16 x34v1), (.int .u32 x34v2), (.int .u32 x34v3), (.int .u8 x34v4), (.slice x34v5 x34N x34C), (.slice x34v6 x34N1 x34C1)]) ∧
 (CALL PG 134 [(.agg #[(.int .i64 x33), (.int .u32 x33v1), (.int .u32 x33v2), (.int .u32 x33v3), (.int .u32 x33v4)]), (.agg #[(.int .u16 x34), (.int .u16 x34v1), (.int .u32 x34v2), (.int .u32 x34v3), (.int .u8 x34v4), (.slice x34v5 x34N x34C), (.slice x34v6 x34N1 x34C1)]), (.bool sealed)] w2 fun v2 w3 =>
 ∃ x36 : Int, v2 = (.int .i64 x36) ∧
 (LETI x36 fun x6 =>
 Q (.int .i64 x6) w3)))))
theorem eq106 : ∀ (n : Int) (n1 : Int) (n2 : Int) (n3 : Int) (n4 : Int) (s : Int) (s1 : Int) (s2 : Int) (s3 : Int) (s4 : Int) (s5 : Option Addr) (sN sC : Nat) (s6 : Option Addr) (sN1 sC1 : Nat) (sealed : Bool) (w : World) (Q : Value → World → Prop), vcF PG TB Try.f106 .nil [(.agg #[(.int .i64 n), (.int .u32 n1), (.int .u32 n2), (.int .u32 n3), (.int .u32 n4)]), (.agg #[(.int .u16 s), (.int .u16 s1), (.int .u32 s2), (.int .u32 s3), (.int .u8 s4), (.slice s5 sN sC), (.slice s6 sN1 sC1)]), (.bool sealed)] w Q = N106 n n1 n2 n3 n4 s s1 s2 s3 s4 s5 sN sC s6 sN1 sC1 sealed w Q := by intros; kernel_rfl
theorem call106 {n : Int} {n1 : Int} {n2 : Int} {n3 : Int} {n4 : Int} {s : Int} {s1 : Int} {s2 : Int} {s3 : Int} {s4 : Int} {s5 : Option Addr} {sN sC : Nat} {s6 : Option Addr} {sN1 sC1 : Nat} {sealed : Bool} {w : World} {Q : Value → World → Prop} (hN : N106 n n1 n2 n3 n4 s s1 s2 s3 s4 s5 sN sC s6 sN1 sC1 sealed w Q) : CALL PG 106 [(.agg #[(.int .i64 n), (.int .u32 n1), (.int .u32 n2), (.int .u32 n3), (.int .u32 n4)]), (.agg #[(.int .u16 s), (.int .u16 s1), (.int .u32 s2), (.int .u32 s3), (.int .u8 s4), (.slice s5 sN sC), (.slice s6 sN1 sC1)]), (.bool sealed)] w Q := calls_vc tabOk Try.func106 (by rw [eq106]; exact hN)

/-- brougham/judge.up -/
def N107 (n : Int) (n1 : Int) (n2 : Int) (n3 : Int) (n4 : Int) (s : Int) (s1 : Int) (s2 : Int) (s3 : Int) (s4 : Int) (s5 : Option Addr) (sN sC : Nat) (s6 : Option Addr) (sN1 sC1 : Nat) (sealed : Bool) (w : World) (Q : Value → World → Prop) : Prop :=
 RUNA PG (Instr.box 37 (.agg #[(.int .i64 n), (.int .u32 n1), (.int .u32 n2), (.int .u32 n3), (.int .u32 n4)])) w fun a3 w1 =>
 RUNA PG (Instr.box 32 (.agg #[(.int .u16 s), (.int .u16 s1), (.int .u32 s2), (.int .u32 s3), (.int .u8 s4), (.slice s5 sN sC), (.slice s6 sN1 sC1)])) w1 fun a4 w2 =>
 RDI PG (loadVar 5 (Addr.add a4 4)) .u8 w2 fun x9 =>
 LETB ((IntKind.u8.wrap (BitVec.ofInt (IntKind.u8.bits) x9 &&& BitVec.ofInt (IntKind.u8.bits) (4 : Int)).toNat) != (0 : Int)) fun x7 =>
 IFB x7
 (RDI PG (loadVar 26 (Addr.add a4 2)) .u32 w2 fun x13 =>
 RDI PG (loadVar 26 (Addr.add a3 4)) .u32 w2 fun x15 =>
 IFB (x13 == x15)
 (Q (.int .i64 (4 : Int)) w2)
 (RDI PG (loadVar 26 (Addr.add a4 2)) .u32 w2 fun x18 =>
 RDI PG (loadVar 26 (Addr.add a3 4)) .u32 w2 fun x20 =>
 CALL PG 135 [(.int .u32 x18), (.int .u32 x20), (.int .u32 (1048576 : Int))] w2 fun v w3 =>
 ∃ x21 : Bool, v = (.bool x21) ∧
 (IFB x21
 (Q (.int .i64 (3 : Int)) w3)
 (Q (.int .i64 (2 : Int)) w3))))
 (RDI PG (loadVar 5 (Addr.add a4 4)) .u8 w2 fun x24 =>
 LETB ((IntKind.u8.wrap (BitVec.ofInt (IntKind.u8.bits) x24 &&& BitVec.ofInt (IntKind.u8.bits) (1 : Int)).toNat) != (0 : Int)) fun x22 =>
 IFB x22
 (Q (.int .i64 (3 : Int)) w2)
 (RD PG (loadVar 37 a3) w2 fun v1 =>
 ∃ x27 : Int, ∃ x27v1 : Int, ∃ x27v2 : Int, ∃ x27v3 : Int, ∃ x27v4 : Int, v1 = (.agg #[(.int .i64 x27), (.int .u32 x27v1), (.int .u32 x27v2), (.int .u32 x27v3), (.int .u32 x27v4)]) ∧
 (RD PG (loadVar 32 a4) w2 fun v2 =>
 ∃ x28 : Int, ∃ x28v1 : Int, ∃ x28v2 : Int, ∃ x28v3 : Int, ∃ x28v4 : Int, ∃ (x28v5 : Option Addr) (x28N x28C : Nat), ∃ (x28v6 : Option Addr) (x28N1 x28C1 : Nat), v2 = (.agg #[(.int .u16 x28), (.int .u16 x28v1), (.int .u32 x28v2), (.int .u32 x28v3), (.int .u8 x28v4), (.slice x28v5 x28N x28C), (.slice x28v6 x28N1 x28C1)]) ∧
 (CALL PG 134 [(.agg #[(.int .i64 x27), (.int .u32 x27v1), (.int .u32 x27v2), (.int .u32 x27v3), (.int .u32 x27v4)]), (.agg #[(.int .u16 x28), (.int .u16 x28v1), (.int .u32 x28v2), (.int .u32 x28v3), (.int .u8 x28v4), (.slice x28v5 x28N x28C), (.slice x28v6 x28N1 x28C1)]), (.bool sealed)] w2 fun v3 w4 =>
 ∃ x30 : Int, v3 = (.int .i64 x30) ∧
 (LETI x30 fun x6 =>
 Q (.int .i64 x6) w4)))))
theorem eq107 : ∀ (n : Int) (n1 : Int) (n2 : Int) (n3 : Int) (n4 : Int) (s : Int) (s1 : Int) (s2 : Int) (s3 : Int) (s4 : Int) (s5 : Option Addr) (sN sC : Nat) (s6 : Option Addr) (sN1 sC1 : Nat) (sealed : Bool) (w : World) (Q : Value → World → Prop), vcF PG TB Try.f107 .nil [(.agg #[(.int .i64 n), (.int .u32 n1), (.int .u32 n2), (.int .u32 n3), (.int .u32 n4)]), (.agg #[(.int .u16 s), (.int .u16 s1), (.int .u32 s2), (.int .u32 s3), (.int .u8 s4), (.slice s5 sN sC), (.slice s6 sN1 sC1)]), (.bool sealed)] w Q = N107 n n1 n2 n3 n4 s s1 s2 s3 s4 s5 sN sC s6 sN1 sC1 sealed w Q := by intros; kernel_rfl
theorem call107 {n : Int} {n1 : Int} {n2 : Int} {n3 : Int} {n4 : Int} {s : Int} {s1 : Int} {s2 : Int} {s3 : Int} {s4 : Int} {s5 : Option Addr} {sN sC : Nat} {s6 : Option Addr} {sN1 sC1 : Nat} {sealed : Bool} {w : World} {Q : Value → World → Prop} (hN : N107 n n1 n2 n3 n4 s s1 s2 s3 s4 s5 sN sC s6 sN1 sC1 sealed w Q) : CALL PG 107 [(.agg #[(.int .i64 n), (.int .u32 n1), (.int .u32 n2), (.int .u32 n3), (.int .u32 n4)]), (.agg #[(.int .u16 s), (.int .u16 s1), (.int .u32 s2), (.int .u32 s3), (.int .u8 s4), (.slice s5 sN sC), (.slice s6 sN1 sC1)]), (.bool sealed)] w Q := calls_vc tabOk Try.func107 (by rw [eq107]; exact hN)

/-- brougham/broughamref15.has -/
def N108 (s : Int) (s1 : Int) (s2 : Int) (s3 : Int) (s4 : Int) (s5 : Option Addr) (sN sC : Nat) (s6 : Option Addr) (sN1 sC1 : Nat) (flag : Int) (w : World) (Q : Value → World → Prop) : Prop :=
 RUNA PG (Instr.box 32 (.agg #[(.int .u16 s), (.int .u16 s1), (.int .u32 s2), (.int .u32 s3), (.int .u8 s4), (.slice s5 sN sC), (.slice s6 sN1 sC1)])) w fun a2 w1 =>
 RDI PG (loadVar 5 (Addr.add a2 4)) .u8 w1 fun x6 =>
 NEED (flag ≠ 0)
 (NEED ((2 : Int) ≠ 0)
 (LETB ((Int.tmod (IntKind.i64.wrap (Int.tdiv (IntKind.i64.wrap x6) flag)) (2 : Int)) == (1 : Int)) fun x4 =>
 Q (.bool x4) w1))
theorem eq108 : ∀ (s : Int) (s1 : Int) (s2 : Int) (s3 : Int) (s4 : Int) (s5 : Option Addr) (sN sC : Nat) (s6 : Option Addr) (sN1 sC1 : Nat) (flag : Int) (w : World) (Q : Value → World → Prop), vcF PG TB Try.f108 .nil [(.agg #[(.int .u16 s), (.int .u16 s1), (.int .u32 s2), (.int .u32 s3), (.int .u8 s4), (.slice s5 sN sC), (.slice s6 sN1 sC1)]), (.int .i64 flag)] w Q = N108 s s1 s2 s3 s4 s5 sN sC s6 sN1 sC1 flag w Q := by intros; kernel_rfl
theorem call108 {s : Int} {s1 : Int} {s2 : Int} {s3 : Int} {s4 : Int} {s5 : Option Addr} {sN sC : Nat} {s6 : Option Addr} {sN1 sC1 : Nat} {flag : Int} {w : World} {Q : Value → World → Prop} (hN : N108 s s1 s2 s3 s4 s5 sN sC s6 sN1 sC1 flag w Q) : CALL PG 108 [(.agg #[(.int .u16 s), (.int .u16 s1), (.int .u32 s2), (.int .u32 s3), (.int .u8 s4), (.slice s5 sN sC), (.slice s6 sN1 sC1)]), (.int .i64 flag)] w Q := calls_vc tabOk Try.func108 (by rw [eq108]; exact hN)

/-- brougham/broughamref15.pass -/
def N109 (isv : Bool) (w : World) (Q : Value → World → Prop) : Prop :=
 IFB isv
 (Q (.int .i64 (1 : Int)) w)
 (Q (.int .i64 (2 : Int)) w)
theorem eq109 : ∀ (isv : Bool) (w : World) (Q : Value → World → Prop), vcF PG TB Try.f109 .nil [(.bool isv)] w Q = N109 isv w Q := by intros; kernel_rfl
theorem call109 {isv : Bool} {w : World} {Q : Value → World → Prop} (hN : N109 isv w Q) : CALL PG 109 [(.bool isv)] w Q := calls_vc tabOk Try.func109 (by rw [eq109]; exact hN)

/-- brougham/broughamref04.Within -/
def N110 (x : Int) (fromv : Int) (sizev : Int) (w : World) (Q : Value → World → Prop) : Prop :=
 CALL PG 136 [(.int .u32 fromv), (.int .u32 x)] w fun v w1 =>
 ∃ x9 : Int, v = (.int .i64 x9) ∧
 (LETB (decide (x9 < (IntKind.i64.wrap sizev))) fun x6 =>
 Q (.bool x6) w1)
theorem eq110 : ∀ (x : Int) (fromv : Int) (sizev : Int) (w : World) (Q : Value → World → Prop), vcF PG TB Try.f110 .nil [(.int .u32 x), (.int .u32 fromv), (.int .u32 sizev)] w Q = N110 x fromv sizev w Q := by intros; kernel_rfl
theorem call110 {x : Int} {fromv : Int} {sizev : Int} {w : World} {Q : Value → World → Prop} (hN : N110 x fromv sizev w Q) : CALL PG 110 [(.int .u32 x), (.int .u32 fromv), (.int .u32 sizev)] w Q := calls_vc tabOk Try.func110 (by rw [eq110]; exact hN)

/-- brougham/broughamref15.Fits -/
def N111 (n : Int) (n1 : Int) (n2 : Int) (n3 : Int) (n4 : Int) (s : Int) (s1 : Int) (s2 : Int) (s3 : Int) (s4 : Int) (s5 : Option Addr) (sN sC : Nat) (s6 : Option Addr) (sN1 sC1 : Nat) (sealed : Bool) (w : World) (Q : Value → World → Prop) : Prop :=
 RUNA PG (Instr.box 35 (.agg #[(.int .i64 n), (.int .u32 n1), (.int .u32 n2), (.int .u32 n3), (.int .u32 n4)])) w fun a3 w1 =>
 RUNA PG (Instr.box 32 (.agg #[(.int .u16 s), (.int .u16 s1), (.int .u32 s2), (.int .u32 s3), (.int .u8 s4), (.slice s5 sN sC), (.slice s6 sN1 sC1)])) w1 fun a4 w2 =>
 ∃ R : Bool → World → Prop,
 (RDI PG (loadVar 26 (Addr.add a4 2)) .u32 w2 fun x10 =>
 RDI PG (loadVar 26 (Addr.add a3 4)) .u32 w2 fun x12 =>
 CALL PG 110 [(.int .u32 x10), (.int .u32 x12), (.int .u32 (1048576 : Int))] w2 fun v w3 =>
 ∃ x13 : Bool, v = (.bool x13) ∧
 (IFB x13
 (LETB true fun near =>
 R near w3)
 (RDI PG (loadVar 26 (Addr.add a3 4)) .u32 w3 fun x16 =>
 RDI PG (loadVar 26 (Addr.add a4 2)) .u32 w3 fun x18 =>
 CALL PG 110 [(.int .u32 x16), (.int .u32 x18), (.int .u32 (1048576 : Int))] w3 fun v1 w4 =>
 ∃ x19 : Bool, v1 = (.bool x19) ∧
 (LETB x19 fun near1 =>
 R near1 w4)))) ∧
 (∀ (near2 : Bool) (w5 : World), R near2 w5 → (∃ R1 : Bool → World → Prop,
 (RDI PG (loadVar 26 (Addr.add a4 3)) .u32 w5 fun x22 =>
 RDI PG (loadVar 26 (Addr.add a3 2)) .u32 w5 fun x24 =>
 IFB (x22 == x24)
 (LETB true fun acks =>
 R1 acks w5)
 (RDI PG (loadVar 26 (Addr.add a4 3)) .u32 w5 fun x28 =>
 RDI PG (loadVar 26 (Addr.add a3 2)) .u32 w5 fun x30 =>
 RDI PG (loadVar 26 (Addr.add a3 3)) .u32 w5 fun x32 =>
 CALL PG 137 [(.int .u32 x28), (.int .u32 x30), (.int .u32 x32)] w5 fun v2 w6 =>
 ∃ x33 : Bool, v2 = (.bool x33) ∧
 (IFB x33
 (LETB true fun acks1 =>
 R1 acks1 w6)
 (RDI PG (loadVar 26 (Addr.add a3 2)) .u32 w6 fun x37 =>
 RDI PG (loadVar 26 (Addr.add a4 3)) .u32 w6 fun x39 =>
 CALL PG 110 [(.int .u32 x37), (.int .u32 x39), (.int .u32 (1048576 : Int))] w6 fun v3 w7 =>
 ∃ x40 : Bool, v3 = (.bool x40) ∧
 (LETB x40 fun acks2 =>
 R1 acks2 w7))))) ∧
 (∀ (acks3 : Bool) (w8 : World), R1 acks3 w8 → (IFB sealed
 (RDI PG (loadVar 5 (Addr.add a4 4)) .u8 w8 fun x45 =>
 IFB (x45 == (2 : Int))
 (IFB near2
 (LETB acks3 fun x6 =>
 Q (.bool x6) w8)
 (LETB false fun x6v1 =>
 Q (.bool x6v1) w8))
 (LETB false fun x6v2 =>
 Q (.bool x6v2) w8))
 (LETB false fun x6v3 =>
 Q (.bool x6v3) w8)))))
theorem eq111 : ∀ (n : Int) (n1 : Int) (n2 : Int) (n3 : Int) (n4 : Int) (s : Int) (s1 : Int) (s2 : Int) (s3 : Int) (s4 : Int) (s5 : Option Addr) (sN sC : Nat) (s6 : Option Addr) (sN1 sC1 : Nat) (sealed : Bool) (w : World) (Q : Value → World → Prop), vcF PG TB Try.f111 (.s .nil (.cut [(7, 4)] .nil (.cut [(8, 4)] .nil .nil))) [(.agg #[(.int .i64 n), (.int .u32 n1), (.int .u32 n2), (.int .u32 n3), (.int .u32 n4)]), (.agg #[(.int .u16 s), (.int .u16 s1), (.int .u32 s2), (.int .u32 s3), (.int .u8 s4), (.slice s5 sN sC), (.slice s6 sN1 sC1)]), (.bool sealed)] w Q = N111 n n1 n2 n3 n4 s s1 s2 s3 s4 s5 sN sC s6 sN1 sC1 sealed w Q := by intros; kernel_rfl
theorem call111 {n : Int} {n1 : Int} {n2 : Int} {n3 : Int} {n4 : Int} {s : Int} {s1 : Int} {s2 : Int} {s3 : Int} {s4 : Int} {s5 : Option Addr} {sN sC : Nat} {s6 : Option Addr} {sN1 sC1 : Nat} {sealed : Bool} {w : World} {Q : Value → World → Prop} (hN : N111 n n1 n2 n3 n4 s s1 s2 s3 s4 s5 sN sC s6 sN1 sC1 sealed w Q) : CALL PG 111 [(.agg #[(.int .i64 n), (.int .u32 n1), (.int .u32 n2), (.int .u32 n3), (.int .u32 n4)]), (.agg #[(.int .u16 s), (.int .u16 s1), (.int .u32 s2), (.int .u32 s3), (.int .u8 s4), (.slice s5 sN sC), (.slice s6 sN1 sC1)]), (.bool sealed)] w Q := calls_vc tabOk Try.func111 (by rw [eq111]; exact hN)

/-- brougham/judge.sure -/
def N134 (n : Int) (n1 : Int) (n2 : Int) (n3 : Int) (n4 : Int) (s : Int) (s1 : Int) (s2 : Int) (s3 : Int) (s4 : Int) (s5 : Option Addr) (sN sC : Nat) (s6 : Option Addr) (sN1 sC1 : Nat) (sealed : Bool) (w : World) (Q : Value → World → Prop) : Prop :=
 RUNA PG (Instr.box 37 (.agg #[(.int .i64 n), (.int .u32 n1), (.int .u32 n2), (.int .u32 n3), (.int .u32 n4)])) w fun a3 w1 =>
 RUNA PG (Instr.box 32 (.agg #[(.int .u16 s), (.int .u16 s1), (.int .u32 s2), (.int .u32 s3), (.int .u8 s4), (.slice s5 sN sC), (.slice s6 sN1 sC1)])) w1 fun a4 w2 =>
 ∃ R : Bool → World → Prop,
 (RDI PG (loadVar 26 (Addr.add a4 3)) .u32 w2 fun x9 =>
 RDI PG (loadVar 26 (Addr.add a3 2)) .u32 w2 fun x11 =>
 IFB (x9 == x11)
 (LETB true fun acks =>
 R acks w2)
 (RDI PG (loadVar 26 (Addr.add a4 3)) .u32 w2 fun x15 =>
 RDI PG (loadVar 26 (Addr.add a3 2)) .u32 w2 fun x17 =>
 RDI PG (loadVar 26 (Addr.add a3 3)) .u32 w2 fun x19 =>
 CALL PG 145 [(.int .u32 x15), (.int .u32 x17), (.int .u32 x19)] w2 fun v w3 =>
 ∃ x20 : Bool, v = (.bool x20) ∧
 (IFB x20
 (LETB true fun acks1 =>
 R acks1 w3)
 (RDI PG (loadVar 26 (Addr.add a3 2)) .u32 w3 fun x24 =>
 RDI PG (loadVar 26 (Addr.add a4 3)) .u32 w3 fun x26 =>
 CALL PG 135 [(.int .u32 x24), (.int .u32 x26), (.int .u32 (1048576 : Int))] w3 fun v1 w4 =>
 ∃ x27 : Bool, v1 = (.bool x27) ∧
 (LETB x27 fun acks2 =>
 R acks2 w4))))) ∧
 (∀ (acks3 : Bool) (w5 : World), R acks3 w5 → (IFB sealed
 (RDI PG (loadVar 5 (Addr.add a4 4)) .u8 w5 fun x32 =>
 IFB (x32 == (2 : Int))
 (IFB acks3
 (RDI PG (loadVar 26 (Addr.add a4 2)) .u32 w5 fun x40 =>
 RDI PG (loadVar 26 (Addr.add a3 4)) .u32 w5 fun x42 =>
 CALL PG 146 [(.int .u32 x40), (.int .u32 x42), (.int .u32 (1048576 : Int))] w5 fun v2 w6 =>
 ∃ x43 : Bool, v2 = (.bool x43) ∧
 (IFB x43
 (Q (.int .i64 (1 : Int)) w6)
 (Q (.int .i64 (2 : Int)) w6)))
 (Q (.int .i64 (2 : Int)) w5))
 (Q (.int .i64 (2 : Int)) w5))
 (Q (.int .i64 (2 : Int)) w5)))
theorem eq134 : ∀ (n : Int) (n1 : Int) (n2 : Int) (n3 : Int) (n4 : Int) (s : Int) (s1 : Int) (s2 : Int) (s3 : Int) (s4 : Int) (s5 : Option Addr) (sN sC : Nat) (s6 : Option Addr) (sN1 sC1 : Nat) (sealed : Bool) (w : World) (Q : Value → World → Prop), vcF PG TB Try.f134 (.s .nil (.cut [(7, 4)] .nil .nil)) [(.agg #[(.int .i64 n), (.int .u32 n1), (.int .u32 n2), (.int .u32 n3), (.int .u32 n4)]), (.agg #[(.int .u16 s), (.int .u16 s1), (.int .u32 s2), (.int .u32 s3), (.int .u8 s4), (.slice s5 sN sC), (.slice s6 sN1 sC1)]), (.bool sealed)] w Q = N134 n n1 n2 n3 n4 s s1 s2 s3 s4 s5 sN sC s6 sN1 sC1 sealed w Q := by intros; kernel_rfl
theorem call134 {n : Int} {n1 : Int} {n2 : Int} {n3 : Int} {n4 : Int} {s : Int} {s1 : Int} {s2 : Int} {s3 : Int} {s4 : Int} {s5 : Option Addr} {sN sC : Nat} {s6 : Option Addr} {sN1 sC1 : Nat} {sealed : Bool} {w : World} {Q : Value → World → Prop} (hN : N134 n n1 n2 n3 n4 s s1 s2 s3 s4 s5 sN sC s6 sN1 sC1 sealed w Q) : CALL PG 134 [(.agg #[(.int .i64 n), (.int .u32 n1), (.int .u32 n2), (.int .u32 n3), (.int .u32 n4)]), (.agg #[(.int .u16 s), (.int .u16 s1), (.int .u32 s2), (.int .u32 s3), (.int .u8 s4), (.slice s5 sN sC), (.slice s6 sN1 sC1)]), (.bool sealed)] w Q := calls_vc tabOk Try.func134 (by rw [eq134]; exact hN)

/-- brougham/serial.Within -/
def N135 (x : Int) (fromv : Int) (sizev : Int) (w : World) (Q : Value → World → Prop) : Prop :=
 LETB (decide ((IntKind.u32.wrap (x - fromv)) < sizev)) fun x6 =>
 Q (.bool x6) w
theorem eq135 : ∀ (x : Int) (fromv : Int) (sizev : Int) (w : World) (Q : Value → World → Prop), vcF PG TB Try.f135 .nil [(.int .u32 x), (.int .u32 fromv), (.int .u32 sizev)] w Q = N135 x fromv sizev w Q := by intros; kernel_rfl
theorem call135 {x : Int} {fromv : Int} {sizev : Int} {w : World} {Q : Value → World → Prop} (hN : N135 x fromv sizev w Q) : CALL PG 135 [(.int .u32 x), (.int .u32 fromv), (.int .u32 sizev)] w Q := calls_vc tabOk Try.func135 (by rw [eq135]; exact hN)

/-- brougham/broughamref04.ahead -/
def N136 (fromv : Int) (tov : Int) (w : World) (Q : Value → World → Prop) : Prop :=
 LETI (IntKind.i64.wrap ((IntKind.i64.wrap tov) - (IntKind.i64.wrap fromv))) fun d =>
 IFB (decide (d < (0 : Int)))
 (LETI (IntKind.i64.wrap (d + (4294967296 : Int))) fun d1 =>
 LETI d1 fun x4 =>
 Q (.int .i64 x4) w)
 (LETI d fun x4v1 =>
 Q (.int .i64 x4v1) w)
theorem eq136 : ∀ (fromv : Int) (tov : Int) (w : World) (Q : Value → World → Prop), vcF PG TB Try.f136 .nil [(.int .u32 fromv), (.int .u32 tov)] w Q = N136 fromv tov w Q := by intros; kernel_rfl
theorem call136 {fromv : Int} {tov : Int} {w : World} {Q : Value → World → Prop} (hN : N136 fromv tov w Q) : CALL PG 136 [(.int .u32 fromv), (.int .u32 tov)] w Q := calls_vc tabOk Try.func136 (by rw [eq136]; exact hN)

/-- brougham/broughamref04.Between -/
def N137 (x : Int) (fromv : Int) (tov : Int) (w : World) (Q : Value → World → Prop) : Prop :=
 CALL PG 147 [(.int .u32 tov), (.int .u32 fromv)] w fun v w1 =>
 ∃ x9 : Int, v = (.int .i64 x9) ∧
 (IFB (decide (x9 ≥ (0 : Int)))
 (IFB (x != fromv)
 (CALL PG 136 [(.int .u32 fromv), (.int .u32 x)] w1 fun v1 w2 =>
 ∃ x19 : Int, v1 = (.int .i64 x19) ∧
 (CALL PG 136 [(.int .u32 fromv), (.int .u32 tov)] w2 fun v2 w3 =>
 ∃ x22 : Int, v2 = (.int .i64 x22) ∧
 (LETB (decide (x19 ≤ x22)) fun x6 =>
 Q (.bool x6) w3)))
 (LETB false fun x6v1 =>
 Q (.bool x6v1) w1))
 (LETB false fun x6v2 =>
 Q (.bool x6v2) w1))
theorem eq137 : ∀ (x : Int) (fromv : Int) (tov : Int) (w : World) (Q : Value → World → Prop), vcF PG TB Try.f137 .nil [(.int .u32 x), (.int .u32 fromv), (.int .u32 tov)] w Q = N137 x fromv tov w Q := by intros; kernel_rfl
theorem call137 {x : Int} {fromv : Int} {tov : Int} {w : World} {Q : Value → World → Prop} (hN : N137 x fromv tov w Q) : CALL PG 137 [(.int .u32 x), (.int .u32 fromv), (.int .u32 tov)] w Q := calls_vc tabOk Try.func137 (by rw [eq137]; exact hN)

/-- brougham/serial.Between -/
def N145 (x : Int) (fromv : Int) (tov : Int) (w : World) (Q : Value → World → Prop) : Prop :=
 IFB (x != fromv)
 (IFB (decide ((IntKind.u32.wrap (x - fromv)) ≤ (IntKind.u32.wrap (tov - fromv))))
 (CALL PG 153 [(.int .u32 tov), (.int .u32 fromv)] w fun v w1 =>
 ∃ x22 : Bool, v = (.bool x22) ∧
 (LETB (!x22) fun x6 =>
 Q (.bool x6) w1))
 (LETB false fun x6v1 =>
 Q (.bool x6v1) w))
 (LETB false fun x6v2 =>
 Q (.bool x6v2) w)
theorem eq145 : ∀ (x : Int) (fromv : Int) (tov : Int) (w : World) (Q : Value → World → Prop), vcF PG TB Try.f145 .nil [(.int .u32 x), (.int .u32 fromv), (.int .u32 tov)] w Q = N145 x fromv tov w Q := by intros; kernel_rfl
theorem call145 {x : Int} {fromv : Int} {tov : Int} {w : World} {Q : Value → World → Prop} (hN : N145 x fromv tov w Q) : CALL PG 145 [(.int .u32 x), (.int .u32 fromv), (.int .u32 tov)] w Q := calls_vc tabOk Try.func145 (by rw [eq145]; exact hN)

/-- brougham/serial.Near -/
def N146 (x : Int) (tov : Int) (sizev : Int) (w : World) (Q : Value → World → Prop) : Prop :=
 CALL PG 135 [(.int .u32 x), (.int .u32 tov), (.int .u32 sizev)] w fun v w1 =>
 ∃ x10 : Bool, v = (.bool x10) ∧
 (IFB x10
 (LETB true fun x6 =>
 Q (.bool x6) w1)
 (CALL PG 135 [(.int .u32 tov), (.int .u32 x), (.int .u32 sizev)] w1 fun v1 w2 =>
 ∃ x15 : Bool, v1 = (.bool x15) ∧
 (LETB x15 fun x6v1 =>
 Q (.bool x6v1) w2)))
theorem eq146 : ∀ (x : Int) (tov : Int) (sizev : Int) (w : World) (Q : Value → World → Prop), vcF PG TB Try.f146 .nil [(.int .u32 x), (.int .u32 tov), (.int .u32 sizev)] w Q = N146 x tov sizev w Q := by intros; kernel_rfl
theorem call146 {x : Int} {tov : Int} {sizev : Int} {w : World} {Q : Value → World → Prop} (hN : N146 x tov sizev w Q) : CALL PG 146 [(.int .u32 x), (.int .u32 tov), (.int .u32 sizev)] w Q := calls_vc tabOk Try.func146 (by rw [eq146]; exact hN)

/-- brougham/broughamref04.Diff -/
def N147 (a : Int) (b : Int) (w : World) (Q : Value → World → Prop) : Prop :=
 LETI (IntKind.i64.wrap ((IntKind.i64.wrap a) - (IntKind.i64.wrap b))) fun d =>
 IFB (decide (d < (-2147483648 : Int)))
 (LETI (IntKind.i64.wrap (d + (4294967296 : Int))) fun d1 =>
 IFB (decide (d1 ≥ (2147483648 : Int)))
 (LETI (IntKind.i64.wrap (d1 - (4294967296 : Int))) fun d2 =>
 LETI d2 fun x4 =>
 Q (.int .i64 x4) w)
 (LETI d1 fun x4v1 =>
 Q (.int .i64 x4v1) w))
 (IFB (decide (d ≥ (2147483648 : Int)))
 (LETI (IntKind.i64.wrap (d - (4294967296 : Int))) fun d3 =>
 LETI d3 fun x4v2 =>
 Q (.int .i64 x4v2) w)
 (LETI d fun x4v3 =>
 Q (.int .i64 x4v3) w))
theorem eq147 : ∀ (a : Int) (b : Int) (w : World) (Q : Value → World → Prop), vcF PG TB Try.f147 .nil [(.int .u32 a), (.int .u32 b)] w Q = N147 a b w Q := by intros; kernel_rfl
theorem call147 {a : Int} {b : Int} {w : World} {Q : Value → World → Prop} (hN : N147 a b w Q) : CALL PG 147 [(.int .u32 a), (.int .u32 b)] w Q := calls_vc tabOk Try.func147 (by rw [eq147]; exact hN)

/-- brougham/serial.Less -/
def N153 (a : Int) (b : Int) (w : World) (Q : Value → World → Prop) : Prop :=
 LETB (decide ((IntKind.i32.wrap (IntKind.u32.wrap (a - b))) < (0 : Int))) fun x4 =>
 Q (.bool x4) w
theorem eq153 : ∀ (a : Int) (b : Int) (w : World) (Q : Value → World → Prop), vcF PG TB Try.f153 .nil [(.int .u32 a), (.int .u32 b)] w Q = N153 a b w Q := by intros; kernel_rfl
theorem call153 {a : Int} {b : Int} {w : World} {Q : Value → World → Prop} (hN : N153 a b w Q) : CALL PG 153 [(.int .u32 a), (.int .u32 b)] w Q := calls_vc tabOk Try.func153 (by rw [eq153]; exact hN)

end Go.Br
