/- Judge2, FlowFn -/
import Derived.Test.YtmglifmopjedbaaGreatBrSeat
import Derived.Test.YtmglifmopjedbaaGreatJSegRound
import Derived.Test.YtmglifmopjedbaaGreatJConnAsk2
import Derived.Test.YtmglifmopjedbaaGreatJOptRead
import Derived.Test.YtmglifmopjedbaaGreatSession
/- What the code of some functions says,as the core reads it; each reading is checked by the kernel. -/
set_option linter.unusedVariables false
set_option maxRecDepth 100000
namespace Go.Br
open Go Go.Proofs
def N88 (n : Int) (n1 : Int) (n2 : Int) (n3 : Int) (n4 : Int) (s : Int) (s1 : Int) (s2 : Int) (s3 : Int) (s4 : Int) (s5 : Option Addr) (sN sC : Nat) (s6 : Option Addr) (sN1 sC1 : Nat) (sealed : Bool) (w : World) (Q : QP) : Prop :=
 RUNA PG (Instr.box 104 (.agg #[(.int .i64 n),(.int .u32 n1),(.int .u32 n2),(.int .u32 n3),(.int .u32 n4)])) w fun a3 w1 =>
 RUNA PG (Instr.box 118 (.agg #[(.int .u16 s),(.int .u16 s1),(.int .u32 s2),(.int .u32 s3),(.int .u8 s4),(.slice s5 sN sC),(.slice s6 sN1 sC1)])) w1 fun a4 w2 =>
 RDI PG (loadVar 39 (a3.add 0)) .i64 w2 fun x8 =>
 LETB (x8 == 1) fun x9 =>
 IFB x9
 (RD PG (loadVar 104 a3) w2 fun v =>
 ∃ x11 : Int,∃ x11v1 : Int,∃ x11v2 : Int,∃ x11v3 : Int,∃ x11v4 : Int,v = (.agg #[(.int .i64 x11),(.int .u32 x11v1),(.int .u32 x11v2),(.int .u32 x11v3),(.int .u32 x11v4)]) /\
 (RD PG (loadVar 118 a4) w2 fun v1 =>
 ∃ x12 : Int,∃ x12v1 : Int,∃ x12v2 : Int,∃ x12v3 : Int,∃ x12v4 : Int,∃ (x12v5 : Option Addr) (x12N x12C : Nat),∃ (x12v6 : Option Addr) (x12N1 x12C1 : Nat),v1 = (.agg #[(.int .u16 x12),(.int .u16 x12v1),(.int .u32 x12v2),(.int .u32 x12v3),(.int .u8 x12v4),(.slice x12v5 x12N x12C),(.slice x12v6 x12N1 x12C1)]) /\
 (CALL PG 140 [(.agg #[(.int .i64 x11),(.int .u32 x11v1),(.int .u32 x11v2),(.int .u32 x11v3),(.int .u32 x11v4)]),(.agg #[(.int .u16 x12),(.int .u16 x12v1),(.int .u32 x12v2),(.int .u32 x12v3),(.int .u8 x12v4),(.slice x12v5 x12N x12C),(.slice x12v6 x12N1 x12C1)])] w2 fun v2 w3 =>
 ∃ x13 : Int,v2 = (.int .i64 x13) /\
 (LETI x13 fun x6 =>
 Q (.int .i64 x6) w3))))
 (LETB (x8 == 2) fun x14 =>
 IFB x14
 (RD PG (loadVar 104 a3) w2 fun v3 =>
 ∃ x16 : Int,∃ x16v1 : Int,∃ x16v2 : Int,∃ x16v3 : Int,∃ x16v4 : Int,v3 = (.agg #[(.int .i64 x16),(.int .u32 x16v1),(.int .u32 x16v2),(.int .u32 x16v3),(.int .u32 x16v4)]) /\
 (RD PG (loadVar 118 a4) w2 fun v4 =>
 ∃ x17 : Int,∃ x17v1 : Int,∃ x17v2 : Int,∃ x17v3 : Int,∃ x17v4 : Int,∃ (x17v5 : Option Addr) (x17N x17C : Nat),∃ (x17v6 : Option Addr) (x17N1 x17C1 : Nat),v4 = (.agg #[(.int .u16 x17),(.int .u16 x17v1),(.int .u32 x17v2),(.int .u32 x17v3),(.int .u8 x17v4),(.slice x17v5 x17N x17C),(.slice x17v6 x17N1 x17C1)]) /\
 (CALL PG 141 [(.agg #[(.int .i64 x16),(.int .u32 x16v1),(.int .u32 x16v2),(.int .u32 x16v3),(.int .u32 x16v4)]),(.agg #[(.int .u16 x17),(.int .u16 x17v1),(.int .u32 x17v2),(.int .u32 x17v3),(.int .u8 x17v4),(.slice x17v5 x17N x17C),(.slice x17v6 x17N1 x17C1)]),(.bool sealed)] w2 fun v5 w4 =>
 ∃ x19 : Int,v5 = (.int .i64 x19) /\
 (LETI x19 fun x6v1 =>
 Q (.int .i64 x6v1) w4))))
 (LETB (x8 == 3) fun x20 =>
 IFB x20
 (RD PG (loadVar 104 a3) w2 fun v6 =>
 ∃ x22 : Int,∃ x22v1 : Int,∃ x22v2 : Int,∃ x22v3 : Int,∃ x22v4 : Int,v6 = (.agg #[(.int .i64 x22),(.int .u32 x22v1),(.int .u32 x22v2),(.int .u32 x22v3),(.int .u32 x22v4)]) /\
 (RD PG (loadVar 118 a4) w2 fun v7 =>
 ∃ x23 : Int,∃ x23v1 : Int,∃ x23v2 : Int,∃ x23v3 : Int,∃ x23v4 : Int,∃ (x23v5 : Option Addr) (x23N x23C : Nat),∃ (x23v6 : Option Addr) (x23N1 x23C1 : Nat),v7 = (.agg #[(.int .u16 x23),(.int .u16 x23v1),(.int .u32 x23v2),(.int .u32 x23v3),(.int .u8 x23v4),(.slice x23v5 x23N x23C),(.slice x23v6 x23N1 x23C1)]) /\
 (CALL PG 142 [(.agg #[(.int .i64 x22),(.int .u32 x22v1),(.int .u32 x22v2),(.int .u32 x22v3),(.int .u32 x22v4)]),(.agg #[(.int .u16 x23),(.int .u16 x23v1),(.int .u32 x23v2),(.int .u32 x23v3),(.int .u8 x23v4),(.slice x23v5 x23N x23C),(.slice x23v6 x23N1 x23C1)]),(.bool sealed)] w2 fun v8 w5 =>
 ∃ x25 : Int,v8 = (.int .i64 x25) /\
 (LETI x25 fun x6v2 =>
 Q (.int .i64 x6v2) w5))))
 (Q (.int .i64 2) w2)))
theorem call88 {n : Int} {n1 : Int} {n2 : Int} {n3 : Int} {n4 : Int} {s : Int} {s1 : Int} {s2 : Int} {s3 : Int} {s4 : Int} {s5 : Option Addr} {sN sC : Nat} {s6 : Option Addr} {sN1 sC1 : Nat} {sealed : Bool} {w : World} {Q : QP} (h_ : N88 n n1 n2 n3 n4 s s1 s2 s3 s4 s5 sN sC s6 sN1 sC1 sealed w Q) : CALL PG 88 [(.agg #[(.int .i64 n),(.int .u32 n1),(.int .u32 n2),(.int .u32 n3),(.int .u32 n4)]),(.agg #[(.int .u16 s),(.int .u16 s1),(.int .u32 s2),(.int .u32 s3),(.int .u8 s4),(.slice s5 sN sC),(.slice s6 sN1 sC1)]),(.bool sealed)] w Q:=calls_vq .nil tabOk Tryz.func88 (by kernel_rfl) h_
def N140 (n : Int) (n1 : Int) (n2 : Int) (n3 : Int) (n4 : Int) (s : Int) (s1 : Int) (s2 : Int) (s3 : Int) (s4 : Int) (s5 : Option Addr) (sN sC : Nat) (s6 : Option Addr) (sN1 sC1 : Nat) (w : World) (Q : QP) : Prop :=
 RUNA PG (Instr.box 104 (.agg #[(.int .i64 n),(.int .u32 n1),(.int .u32 n2),(.int .u32 n3),(.int .u32 n4)])) w fun a2 w1 =>
 RUNA PG (Instr.box 118 (.agg #[(.int .u16 s),(.int .u16 s1),(.int .u32 s2),(.int .u32 s3),(.int .u8 s4),(.slice s5 sN sC),(.slice s6 sN1 sC1)])) w1 fun a3 w2 =>
 ∃ R : Bool -> World -> Prop,
 (RDI PG (loadVar 5 (a3.add 4)) .u8 w2 fun x7 =>
 IFB ((IntKind.u8.wrap (BitVec.ofInt (IntKind.u8.bits) x7 &&& BitVec.ofInt (IntKind.u8.bits) 2).toNat) != 0)
 (RDI PG (loadVar 26 (a3.add 3)) .u32 w2 fun x12 =>
 RDI PG (loadVar 26 (a2.add 1)) .u32 w2 fun x14 =>
 LETB (x12 == (IntKind.u32.wrap (x14 + 1))) fun answers =>
 R answers w2)
 (LETB false fun answers1 =>
 R answers1 w2)) /\
 (∀ (answers2 : Bool) (w3 : World),R answers2 w3 -> (∃ R1 : Bool -> World -> Prop,
 (IFB (!answers2)
 (RDI PG (loadVar 5 (a3.add 4)) .u8 w3 fun x23 =>
 LETB (x23 == 2) fun x18 =>
 R1 x18 w3)
 (LETB false fun x18v1 =>
 R1 x18v1 w3)) /\
 (∀ (x18v2 : Bool) (w4 : World),R1 x18v2 w4 -> (IFB x18v2
 (Q (.int .i64 5) w4)
 (LETB (!answers2) fun x26 =>
 IFB x26
 (Q (.int .i64 2) w4)
 (RDI PG (loadVar 5 (a3.add 4)) .u8 w4 fun x31 =>
 LETB ((IntKind.u8.wrap (BitVec.ofInt (IntKind.u8.bits) x31 &&& BitVec.ofInt (IntKind.u8.bits) 4).toNat) != 0) fun x29 =>
 IFB x29
 (Q (.int .i64 4) w4)
 (RDI PG (loadVar 5 (a3.add 4)) .u8 w4 fun x36 =>
 LETB ((IntKind.u8.wrap (BitVec.ofInt (IntKind.u8.bits) x36 &&& BitVec.ofInt (IntKind.u8.bits) 1).toNat) != 0) fun x34 =>
 IFB x34
 (Q (.int .i64 1) w4)
 (Q (.int .i64 2) w4))))))))
theorem call140 {n : Int} {n1 : Int} {n2 : Int} {n3 : Int} {n4 : Int} {s : Int} {s1 : Int} {s2 : Int} {s3 : Int} {s4 : Int} {s5 : Option Addr} {sN sC : Nat} {s6 : Option Addr} {sN1 sC1 : Nat} {w : World} {Q : QP} (h_ : N140 n n1 n2 n3 n4 s s1 s2 s3 s4 s5 sN sC s6 sN1 sC1 w Q) : CALL PG 140 [(.agg #[(.int .i64 n),(.int .u32 n1),(.int .u32 n2),(.int .u32 n3),(.int .u32 n4)]),(.agg #[(.int .u16 s),(.int .u16 s1),(.int .u32 s2),(.int .u32 s3),(.int .u8 s4),(.slice s5 sN sC),(.slice s6 sN1 sC1)])] w Q:=calls_vq (.s .nil (.cut [(5,4)] .nil (.s (.u (.cut [(18,4)] .nil .nil)) .nil))) tabOk Tryz.func140 (by kernel_rfl) h_
def N141 (n : Int) (n1 : Int) (n2 : Int) (n3 : Int) (n4 : Int) (s : Int) (s1 : Int) (s2 : Int) (s3 : Int) (s4 : Int) (s5 : Option Addr) (sN sC : Nat) (s6 : Option Addr) (sN1 sC1 : Nat) (sealed : Bool) (w : World) (Q : QP) : Prop :=
 RUNA PG (Instr.box 104 (.agg #[(.int .i64 n),(.int .u32 n1),(.int .u32 n2),(.int .u32 n3),(.int .u32 n4)])) w fun a3 w1 =>
 RUNA PG (Instr.box 118 (.agg #[(.int .u16 s),(.int .u16 s1),(.int .u32 s2),(.int .u32 s3),(.int .u8 s4),(.slice s5 sN sC),(.slice s6 sN1 sC1)])) w1 fun a4 w2 =>
 RDI PG (loadVar 5 (a4.add 4)) .u8 w2 fun x9 =>
 LETB ((IntKind.u8.wrap (BitVec.ofInt (IntKind.u8.bits) x9 &&& BitVec.ofInt (IntKind.u8.bits) 4).toNat) != 0) fun x7 =>
 IFB x7
 (RDI PG (loadVar 26 (a4.add 2)) .u32 w2 fun x13 =>
 RDI PG (loadVar 26 (a3.add 4)) .u32 w2 fun x15 =>
 IFB (x13 == x15)
 (Q (.int .i64 4) w2)
 (Q (.int .i64 2) w2))
 (RDI PG (loadVar 5 (a4.add 4)) .u8 w2 fun x19 =>
 LETB ((IntKind.u8.wrap (BitVec.ofInt (IntKind.u8.bits) x19 &&& BitVec.ofInt (IntKind.u8.bits) 1).toNat) != 0) fun x17 =>
 IFB x17
 (RDI PG (loadVar 5 (a4.add 4)) .u8 w2 fun x23 =>
 IFB (x23 == 1)
 (RDI PG (loadVar 26 (a4.add 2)) .u32 w2 fun x27 =>
 RDI PG (loadVar 26 (a3.add 4)) .u32 w2 fun x30 =>
 IFB ((IntKind.u32.wrap (x27 + 1)) == x30)
 (Q (.int .i64 1) w2)
 (Q (.int .i64 2) w2))
 (Q (.int .i64 2) w2))
 (RD PG (loadVar 104 a3) w2 fun v =>
 ∃ x33 : Int,∃ x33v1 : Int,∃ x33v2 : Int,∃ x33v3 : Int,∃ x33v4 : Int,v = (.agg #[(.int .i64 x33),(.int .u32 x33v1),(.int .u32 x33v2),(.int .u32 x33v3),(.int .u32 x33v4)]) /\
 (RD PG (loadVar 118 a4) w2 fun v1 =>
 ∃ x34 : Int,∃ x34v1 : Int,∃ x34v2 : Int,∃ x34v3 : Int,∃ x34v4 : Int,∃ (x34v5 : Option Addr) (x34N x34C : Nat),∃ (x34v6 : Option Addr) (x34N1 x34C1 : Nat),v1 = (.agg #[(.int .u16 x34),(.int .u16 x34v1),(.int .u32 x34v2),(.int .u32 x34v3),(.int .u8 x34v4),(.slice x34v5 x34N x34C),(.slice x34v6 x34N1 x34C1)]) /\
 (CALL PG 174 [(.agg #[(.int .i64 x33),(.int .u32 x33v1),(.int .u32 x33v2),(.int .u32 x33v3),(.int .u32 x33v4)]),(.agg #[(.int .u16 x34),(.int .u16 x34v1),(.int .u32 x34v2),(.int .u32 x34v3),(.int .u8 x34v4),(.slice x34v5 x34N x34C),(.slice x34v6 x34N1 x34C1)]),(.bool sealed)] w2 fun v2 w3 =>
 ∃ x36 : Int,v2 = (.int .i64 x36) /\
 (LETI x36 fun x6 =>
 Q (.int .i64 x6) w3)))))
theorem call141 {n : Int} {n1 : Int} {n2 : Int} {n3 : Int} {n4 : Int} {s : Int} {s1 : Int} {s2 : Int} {s3 : Int} {s4 : Int} {s5 : Option Addr} {sN sC : Nat} {s6 : Option Addr} {sN1 sC1 : Nat} {sealed : Bool} {w : World} {Q : QP} (h_ : N141 n n1 n2 n3 n4 s s1 s2 s3 s4 s5 sN sC s6 sN1 sC1 sealed w Q) : CALL PG 141 [(.agg #[(.int .i64 n),(.int .u32 n1),(.int .u32 n2),(.int .u32 n3),(.int .u32 n4)]),(.agg #[(.int .u16 s),(.int .u16 s1),(.int .u32 s2),(.int .u32 s3),(.int .u8 s4),(.slice s5 sN sC),(.slice s6 sN1 sC1)]),(.bool sealed)] w Q:=calls_vq .nil tabOk Tryz.func141 (by kernel_rfl) h_
def N142 (n : Int) (n1 : Int) (n2 : Int) (n3 : Int) (n4 : Int) (s : Int) (s1 : Int) (s2 : Int) (s3 : Int) (s4 : Int) (s5 : Option Addr) (sN sC : Nat) (s6 : Option Addr) (sN1 sC1 : Nat) (sealed : Bool) (w : World) (Q : QP) : Prop :=
 RUNA PG (Instr.box 104 (.agg #[(.int .i64 n),(.int .u32 n1),(.int .u32 n2),(.int .u32 n3),(.int .u32 n4)])) w fun a3 w1 =>
 RUNA PG (Instr.box 118 (.agg #[(.int .u16 s),(.int .u16 s1),(.int .u32 s2),(.int .u32 s3),(.int .u8 s4),(.slice s5 sN sC),(.slice s6 sN1 sC1)])) w1 fun a4 w2 =>
 RDI PG (loadVar 5 (a4.add 4)) .u8 w2 fun x9 =>
 LETB ((IntKind.u8.wrap (BitVec.ofInt (IntKind.u8.bits) x9 &&& BitVec.ofInt (IntKind.u8.bits) 4).toNat) != 0) fun x7 =>
 IFB x7
 (RDI PG (loadVar 26 (a4.add 2)) .u32 w2 fun x13 =>
 RDI PG (loadVar 26 (a3.add 4)) .u32 w2 fun x15 =>
 IFB (x13 == x15)
 (Q (.int .i64 4) w2)
 (RDI PG (loadVar 26 (a4.add 2)) .u32 w2 fun x18 =>
 RDI PG (loadVar 26 (a3.add 4)) .u32 w2 fun x20 =>
 CALL PG 175 [(.int .u32 x18),(.int .u32 x20),(.int .u32 1048576)] w2 fun v w3 =>
 ∃ x21 : Bool,v = (.bool x21) /\
 (IFB x21
 (Q (.int .i64 3) w3)
 (Q (.int .i64 2) w3))))
 (RDI PG (loadVar 5 (a4.add 4)) .u8 w2 fun x24 =>
 LETB ((IntKind.u8.wrap (BitVec.ofInt (IntKind.u8.bits) x24 &&& BitVec.ofInt (IntKind.u8.bits) 1).toNat) != 0) fun x22 =>
 IFB x22
 (Q (.int .i64 3) w2)
 (RD PG (loadVar 104 a3) w2 fun v1 =>
 ∃ x27 : Int,∃ x27v1 : Int,∃ x27v2 : Int,∃ x27v3 : Int,∃ x27v4 : Int,v1 = (.agg #[(.int .i64 x27),(.int .u32 x27v1),(.int .u32 x27v2),(.int .u32 x27v3),(.int .u32 x27v4)]) /\
 (RD PG (loadVar 118 a4) w2 fun v2 =>
 ∃ x28 : Int,∃ x28v1 : Int,∃ x28v2 : Int,∃ x28v3 : Int,∃ x28v4 : Int,∃ (x28v5 : Option Addr) (x28N x28C : Nat),∃ (x28v6 : Option Addr) (x28N1 x28C1 : Nat),v2 = (.agg #[(.int .u16 x28),(.int .u16 x28v1),(.int .u32 x28v2),(.int .u32 x28v3),(.int .u8 x28v4),(.slice x28v5 x28N x28C),(.slice x28v6 x28N1 x28C1)]) /\
 (CALL PG 174 [(.agg #[(.int .i64 x27),(.int .u32 x27v1),(.int .u32 x27v2),(.int .u32 x27v3),(.int .u32 x27v4)]),(.agg #[(.int .u16 x28),(.int .u16 x28v1),(.int .u32 x28v2),(.int .u32 x28v3),(.int .u8 x28v4),(.slice x28v5 x28N x28C),(.slice x28v6 x28N1 x28C1)]),(.bool sealed)] w2 fun v3 w4 =>
 ∃ x30 : Int,v3 = (.int .i64 x30) /\
 (LETI x30 fun x6 =>
 Q (.int .i64 x6) w4)))))
theorem call142 {n : Int} {n1 : Int} {n2 : Int} {n3 : Int} {n4 : Int} {s : Int} {s1 : Int} {s2 : Int} {s3 : Int} {s4 : Int} {s5 : Option Addr} {sN sC : Nat} {s6 : Option Addr} {sN1 sC1 : Nat} {sealed : Bool} {w : World} {Q : QP} (h_ : N142 n n1 n2 n3 n4 s s1 s2 s3 s4 s5 sN sC s6 sN1 sC1 sealed w Q) : CALL PG 142 [(.agg #[(.int .i64 n),(.int .u32 n1),(.int .u32 n2),(.int .u32 n3),(.int .u32 n4)]),(.agg #[(.int .u16 s),(.int .u16 s1),(.int .u32 s2),(.int .u32 s3),(.int .u8 s4),(.slice s5 sN sC),(.slice s6 sN1 sC1)]),(.bool sealed)] w Q:=calls_vq .nil tabOk Tryz.func142 (by kernel_rfl) h_
def N174 (n : Int) (n1 : Int) (n2 : Int) (n3 : Int) (n4 : Int) (s : Int) (s1 : Int) (s2 : Int) (s3 : Int) (s4 : Int) (s5 : Option Addr) (sN sC : Nat) (s6 : Option Addr) (sN1 sC1 : Nat) (sealed : Bool) (w : World) (Q : QP) : Prop :=
 RUNA PG (Instr.box 104 (.agg #[(.int .i64 n),(.int .u32 n1),(.int .u32 n2),(.int .u32 n3),(.int .u32 n4)])) w fun a3 w1 =>
 RUNA PG (Instr.box 118 (.agg #[(.int .u16 s),(.int .u16 s1),(.int .u32 s2),(.int .u32 s3),(.int .u8 s4),(.slice s5 sN sC),(.slice s6 sN1 sC1)])) w1 fun a4 w2 =>
 ∃ R : Bool -> World -> Prop,
 (RDI PG (loadVar 26 (a4.add 3)) .u32 w2 fun x9 =>
 RDI PG (loadVar 26 (a3.add 2)) .u32 w2 fun x11 =>
 IFB (x9 == x11)
 (LETB true fun acks =>
 R acks w2)
 (RDI PG (loadVar 26 (a4.add 3)) .u32 w2 fun x15 =>
 RDI PG (loadVar 26 (a3.add 2)) .u32 w2 fun x17 =>
 RDI PG (loadVar 26 (a3.add 3)) .u32 w2 fun x19 =>
 CALL PG 202 [(.int .u32 x15),(.int .u32 x17),(.int .u32 x19)] w2 fun v w3 =>
 ∃ x20 : Bool,v = (.bool x20) /\
 (IFB x20
 (LETB true fun acks1 =>
 R acks1 w3)
 (RDI PG (loadVar 26 (a3.add 2)) .u32 w3 fun x24 =>
 RDI PG (loadVar 26 (a4.add 3)) .u32 w3 fun x26 =>
 CALL PG 175 [(.int .u32 x24),(.int .u32 x26),(.int .u32 1048576)] w3 fun v1 w4 =>
 ∃ x27 : Bool,v1 = (.bool x27) /\
 (LETB x27 fun acks2 =>
 R acks2 w4))))) /\
 (∀ (acks3 : Bool) (w5 : World),R acks3 w5 -> (IFB sealed
 (RDI PG (loadVar 5 (a4.add 4)) .u8 w5 fun x32 =>
 IFB (x32 == 2)
 (IFB acks3
 (RDI PG (loadVar 26 (a4.add 2)) .u32 w5 fun x40 =>
 RDI PG (loadVar 26 (a3.add 4)) .u32 w5 fun x42 =>
 CALL PG 203 [(.int .u32 x40),(.int .u32 x42),(.int .u32 1048576)] w5 fun v2 w6 =>
 ∃ x43 : Bool,v2 = (.bool x43) /\
 (IFB x43
 (Q (.int .i64 1) w6)
 (Q (.int .i64 2) w6)))
 (Q (.int .i64 2) w5))
 (Q (.int .i64 2) w5))
 (Q (.int .i64 2) w5)))
theorem call174 {n : Int} {n1 : Int} {n2 : Int} {n3 : Int} {n4 : Int} {s : Int} {s1 : Int} {s2 : Int} {s3 : Int} {s4 : Int} {s5 : Option Addr} {sN sC : Nat} {s6 : Option Addr} {sN1 sC1 : Nat} {sealed : Bool} {w : World} {Q : QP} (h_ : N174 n n1 n2 n3 n4 s s1 s2 s3 s4 s5 sN sC s6 sN1 sC1 sealed w Q) : CALL PG 174 [(.agg #[(.int .i64 n),(.int .u32 n1),(.int .u32 n2),(.int .u32 n3),(.int .u32 n4)]),(.agg #[(.int .u16 s),(.int .u16 s1),(.int .u32 s2),(.int .u32 s3),(.int .u8 s4),(.slice s5 sN sC),(.slice s6 sN1 sC1)]),(.bool sealed)] w Q:=calls_vq (.s .nil (.cut [(7,4)] .nil .nil)) tabOk Tryz.func174 (by kernel_rfl) h_
def N175 (x : Int) (fromv : Int) (sizev : Int) (w : World) (Q : QP) : Prop :=
 LETB (decide ((IntKind.u32.wrap (x - fromv)) < sizev)) fun x6 =>
 Q (.bool x6) w
theorem call175 {x : Int} {fromv : Int} {sizev : Int} {w : World} {Q : QP} (h_ : N175 x fromv sizev w Q) : CALL PG 175 [(.int .u32 x),(.int .u32 fromv),(.int .u32 sizev)] w Q:=calls_vq .nil tabOk Tryz.func175 (by kernel_rfl) h_
def N183 (a : Int) (b : Int) (w : World) (Q : QP) : Prop :=
 CALL PG 205 [(.int .u32 a),(.int .u32 b)] w fun v w1 =>
 ∃ x7 : Bool,v = (.bool x7) /\
 (IFB x7
 (LETI b fun x4 =>
 Q (.int .u32 x4) w1)
 (LETI a fun x4v1 =>
 Q (.int .u32 x4v1) w1))
theorem call183 {a : Int} {b : Int} {w : World} {Q : QP} (h_ : N183 a b w Q) : CALL PG 183 [(.int .u32 a),(.int .u32 b)] w Q:=calls_vq .nil tabOk Tryz.func183 (by kernel_rfl) h_
def N202 (x : Int) (fromv : Int) (tov : Int) (w : World) (Q : QP) : Prop :=
 IFB (x != fromv)
 (IFB (decide ((IntKind.u32.wrap (x - fromv)) <= (IntKind.u32.wrap (tov - fromv))))
 (CALL PG 205 [(.int .u32 tov),(.int .u32 fromv)] w fun v w1 =>
 ∃ x22 : Bool,v = (.bool x22) /\
 (LETB (!x22) fun x6 =>
 Q (.bool x6) w1))
 (LETB false fun x6v1 =>
 Q (.bool x6v1) w))
 (LETB false fun x6v2 =>
 Q (.bool x6v2) w)
theorem call202 {x : Int} {fromv : Int} {tov : Int} {w : World} {Q : QP} (h_ : N202 x fromv tov w Q) : CALL PG 202 [(.int .u32 x),(.int .u32 fromv),(.int .u32 tov)] w Q:=calls_vq .nil tabOk Tryz.func202 (by kernel_rfl) h_
def N203 (x : Int) (tov : Int) (sizev : Int) (w : World) (Q : QP) : Prop :=
 CALL PG 175 [(.int .u32 x),(.int .u32 tov),(.int .u32 sizev)] w fun v w1 =>
 ∃ x10 : Bool,v = (.bool x10) /\
 (IFB x10
 (LETB true fun x6 =>
 Q (.bool x6) w1)
 (CALL PG 175 [(.int .u32 tov),(.int .u32 x),(.int .u32 sizev)] w1 fun v1 w2 =>
 ∃ x15 : Bool,v1 = (.bool x15) /\
 (LETB x15 fun x6v1 =>
 Q (.bool x6v1) w2)))
theorem call203 {x : Int} {tov : Int} {sizev : Int} {w : World} {Q : QP} (h_ : N203 x tov sizev w Q) : CALL PG 203 [(.int .u32 x),(.int .u32 tov),(.int .u32 sizev)] w Q:=calls_vq .nil tabOk Tryz.func203 (by kernel_rfl) h_
def N205 (a : Int) (b : Int) (w : World) (Q : QP) : Prop :=
 LETB (decide ((IntKind.i32.wrap (IntKind.u32.wrap (a - b))) < 0)) fun x4 =>
 Q (.bool x4) w
theorem call205 {a : Int} {b : Int} {w : World} {Q : QP} (h_ : N205 a b w Q) : CALL PG 205 [(.int .u32 a),(.int .u32 b)] w Q:=calls_vq .nil tabOk Tryz.func205 (by kernel_rfl) h_
end Go.Br
/- What becomes of a segment by its numbers (on the segments of SegRep). -/
set_option linter.unusedVariables false
set_option linter.unusedSimpArgs false
set_option linter.unnecessarySimpa false
namespace Go.Br
open Go
attribute [local irreducible] Addr.add RD RDS RUN RUNU NILC LETB CALL CALLX CALLV
structure Nm where
 state : Int
 first : Int
 acked : Int
 next : Int
 wait : Int
abbrev nmv (x : Nm) : Value:=.agg #[.int .i64 x.state,.int .u32 x.first,.int .u32 x.acked,.int .u32 x.next,.int .u32 x.wait]
def withinN (x f z : Int) : Bool:=decide ((x - f) % 4294967296 < z)
def betweenN (x f t : Int) : Bool:=decide (x ≠ f /\ (x - f) % 4294967296 <= (t - f) % 4294967296 /\ (t - f) % 4294967296 < 2147483648)
def hasF (f k : Int) : Bool:=f / k % 2 == 1
def acksN (n : Nm) (ack : Int) : Bool:=ack == n.acked || betweenN ack n.acked n.next || withinN n.acked ack 1048576
def nearN (n : Nm) (seq : Int) : Bool:=withinN seq n.wait 1048576 || withinN n.wait seq 1048576
def fitsN (n : Nm) (s : Sg) (sealed : Bool) : Bool:=sealed && s.flags == 2 && acksN n s.ack && nearN n s.seq
def jd (n : Nm) (s : Sg) (sealed : Bool) : Int :=
 if n.state = 1 then
  if hasF s.flags 2 = true /\ s.ack = (n.first + 1) % 4294967296 then (if hasF s.flags 4 = true then 4 else if hasF s.flags 1 = true then 1 else 2) else if s.flags = 2 then 5 else 2
 else if n.state = 2 ∨ n.state = 3 then
  if hasF s.flags 4 = true then (if s.seq = n.wait then 4 else if n.state = 3 /\ withinN s.seq n.wait 1048576 = true then 3 else 2)
  else if hasF s.flags 1 = true then (if n.state = 3 then 3 else if s.flags = 1 /\ (s.seq + 1) % 4294967296 = n.wait then 1 else 2)
  else if fitsN n s sealed = true then 1 else 2
 else 2
theorem and_flag {x : Int} (h0 : 0 <= x) (h1 : x < 256) :
  ((IntKind.u8.wrap (BitVec.ofInt (IntKind.u8.bits) x &&& BitVec.ofInt (IntKind.u8.bits) (1 : Int)).toNat) != (0 : Int)) = hasF x 1 /\
  ((IntKind.u8.wrap (BitVec.ofInt (IntKind.u8.bits) x &&& BitVec.ofInt (IntKind.u8.bits) (2 : Int)).toNat) != (0 : Int)) = hasF x 2 /\
  ((IntKind.u8.wrap (BitVec.ofInt (IntKind.u8.bits) x &&& BitVec.ofInt (IntKind.u8.bits) (4 : Int)).toNat) != (0 : Int)) = hasF x 4:=by
 obtain ⟨n,rfl⟩ : ∃ n : Nat,x = n:=⟨x.toNat,by omega⟩
 have hn : n < 256:=by omega
 have key : ∀ n : Fin 256,
   ((IntKind.u8.wrap (BitVec.ofInt (IntKind.u8.bits) ((n.val : Nat) : Int) &&& BitVec.ofInt (IntKind.u8.bits) (1 : Int)).toNat) != (0 : Int)) = hasF ((n.val : Nat) : Int) 1 /\
   ((IntKind.u8.wrap (BitVec.ofInt (IntKind.u8.bits) ((n.val : Nat) : Int) &&& BitVec.ofInt (IntKind.u8.bits) (2 : Int)).toNat) != (0 : Int)) = hasF ((n.val : Nat) : Int) 2 /\
   ((IntKind.u8.wrap (BitVec.ofInt (IntKind.u8.bits) ((n.val : Nat) : Int) &&& BitVec.ofInt (IntKind.u8.bits) (4 : Int)).toNat) != (0 : Int)) = hasF ((n.val : Nat) : Int) 4:=by decide +kernel
 exact key ⟨n,hn⟩
def U32 (x : Int) : Prop:=0 <= x /\ x < 4294967296
def SgNm (s : Sg) : Prop:=U32 s.seq /\ U32 s.ack /\ 0 <= s.flags /\ s.flags < 256
section
variable {c : Ctx} {w : World} {L R : List SA}
theorem within_ok {x f z : Int} {Q : Value -> World -> Prop} (hk : Q (.bool (withinN x f z)) w) : CALL PG 175 [.int .u32 x,.int .u32 f,.int .u32 z] w Q:=by
 refine call175 ?_
 unfold N175
 exact letb (by rw [wrapU32]; rfl) hk
theorem sless_ok {a b : Int} {Q : Value -> World -> Prop} (hk : Q (.bool (decide (2147483648 <= (a - b) % 4294967296))) w) : CALL PG 205 [.int .u32 a,.int .u32 b] w Q:=by
 refine call205 ?_
 unfold N205
 refine letb ?_ hk
 rw [wrapU32]
 have h0:=Int.emod_nonneg (a - b) (show (4294967296 : Int) ≠ 0 by decide)
 have h1:=Int.emod_lt_of_pos (a - b) (show (0 : Int) < 4294967296 by decide)
 generalize (a - b) % 4294967296 = x at *
 rw [show IntKind.i32.wrap x = if 2147483648 <= x then x - 4294967296 else x by
  simp only [IntKind.wrap,IntKind.bits,IntKind.signed,Bool.true_and]
  split <;> split <;> simp at * <;> omega]
 congr 1
 split <;> (apply propext; omega)
theorem between_ok {x f t : Int} {Q : Value -> World -> Prop} (hk : Q (.bool (betweenN x f t)) w) : CALL PG 202 [.int .u32 x,.int .u32 f,.int .u32 t] w Q:=by
 unfold betweenN at hk
 refine call202 ?_
 unfold N202
 rw [wrapU32,wrapU32]
 refine ifn (fun h1 => ?_) fun h1 => letb (by simp [h1]) hk
 refine ifd (fun h2 => ?_) fun h2 => letb (by simp [h2]) hk
 refine sless_ok ⟨_,rfl,letb ?_ hk⟩
 simp only [h1,h2,ne_eq,not_false_eq_true,true_and]
 rw [<- decide_not]
 congr 1
 apply propext; omega
theorem near_ok {x t z : Int} {Q : Value -> World -> Prop} (hk : Q (.bool (withinN x t z || withinN t x z)) w) : CALL PG 203 [.int .u32 x,.int .u32 t,.int .u32 z] w Q:=by
 refine call203 ?_
 unfold N203
 refine within_ok ⟨_,rfl,?_⟩
 refine ifb (fun h => letb (by simp [h]) hk) fun h => ?_
 exact within_ok ⟨_,rfl,letb (by simp [h]) hk⟩
theorem sure_ok (h : St c w L) {n : Nm} {s : Sg} {b : Bool} {Q : Value -> World -> Prop} (hk : ∀ w',St c w' L -> Q (.int .i64 (if fitsN n s b = true then 1 else 2)) w') : CALL PG 174 [nmv n,sgv s,.bool b] w Q:=by
  refine call174 ?_
  unfold N174
  repeat' (first
    | refine nilc ?_
    | refine h.rdI _ ?_
    | refine h.rdB _ ?_
    | refine h.rdP _ ?_
    | refine h.rdL _ ?_
    | refine h.rdT _ ?_
    | refine h.rdI2 _ _ ?_
    | refine h.rdB2 _ _ ?_
    | refine h.rdP2 _ _ ?_
    | refine h.rdL2 _ _ ?_
    | refine h.st2 _ _ fun w' h => ?_
    | refine h.st _ fun w' h => ?_
    | refine h.rdvI ?_
    | refine h.rdvB ?_
    | refine h.rdvP ?_
    | refine h.rdvL ?_
    | refine h.rdvT ?_
    | (refine h.rdG ?_; (repeat apply exi); apply exr)
    | refine h.stG fun w' h => ?_
    | refine h.stV fun w' h => ?_
    | refine h.box fun p w' h => ?_
    | refine h.boxV fun p w' h => ?_
    | refine h.allocZ fun p w' h => ?_
    | refine h.allocZV fun p w' h => ?_
    | (refine RD.bld ?_; (repeat apply exi); apply exr)
    | (refine RDS.bld ?_; (repeat apply exi); apply exr)
    | refine St.rdsI _ ?_
    | refine St.rdsB _ ?_
    | refine St.rdsP _ ?_
    | refine St.rdsL _ ?_
    | refine St.rdsT _ ?_
    | refine St.rdsI2 _ _ ?_
    | refine St.rdsB2 _ _ ?_
    | (refine St.rdsG ?_; (repeat apply exi); apply exr)
    | refine letb rfl ?_
    | refine sat h ?_
    | (have h:=h.drew; refine sat h ?_)
    | refine sat1 h (fun _ h => h.to) ?_)
  refine jB h (fun a => a = acksN n s.ack) ?_ ?_
  · repeat' (first
      | refine nilc ?_
      | refine h.rdI _ ?_
      | refine h.rdB _ ?_
      | refine h.rdP _ ?_
      | refine h.rdL _ ?_
      | refine h.rdT _ ?_
      | refine h.rdI2 _ _ ?_
      | refine h.rdB2 _ _ ?_
      | refine h.rdP2 _ _ ?_
      | refine h.rdL2 _ _ ?_
      | refine h.st2 _ _ fun w' h => ?_
      | refine h.st _ fun w' h => ?_
      | refine h.rdvI ?_
      | refine h.rdvB ?_
      | refine h.rdvP ?_
      | refine h.rdvL ?_
      | refine h.rdvT ?_
      | (refine h.rdG ?_; (repeat apply exi); apply exr)
      | refine h.stG fun w' h => ?_
      | refine h.stV fun w' h => ?_
      | refine h.box fun p w' h => ?_
      | refine h.boxV fun p w' h => ?_
      | refine h.allocZ fun p w' h => ?_
      | refine h.allocZV fun p w' h => ?_
      | (refine RD.bld ?_; (repeat apply exi); apply exr)
      | (refine RDS.bld ?_; (repeat apply exi); apply exr)
      | refine St.rdsI _ ?_
      | refine St.rdsB _ ?_
      | refine St.rdsP _ ?_
      | refine St.rdsL _ ?_
      | refine St.rdsT _ ?_
      | refine St.rdsI2 _ _ ?_
      | refine St.rdsB2 _ _ ?_
      | (refine St.rdsG ?_; (repeat apply exi); apply exr)
      | refine letb rfl ?_
      | refine sat h ?_
      | (have h:=h.drew; refine sat h ?_)
      | refine sat1 h (fun _ h => h.to) ?_)
    refine ifq (fun h1 => letb rfl ⟨by simp [acksN,h1],h⟩) fun h1 => ?_
    repeat' (first
      | refine nilc ?_
      | refine h.rdI _ ?_
      | refine h.rdB _ ?_
      | refine h.rdP _ ?_
      | refine h.rdL _ ?_
      | refine h.rdT _ ?_
      | refine h.rdI2 _ _ ?_
      | refine h.rdB2 _ _ ?_
      | refine h.rdP2 _ _ ?_
      | refine h.rdL2 _ _ ?_
      | refine h.st2 _ _ fun w' h => ?_
      | refine h.st _ fun w' h => ?_
      | refine h.rdvI ?_
      | refine h.rdvB ?_
      | refine h.rdvP ?_
      | refine h.rdvL ?_
      | refine h.rdvT ?_
      | (refine h.rdG ?_; (repeat apply exi); apply exr)
      | refine h.stG fun w' h => ?_
      | refine h.stV fun w' h => ?_
      | refine h.box fun p w' h => ?_
      | refine h.boxV fun p w' h => ?_
      | refine h.allocZ fun p w' h => ?_
      | refine h.allocZV fun p w' h => ?_
      | (refine RD.bld ?_; (repeat apply exi); apply exr)
      | (refine RDS.bld ?_; (repeat apply exi); apply exr)
      | refine St.rdsI _ ?_
      | refine St.rdsB _ ?_
      | refine St.rdsP _ ?_
      | refine St.rdsL _ ?_
      | refine St.rdsT _ ?_
      | refine St.rdsI2 _ _ ?_
      | refine St.rdsB2 _ _ ?_
      | (refine St.rdsG ?_; (repeat apply exi); apply exr)
      | refine letb rfl ?_
      | refine sat h ?_
      | (have h:=h.drew; refine sat h ?_)
      | refine sat1 h (fun _ h => h.to) ?_)
    refine between_ok ⟨_,rfl,?_⟩
    refine ifb (fun h2 => letb rfl ⟨by simp [acksN,h2],h⟩) fun h2 => ?_
    repeat' (first
      | refine nilc ?_
      | refine h.rdI _ ?_
      | refine h.rdB _ ?_
      | refine h.rdP _ ?_
      | refine h.rdL _ ?_
      | refine h.rdT _ ?_
      | refine h.rdI2 _ _ ?_
      | refine h.rdB2 _ _ ?_
      | refine h.rdP2 _ _ ?_
      | refine h.rdL2 _ _ ?_
      | refine h.st2 _ _ fun w' h => ?_
      | refine h.st _ fun w' h => ?_
      | refine h.rdvI ?_
      | refine h.rdvB ?_
      | refine h.rdvP ?_
      | refine h.rdvL ?_
      | refine h.rdvT ?_
      | (refine h.rdG ?_; (repeat apply exi); apply exr)
      | refine h.stG fun w' h => ?_
      | refine h.stV fun w' h => ?_
      | refine h.box fun p w' h => ?_
      | refine h.boxV fun p w' h => ?_
      | refine h.allocZ fun p w' h => ?_
      | refine h.allocZV fun p w' h => ?_
      | (refine RD.bld ?_; (repeat apply exi); apply exr)
      | (refine RDS.bld ?_; (repeat apply exi); apply exr)
      | refine St.rdsI _ ?_
      | refine St.rdsB _ ?_
      | refine St.rdsP _ ?_
      | refine St.rdsL _ ?_
      | refine St.rdsT _ ?_
      | refine St.rdsI2 _ _ ?_
      | refine St.rdsB2 _ _ ?_
      | (refine St.rdsG ?_; (repeat apply exi); apply exr)
      | refine letb rfl ?_
      | refine sat h ?_
      | (have h:=h.drew; refine sat h ?_)
      | refine sat1 h (fun _ h => h.to) ?_)
    exact within_ok ⟨_,rfl,letb rfl ⟨by simp [acksN,h1,h2],h⟩⟩
  clear h
  rintro _ w' rfl h
  have fin : ∀ {v : Int},(if fitsN n s b = true then (1 : Int) else 2) = v -> Q (.int .i64 v) w':=fun e => e ▸ hk _ h.drop.drop
  refine ifb (fun h1 => ?_) fun h1 => fin (by simp [fitsN,h1])
  repeat' (first
    | refine nilc ?_
    | refine h.rdI _ ?_
    | refine h.rdB _ ?_
    | refine h.rdP _ ?_
    | refine h.rdL _ ?_
    | refine h.rdT _ ?_
    | refine h.rdI2 _ _ ?_
    | refine h.rdB2 _ _ ?_
    | refine h.rdP2 _ _ ?_
    | refine h.rdL2 _ _ ?_
    | refine h.st2 _ _ fun w' h => ?_
    | refine h.st _ fun w' h => ?_
    | refine h.rdvI ?_
    | refine h.rdvB ?_
    | refine h.rdvP ?_
    | refine h.rdvL ?_
    | refine h.rdvT ?_
    | (refine h.rdG ?_; (repeat apply exi); apply exr)
    | refine h.stG fun w' h => ?_
    | refine h.stV fun w' h => ?_
    | refine h.box fun p w' h => ?_
    | refine h.boxV fun p w' h => ?_
    | refine h.allocZ fun p w' h => ?_
    | refine h.allocZV fun p w' h => ?_
    | (refine RD.bld ?_; (repeat apply exi); apply exr)
    | (refine RDS.bld ?_; (repeat apply exi); apply exr)
    | refine St.rdsI _ ?_
    | refine St.rdsB _ ?_
    | refine St.rdsP _ ?_
    | refine St.rdsL _ ?_
    | refine St.rdsT _ ?_
    | refine St.rdsI2 _ _ ?_
    | refine St.rdsB2 _ _ ?_
    | (refine St.rdsG ?_; (repeat apply exi); apply exr)
    | refine letb rfl ?_
    | refine sat h ?_
    | (have h:=h.drew; refine sat h ?_)
    | refine sat1 h (fun _ h => h.to) ?_)
  refine ifq (fun h2 => ?_) fun h2 => fin (by simp [fitsN,h2])
  refine ifb (fun h3 => ?_) fun h3 => fin (by simp [fitsN,h3])
  repeat' (first
    | refine nilc ?_
    | refine h.rdI _ ?_
    | refine h.rdB _ ?_
    | refine h.rdP _ ?_
    | refine h.rdL _ ?_
    | refine h.rdT _ ?_
    | refine h.rdI2 _ _ ?_
    | refine h.rdB2 _ _ ?_
    | refine h.rdP2 _ _ ?_
    | refine h.rdL2 _ _ ?_
    | refine h.st2 _ _ fun w' h => ?_
    | refine h.st _ fun w' h => ?_
    | refine h.rdvI ?_
    | refine h.rdvB ?_
    | refine h.rdvP ?_
    | refine h.rdvL ?_
    | refine h.rdvT ?_
    | (refine h.rdG ?_; (repeat apply exi); apply exr)
    | refine h.stG fun w' h => ?_
    | refine h.stV fun w' h => ?_
    | refine h.box fun p w' h => ?_
    | refine h.boxV fun p w' h => ?_
    | refine h.allocZ fun p w' h => ?_
    | refine h.allocZV fun p w' h => ?_
    | (refine RD.bld ?_; (repeat apply exi); apply exr)
    | (refine RDS.bld ?_; (repeat apply exi); apply exr)
    | refine St.rdsI _ ?_
    | refine St.rdsB _ ?_
    | refine St.rdsP _ ?_
    | refine St.rdsL _ ?_
    | refine St.rdsT _ ?_
    | refine St.rdsI2 _ _ ?_
    | refine St.rdsB2 _ _ ?_
    | (refine St.rdsG ?_; (repeat apply exi); apply exr)
    | refine letb rfl ?_
    | refine sat h ?_
    | (have h:=h.drew; refine sat h ?_)
    | refine sat1 h (fun _ h => h.to) ?_)
  refine near_ok ⟨_,rfl,?_⟩
  exact ifb (fun h4 => fin (by simp only [fitsN,nearN,h1,h2,h3,h4]; rfl)) fun h4 => fin (by simp only [fitsN,nearN,h1,h2,h3,h4]; rfl)
theorem opening_ok (h : St c w L) {n : Nm} {s : Sg} (hs : SgNm s) (h1 : n.state = 1) {b : Bool} {Q : Value -> World -> Prop} (hk : ∀ w',St c w' L -> Q (.int .i64 (jd n s b)) w') : CALL PG 140 [nmv n,sgv s] w Q:=by
  obtain ⟨f1,f2,f4⟩:=and_flag hs.2.2.1 hs.2.2.2
  refine call140 ?_
  unfold N140
  repeat' (first
    | refine nilc ?_
    | refine h.rdI _ ?_
    | refine h.rdB _ ?_
    | refine h.rdP _ ?_
    | refine h.rdL _ ?_
    | refine h.rdT _ ?_
    | refine h.rdI2 _ _ ?_
    | refine h.rdB2 _ _ ?_
    | refine h.rdP2 _ _ ?_
    | refine h.rdL2 _ _ ?_
    | refine h.st2 _ _ fun w' h => ?_
    | refine h.st _ fun w' h => ?_
    | refine h.rdvI ?_
    | refine h.rdvB ?_
    | refine h.rdvP ?_
    | refine h.rdvL ?_
    | refine h.rdvT ?_
    | (refine h.rdG ?_; (repeat apply exi); apply exr)
    | refine h.stG fun w' h => ?_
    | refine h.stV fun w' h => ?_
    | refine h.box fun p w' h => ?_
    | refine h.boxV fun p w' h => ?_
    | refine h.allocZ fun p w' h => ?_
    | refine h.allocZV fun p w' h => ?_
    | (refine RD.bld ?_; (repeat apply exi); apply exr)
    | (refine RDS.bld ?_; (repeat apply exi); apply exr)
    | refine St.rdsI _ ?_
    | refine St.rdsB _ ?_
    | refine St.rdsP _ ?_
    | refine St.rdsL _ ?_
    | refine St.rdsT _ ?_
    | refine St.rdsI2 _ _ ?_
    | refine St.rdsB2 _ _ ?_
    | (refine St.rdsG ?_; (repeat apply exi); apply exr)
    | refine letb rfl ?_
    | refine sat h ?_
    | (have h:=h.drew; refine sat h ?_)
    | refine sat1 h (fun _ h => h.to) ?_)
  refine jB h (fun a => a = decide (hasF s.flags 2 = true /\ s.ack = (n.first + 1) % 4294967296)) ?_ ?_
  · repeat' (first
      | refine nilc ?_
      | refine h.rdI _ ?_
      | refine h.rdB _ ?_
      | refine h.rdP _ ?_
      | refine h.rdL _ ?_
      | refine h.rdT _ ?_
      | refine h.rdI2 _ _ ?_
      | refine h.rdB2 _ _ ?_
      | refine h.rdP2 _ _ ?_
      | refine h.rdL2 _ _ ?_
      | refine h.st2 _ _ fun w' h => ?_
      | refine h.st _ fun w' h => ?_
      | refine h.rdvI ?_
      | refine h.rdvB ?_
      | refine h.rdvP ?_
      | refine h.rdvL ?_
      | refine h.rdvT ?_
      | (refine h.rdG ?_; (repeat apply exi); apply exr)
      | refine h.stG fun w' h => ?_
      | refine h.stV fun w' h => ?_
      | refine h.box fun p w' h => ?_
      | refine h.boxV fun p w' h => ?_
      | refine h.allocZ fun p w' h => ?_
      | refine h.allocZV fun p w' h => ?_
      | (refine RD.bld ?_; (repeat apply exi); apply exr)
      | (refine RDS.bld ?_; (repeat apply exi); apply exr)
      | refine St.rdsI _ ?_
      | refine St.rdsB _ ?_
      | refine St.rdsP _ ?_
      | refine St.rdsL _ ?_
      | refine St.rdsT _ ?_
      | refine St.rdsI2 _ _ ?_
      | refine St.rdsB2 _ _ ?_
      | (refine St.rdsG ?_; (repeat apply exi); apply exr)
      | refine letb rfl ?_
      | refine sat h ?_
      | (have h:=h.drew; refine sat h ?_)
      | refine sat1 h (fun _ h => h.to) ?_)
    rw [f2]
    refine ifb (fun h2 => ?_) fun h2 => letb rfl ⟨by simp [h2],h⟩
    repeat' (first
      | refine nilc ?_
      | refine h.rdI _ ?_
      | refine h.rdB _ ?_
      | refine h.rdP _ ?_
      | refine h.rdL _ ?_
      | refine h.rdT _ ?_
      | refine h.rdI2 _ _ ?_
      | refine h.rdB2 _ _ ?_
      | refine h.rdP2 _ _ ?_
      | refine h.rdL2 _ _ ?_
      | refine h.st2 _ _ fun w' h => ?_
      | refine h.st _ fun w' h => ?_
      | refine h.rdvI ?_
      | refine h.rdvB ?_
      | refine h.rdvP ?_
      | refine h.rdvL ?_
      | refine h.rdvT ?_
      | (refine h.rdG ?_; (repeat apply exi); apply exr)
      | refine h.stG fun w' h => ?_
      | refine h.stV fun w' h => ?_
      | refine h.box fun p w' h => ?_
      | refine h.boxV fun p w' h => ?_
      | refine h.allocZ fun p w' h => ?_
      | refine h.allocZV fun p w' h => ?_
      | (refine RD.bld ?_; (repeat apply exi); apply exr)
      | (refine RDS.bld ?_; (repeat apply exi); apply exr)
      | refine St.rdsI _ ?_
      | refine St.rdsB _ ?_
      | refine St.rdsP _ ?_
      | refine St.rdsL _ ?_
      | refine St.rdsT _ ?_
      | refine St.rdsI2 _ _ ?_
      | refine St.rdsB2 _ _ ?_
      | (refine St.rdsG ?_; (repeat apply exi); apply exr)
      | refine letb rfl ?_
      | refine sat h ?_
      | (have h:=h.drew; refine sat h ?_)
      | refine sat1 h (fun _ h => h.to) ?_)
    refine ⟨?_,h⟩
    rw [wrapU32]
    simp [h2]
    rfl
  clear h
  rintro _ w' rfl h
  have fin : ∀ {v : Int} {X Y : SA} {w' : World},jd n s b = v -> St c w' (X :: Y :: L) -> Q (.int .i64 v) w':=fun e h => e ▸ hk _ h.drop.drop
  refine jB h (fun a => a = decide (¬ (hasF s.flags 2 = true /\ s.ack = (n.first + 1) % 4294967296) /\ s.flags = 2)) ?_ ?_
  · refine ifnot (fun h2 => ?_) fun h2 => letb rfl ⟨?_,h⟩
    · have h2':=of_decide_eq_false h2
      repeat' (first
        | refine nilc ?_
        | refine h.rdI _ ?_
        | refine h.rdB _ ?_
        | refine h.rdP _ ?_
        | refine h.rdL _ ?_
        | refine h.rdT _ ?_
        | refine h.rdI2 _ _ ?_
        | refine h.rdB2 _ _ ?_
        | refine h.rdP2 _ _ ?_
        | refine h.rdL2 _ _ ?_
        | refine h.st2 _ _ fun w' h => ?_
        | refine h.st _ fun w' h => ?_
        | refine h.rdvI ?_
        | refine h.rdvB ?_
        | refine h.rdvP ?_
        | refine h.rdvL ?_
        | refine h.rdvT ?_
        | (refine h.rdG ?_; (repeat apply exi); apply exr)
        | refine h.stG fun w' h => ?_
        | refine h.stV fun w' h => ?_
        | refine h.box fun p w' h => ?_
        | refine h.boxV fun p w' h => ?_
        | refine h.allocZ fun p w' h => ?_
        | refine h.allocZV fun p w' h => ?_
        | (refine RD.bld ?_; (repeat apply exi); apply exr)
        | (refine RDS.bld ?_; (repeat apply exi); apply exr)
        | refine St.rdsI _ ?_
        | refine St.rdsB _ ?_
        | refine St.rdsP _ ?_
        | refine St.rdsL _ ?_
        | refine St.rdsT _ ?_
        | refine St.rdsI2 _ _ ?_
        | refine St.rdsB2 _ _ ?_
        | (refine St.rdsG ?_; (repeat apply exi); apply exr)
        | refine letb rfl ?_
        | refine sat h ?_
        | (have h:=h.drew; refine sat h ?_)
        | refine sat1 h (fun _ h => h.to) ?_)
      refine ⟨?_,h⟩
      simp only [h2',not_false_eq_true,true_and]
      rfl
    · have h2':=of_decide_eq_true h2
      simp [h2']
  clear h
  rintro _ w' rfl h
  refine ifd (fun h2 => fin ?_ h) fun h2 => ?_
  · unfold jd; rw [if_pos h1,if_neg h2.1,if_pos h2.2]
  refine letb rfl (ifnot (fun h3 => fin ?_ h) fun h3 => ?_)
  · have h3':=of_decide_eq_false h3
    unfold jd; rw [if_pos h1,if_neg h3',if_neg (fun e => h2 ⟨h3',e⟩)]
  have h3':=of_decide_eq_true h3
  repeat' (first
    | refine nilc ?_
    | refine h.rdI _ ?_
    | refine h.rdB _ ?_
    | refine h.rdP _ ?_
    | refine h.rdL _ ?_
    | refine h.rdT _ ?_
    | refine h.rdI2 _ _ ?_
    | refine h.rdB2 _ _ ?_
    | refine h.rdP2 _ _ ?_
    | refine h.rdL2 _ _ ?_
    | refine h.st2 _ _ fun w' h => ?_
    | refine h.st _ fun w' h => ?_
    | refine h.rdvI ?_
    | refine h.rdvB ?_
    | refine h.rdvP ?_
    | refine h.rdvL ?_
    | refine h.rdvT ?_
    | (refine h.rdG ?_; (repeat apply exi); apply exr)
    | refine h.stG fun w' h => ?_
    | refine h.stV fun w' h => ?_
    | refine h.box fun p w' h => ?_
    | refine h.boxV fun p w' h => ?_
    | refine h.allocZ fun p w' h => ?_
    | refine h.allocZV fun p w' h => ?_
    | (refine RD.bld ?_; (repeat apply exi); apply exr)
    | (refine RDS.bld ?_; (repeat apply exi); apply exr)
    | refine St.rdsI _ ?_
    | refine St.rdsB _ ?_
    | refine St.rdsP _ ?_
    | refine St.rdsL _ ?_
    | refine St.rdsT _ ?_
    | refine St.rdsI2 _ _ ?_
    | refine St.rdsB2 _ _ ?_
    | (refine St.rdsG ?_; (repeat apply exi); apply exr)
    | refine letb rfl ?_
    | refine sat h ?_
    | (have h:=h.drew; refine sat h ?_)
    | refine sat1 h (fun _ h => h.to) ?_)
  rw [f4]
  refine ifb (fun h4 => fin ?_ h) fun h4 => ?_
  · unfold jd; rw [if_pos h1,if_pos h3',if_pos h4]
  repeat' (first
    | refine nilc ?_
    | refine h.rdI _ ?_
    | refine h.rdB _ ?_
    | refine h.rdP _ ?_
    | refine h.rdL _ ?_
    | refine h.rdT _ ?_
    | refine h.rdI2 _ _ ?_
    | refine h.rdB2 _ _ ?_
    | refine h.rdP2 _ _ ?_
    | refine h.rdL2 _ _ ?_
    | refine h.st2 _ _ fun w' h => ?_
    | refine h.st _ fun w' h => ?_
    | refine h.rdvI ?_
    | refine h.rdvB ?_
    | refine h.rdvP ?_
    | refine h.rdvL ?_
    | refine h.rdvT ?_
    | (refine h.rdG ?_; (repeat apply exi); apply exr)
    | refine h.stG fun w' h => ?_
    | refine h.stV fun w' h => ?_
    | refine h.box fun p w' h => ?_
    | refine h.boxV fun p w' h => ?_
    | refine h.allocZ fun p w' h => ?_
    | refine h.allocZV fun p w' h => ?_
    | (refine RD.bld ?_; (repeat apply exi); apply exr)
    | (refine RDS.bld ?_; (repeat apply exi); apply exr)
    | refine St.rdsI _ ?_
    | refine St.rdsB _ ?_
    | refine St.rdsP _ ?_
    | refine St.rdsL _ ?_
    | refine St.rdsT _ ?_
    | refine St.rdsI2 _ _ ?_
    | refine St.rdsB2 _ _ ?_
    | (refine St.rdsG ?_; (repeat apply exi); apply exr)
    | refine letb rfl ?_
    | refine sat h ?_
    | (have h:=h.drew; refine sat h ?_)
    | refine sat1 h (fun _ h => h.to) ?_)
  rw [f1]
  refine ifb (fun h5 => fin ?_ h) fun h5 => fin ?_ h
  · unfold jd; rw [if_pos h1,if_pos h3',if_neg (by simp [h4]),if_pos h5]
  · unfold jd; rw [if_pos h1,if_pos h3',if_neg (by simp [h4]),if_neg (by simp [h5])]
theorem half_ok (h : St c w L) {n : Nm} {s : Sg} (hs : SgNm s) (h1 : n.state = 2) {b : Bool} {Q : Value -> World -> Prop} (hk : ∀ w',St c w' L -> Q (.int .i64 (jd n s b)) w') : CALL PG 141 [nmv n,sgv s,.bool b] w Q:=by
  obtain ⟨f1,f2,f4⟩:=and_flag hs.2.2.1 hs.2.2.2
  refine call141 ?_
  unfold N141
  have fin : ∀ {v : Int} {X Y : SA} {w' : World},jd n s b = v -> St c w' (X :: Y :: L) -> Q (.int .i64 v) w':=fun e h => e ▸ hk _ h.drop.drop
  repeat' (first
    | refine nilc ?_
    | refine h.rdI _ ?_
    | refine h.rdB _ ?_
    | refine h.rdP _ ?_
    | refine h.rdL _ ?_
    | refine h.rdT _ ?_
    | refine h.rdI2 _ _ ?_
    | refine h.rdB2 _ _ ?_
    | refine h.rdP2 _ _ ?_
    | refine h.rdL2 _ _ ?_
    | refine h.st2 _ _ fun w' h => ?_
    | refine h.st _ fun w' h => ?_
    | refine h.rdvI ?_
    | refine h.rdvB ?_
    | refine h.rdvP ?_
    | refine h.rdvL ?_
    | refine h.rdvT ?_
    | (refine h.rdG ?_; (repeat apply exi); apply exr)
    | refine h.stG fun w' h => ?_
    | refine h.stV fun w' h => ?_
    | refine h.box fun p w' h => ?_
    | refine h.boxV fun p w' h => ?_
    | refine h.allocZ fun p w' h => ?_
    | refine h.allocZV fun p w' h => ?_
    | (refine RD.bld ?_; (repeat apply exi); apply exr)
    | (refine RDS.bld ?_; (repeat apply exi); apply exr)
    | refine St.rdsI _ ?_
    | refine St.rdsB _ ?_
    | refine St.rdsP _ ?_
    | refine St.rdsL _ ?_
    | refine St.rdsT _ ?_
    | refine St.rdsI2 _ _ ?_
    | refine St.rdsB2 _ _ ?_
    | (refine St.rdsG ?_; (repeat apply exi); apply exr)
    | refine letb rfl ?_
    | refine sat h ?_
    | (have h:=h.drew; refine sat h ?_)
    | refine sat1 h (fun _ h => h.to) ?_)
  rw [f4]
  refine ifb (fun h4 => ?_) fun h4 => ?_
  · repeat' (first
      | refine nilc ?_
      | refine h.rdI _ ?_
      | refine h.rdB _ ?_
      | refine h.rdP _ ?_
      | refine h.rdL _ ?_
      | refine h.rdT _ ?_
      | refine h.rdI2 _ _ ?_
      | refine h.rdB2 _ _ ?_
      | refine h.rdP2 _ _ ?_
      | refine h.rdL2 _ _ ?_
      | refine h.st2 _ _ fun w' h => ?_
      | refine h.st _ fun w' h => ?_
      | refine h.rdvI ?_
      | refine h.rdvB ?_
      | refine h.rdvP ?_
      | refine h.rdvL ?_
      | refine h.rdvT ?_
      | (refine h.rdG ?_; (repeat apply exi); apply exr)
      | refine h.stG fun w' h => ?_
      | refine h.stV fun w' h => ?_
      | refine h.box fun p w' h => ?_
      | refine h.boxV fun p w' h => ?_
      | refine h.allocZ fun p w' h => ?_
      | refine h.allocZV fun p w' h => ?_
      | (refine RD.bld ?_; (repeat apply exi); apply exr)
      | (refine RDS.bld ?_; (repeat apply exi); apply exr)
      | refine St.rdsI _ ?_
      | refine St.rdsB _ ?_
      | refine St.rdsP _ ?_
      | refine St.rdsL _ ?_
      | refine St.rdsT _ ?_
      | refine St.rdsI2 _ _ ?_
      | refine St.rdsB2 _ _ ?_
      | (refine St.rdsG ?_; (repeat apply exi); apply exr)
      | refine letb rfl ?_
      | refine sat h ?_
      | (have h:=h.drew; refine sat h ?_)
      | refine sat1 h (fun _ h => h.to) ?_)
    exact ifq (fun h5 => fin (by simp [jd,h1,h4,h5]) h) fun h5 => fin (by simp [jd,h1,h4,h5]) h
  repeat' (first
    | refine nilc ?_
    | refine h.rdI _ ?_
    | refine h.rdB _ ?_
    | refine h.rdP _ ?_
    | refine h.rdL _ ?_
    | refine h.rdT _ ?_
    | refine h.rdI2 _ _ ?_
    | refine h.rdB2 _ _ ?_
    | refine h.rdP2 _ _ ?_
    | refine h.rdL2 _ _ ?_
    | refine h.st2 _ _ fun w' h => ?_
    | refine h.st _ fun w' h => ?_
    | refine h.rdvI ?_
    | refine h.rdvB ?_
    | refine h.rdvP ?_
    | refine h.rdvL ?_
    | refine h.rdvT ?_
    | (refine h.rdG ?_; (repeat apply exi); apply exr)
    | refine h.stG fun w' h => ?_
    | refine h.stV fun w' h => ?_
    | refine h.box fun p w' h => ?_
    | refine h.boxV fun p w' h => ?_
    | refine h.allocZ fun p w' h => ?_
    | refine h.allocZV fun p w' h => ?_
    | (refine RD.bld ?_; (repeat apply exi); apply exr)
    | (refine RDS.bld ?_; (repeat apply exi); apply exr)
    | refine St.rdsI _ ?_
    | refine St.rdsB _ ?_
    | refine St.rdsP _ ?_
    | refine St.rdsL _ ?_
    | refine St.rdsT _ ?_
    | refine St.rdsI2 _ _ ?_
    | refine St.rdsB2 _ _ ?_
    | (refine St.rdsG ?_; (repeat apply exi); apply exr)
    | refine letb rfl ?_
    | refine sat h ?_
    | (have h:=h.drew; refine sat h ?_)
    | refine sat1 h (fun _ h => h.to) ?_)
  rw [f1]
  refine ifb (fun h5 => ?_) fun h5 => ?_
  · repeat' (first
      | refine nilc ?_
      | refine h.rdI _ ?_
      | refine h.rdB _ ?_
      | refine h.rdP _ ?_
      | refine h.rdL _ ?_
      | refine h.rdT _ ?_
      | refine h.rdI2 _ _ ?_
      | refine h.rdB2 _ _ ?_
      | refine h.rdP2 _ _ ?_
      | refine h.rdL2 _ _ ?_
      | refine h.st2 _ _ fun w' h => ?_
      | refine h.st _ fun w' h => ?_
      | refine h.rdvI ?_
      | refine h.rdvB ?_
      | refine h.rdvP ?_
      | refine h.rdvL ?_
      | refine h.rdvT ?_
      | (refine h.rdG ?_; (repeat apply exi); apply exr)
      | refine h.stG fun w' h => ?_
      | refine h.stV fun w' h => ?_
      | refine h.box fun p w' h => ?_
      | refine h.boxV fun p w' h => ?_
      | refine h.allocZ fun p w' h => ?_
      | refine h.allocZV fun p w' h => ?_
      | (refine RD.bld ?_; (repeat apply exi); apply exr)
      | (refine RDS.bld ?_; (repeat apply exi); apply exr)
      | refine St.rdsI _ ?_
      | refine St.rdsB _ ?_
      | refine St.rdsP _ ?_
      | refine St.rdsL _ ?_
      | refine St.rdsT _ ?_
      | refine St.rdsI2 _ _ ?_
      | refine St.rdsB2 _ _ ?_
      | (refine St.rdsG ?_; (repeat apply exi); apply exr)
      | refine letb rfl ?_
      | refine sat h ?_
      | (have h:=h.drew; refine sat h ?_)
      | refine sat1 h (fun _ h => h.to) ?_)
    refine ifq (fun h6 => ?_) fun h6 => fin (by simp [jd,h1,h4,h5,h6]) h
    repeat' (first
      | refine nilc ?_
      | refine h.rdI _ ?_
      | refine h.rdB _ ?_
      | refine h.rdP _ ?_
      | refine h.rdL _ ?_
      | refine h.rdT _ ?_
      | refine h.rdI2 _ _ ?_
      | refine h.rdB2 _ _ ?_
      | refine h.rdP2 _ _ ?_
      | refine h.rdL2 _ _ ?_
      | refine h.st2 _ _ fun w' h => ?_
      | refine h.st _ fun w' h => ?_
      | refine h.rdvI ?_
      | refine h.rdvB ?_
      | refine h.rdvP ?_
      | refine h.rdvL ?_
      | refine h.rdvT ?_
      | (refine h.rdG ?_; (repeat apply exi); apply exr)
      | refine h.stG fun w' h => ?_
      | refine h.stV fun w' h => ?_
      | refine h.box fun p w' h => ?_
      | refine h.boxV fun p w' h => ?_
      | refine h.allocZ fun p w' h => ?_
      | refine h.allocZV fun p w' h => ?_
      | (refine RD.bld ?_; (repeat apply exi); apply exr)
      | (refine RDS.bld ?_; (repeat apply exi); apply exr)
      | refine St.rdsI _ ?_
      | refine St.rdsB _ ?_
      | refine St.rdsP _ ?_
      | refine St.rdsL _ ?_
      | refine St.rdsT _ ?_
      | refine St.rdsI2 _ _ ?_
      | refine St.rdsB2 _ _ ?_
      | (refine St.rdsG ?_; (repeat apply exi); apply exr)
      | refine letb rfl ?_
      | refine sat h ?_
      | (have h:=h.drew; refine sat h ?_)
      | refine sat1 h (fun _ h => h.to) ?_)
    rw [wrapU32]
    exact ifq (fun h7 => fin (by unfold jd; rw [if_neg (by omega),if_pos (Or.inl h1),if_neg (by simp [h4]),if_pos h5,if_neg (by omega),if_pos ⟨h6,h7⟩]) h) fun h7 => fin (by unfold jd; rw [if_neg (by omega),if_pos (Or.inl h1),if_neg (by simp [h4]),if_pos h5,if_neg (by omega),if_neg (fun e => h7 e.2)]) h
  repeat' (first
    | refine nilc ?_
    | refine h.rdI _ ?_
    | refine h.rdB _ ?_
    | refine h.rdP _ ?_
    | refine h.rdL _ ?_
    | refine h.rdT _ ?_
    | refine h.rdI2 _ _ ?_
    | refine h.rdB2 _ _ ?_
    | refine h.rdP2 _ _ ?_
    | refine h.rdL2 _ _ ?_
    | refine h.st2 _ _ fun w' h => ?_
    | refine h.st _ fun w' h => ?_
    | refine h.rdvI ?_
    | refine h.rdvB ?_
    | refine h.rdvP ?_
    | refine h.rdvL ?_
    | refine h.rdvT ?_
    | (refine h.rdG ?_; (repeat apply exi); apply exr)
    | refine h.stG fun w' h => ?_
    | refine h.stV fun w' h => ?_
    | refine h.box fun p w' h => ?_
    | refine h.boxV fun p w' h => ?_
    | refine h.allocZ fun p w' h => ?_
    | refine h.allocZV fun p w' h => ?_
    | (refine RD.bld ?_; (repeat apply exi); apply exr)
    | (refine RDS.bld ?_; (repeat apply exi); apply exr)
    | refine St.rdsI _ ?_
    | refine St.rdsB _ ?_
    | refine St.rdsP _ ?_
    | refine St.rdsL _ ?_
    | refine St.rdsT _ ?_
    | refine St.rdsI2 _ _ ?_
    | refine St.rdsB2 _ _ ?_
    | (refine St.rdsG ?_; (repeat apply exi); apply exr)
    | refine letb rfl ?_
    | refine sat h ?_
    | (have h:=h.drew; refine sat h ?_)
    | refine sat1 h (fun _ h => h.to) ?_)
  refine sure_ok h fun w' h => ⟨_,rfl,leti rfl (fin ?_ h)⟩
  simp [jd,h1,h4,h5]
theorem up_ok (h : St c w L) {n : Nm} {s : Sg} (hs : SgNm s) (h1 : n.state = 3) {b : Bool} {Q : Value -> World -> Prop} (hk : ∀ w',St c w' L -> Q (.int .i64 (jd n s b)) w') : CALL PG 142 [nmv n,sgv s,.bool b] w Q:=by
  obtain ⟨f1,f2,f4⟩:=and_flag hs.2.2.1 hs.2.2.2
  refine call142 ?_
  unfold N142
  have fin : ∀ {v : Int} {X Y : SA} {w' : World},jd n s b = v -> St c w' (X :: Y :: L) -> Q (.int .i64 v) w':=fun e h => e ▸ hk _ h.drop.drop
  repeat' (first
    | refine nilc ?_
    | refine h.rdI _ ?_
    | refine h.rdB _ ?_
    | refine h.rdP _ ?_
    | refine h.rdL _ ?_
    | refine h.rdT _ ?_
    | refine h.rdI2 _ _ ?_
    | refine h.rdB2 _ _ ?_
    | refine h.rdP2 _ _ ?_
    | refine h.rdL2 _ _ ?_
    | refine h.st2 _ _ fun w' h => ?_
    | refine h.st _ fun w' h => ?_
    | refine h.rdvI ?_
    | refine h.rdvB ?_
    | refine h.rdvP ?_
    | refine h.rdvL ?_
    | refine h.rdvT ?_
    | (refine h.rdG ?_; (repeat apply exi); apply exr)
    | refine h.stG fun w' h => ?_
    | refine h.stV fun w' h => ?_
    | refine h.box fun p w' h => ?_
    | refine h.boxV fun p w' h => ?_
    | refine h.allocZ fun p w' h => ?_
    | refine h.allocZV fun p w' h => ?_
    | (refine RD.bld ?_; (repeat apply exi); apply exr)
    | (refine RDS.bld ?_; (repeat apply exi); apply exr)
    | refine St.rdsI _ ?_
    | refine St.rdsB _ ?_
    | refine St.rdsP _ ?_
    | refine St.rdsL _ ?_
    | refine St.rdsT _ ?_
    | refine St.rdsI2 _ _ ?_
    | refine St.rdsB2 _ _ ?_
    | (refine St.rdsG ?_; (repeat apply exi); apply exr)
    | refine letb rfl ?_
    | refine sat h ?_
    | (have h:=h.drew; refine sat h ?_)
    | refine sat1 h (fun _ h => h.to) ?_)
  rw [f4]
  refine ifb (fun h4 => ?_) fun h4 => ?_
  · repeat' (first
      | refine nilc ?_
      | refine h.rdI _ ?_
      | refine h.rdB _ ?_
      | refine h.rdP _ ?_
      | refine h.rdL _ ?_
      | refine h.rdT _ ?_
      | refine h.rdI2 _ _ ?_
      | refine h.rdB2 _ _ ?_
      | refine h.rdP2 _ _ ?_
      | refine h.rdL2 _ _ ?_
      | refine h.st2 _ _ fun w' h => ?_
      | refine h.st _ fun w' h => ?_
      | refine h.rdvI ?_
      | refine h.rdvB ?_
      | refine h.rdvP ?_
      | refine h.rdvL ?_
      | refine h.rdvT ?_
      | (refine h.rdG ?_; (repeat apply exi); apply exr)
      | refine h.stG fun w' h => ?_
      | refine h.stV fun w' h => ?_
      | refine h.box fun p w' h => ?_
      | refine h.boxV fun p w' h => ?_
      | refine h.allocZ fun p w' h => ?_
      | refine h.allocZV fun p w' h => ?_
      | (refine RD.bld ?_; (repeat apply exi); apply exr)
      | (refine RDS.bld ?_; (repeat apply exi); apply exr)
      | refine St.rdsI _ ?_
      | refine St.rdsB _ ?_
      | refine St.rdsP _ ?_
      | refine St.rdsL _ ?_
      | refine St.rdsT _ ?_
      | refine St.rdsI2 _ _ ?_
      | refine St.rdsB2 _ _ ?_
      | (refine St.rdsG ?_; (repeat apply exi); apply exr)
      | refine letb rfl ?_
      | refine sat h ?_
      | (have h:=h.drew; refine sat h ?_)
      | refine sat1 h (fun _ h => h.to) ?_)
    refine ifq (fun h5 => fin (by simp [jd,h1,h4,h5]) h) fun h5 => ?_
    repeat' (first
      | refine nilc ?_
      | refine h.rdI _ ?_
      | refine h.rdB _ ?_
      | refine h.rdP _ ?_
      | refine h.rdL _ ?_
      | refine h.rdT _ ?_
      | refine h.rdI2 _ _ ?_
      | refine h.rdB2 _ _ ?_
      | refine h.rdP2 _ _ ?_
      | refine h.rdL2 _ _ ?_
      | refine h.st2 _ _ fun w' h => ?_
      | refine h.st _ fun w' h => ?_
      | refine h.rdvI ?_
      | refine h.rdvB ?_
      | refine h.rdvP ?_
      | refine h.rdvL ?_
      | refine h.rdvT ?_
      | (refine h.rdG ?_; (repeat apply exi); apply exr)
      | refine h.stG fun w' h => ?_
      | refine h.stV fun w' h => ?_
      | refine h.box fun p w' h => ?_
      | refine h.boxV fun p w' h => ?_
      | refine h.allocZ fun p w' h => ?_
      | refine h.allocZV fun p w' h => ?_
      | (refine RD.bld ?_; (repeat apply exi); apply exr)
      | (refine RDS.bld ?_; (repeat apply exi); apply exr)
      | refine St.rdsI _ ?_
      | refine St.rdsB _ ?_
      | refine St.rdsP _ ?_
      | refine St.rdsL _ ?_
      | refine St.rdsT _ ?_
      | refine St.rdsI2 _ _ ?_
      | refine St.rdsB2 _ _ ?_
      | (refine St.rdsG ?_; (repeat apply exi); apply exr)
      | refine letb rfl ?_
      | refine sat h ?_
      | (have h:=h.drew; refine sat h ?_)
      | refine sat1 h (fun _ h => h.to) ?_)
    refine within_ok ⟨_,rfl,?_⟩
    exact ifb (fun h6 => fin (by simp [jd,h1,h4,h5,h6]) h) fun h6 => fin (by simp [jd,h1,h4,h5,h6]) h
  repeat' (first
    | refine nilc ?_
    | refine h.rdI _ ?_
    | refine h.rdB _ ?_
    | refine h.rdP _ ?_
    | refine h.rdL _ ?_
    | refine h.rdT _ ?_
    | refine h.rdI2 _ _ ?_
    | refine h.rdB2 _ _ ?_
    | refine h.rdP2 _ _ ?_
    | refine h.rdL2 _ _ ?_
    | refine h.st2 _ _ fun w' h => ?_
    | refine h.st _ fun w' h => ?_
    | refine h.rdvI ?_
    | refine h.rdvB ?_
    | refine h.rdvP ?_
    | refine h.rdvL ?_
    | refine h.rdvT ?_
    | (refine h.rdG ?_; (repeat apply exi); apply exr)
    | refine h.stG fun w' h => ?_
    | refine h.stV fun w' h => ?_
    | refine h.box fun p w' h => ?_
    | refine h.boxV fun p w' h => ?_
    | refine h.allocZ fun p w' h => ?_
    | refine h.allocZV fun p w' h => ?_
    | (refine RD.bld ?_; (repeat apply exi); apply exr)
    | (refine RDS.bld ?_; (repeat apply exi); apply exr)
    | refine St.rdsI _ ?_
    | refine St.rdsB _ ?_
    | refine St.rdsP _ ?_
    | refine St.rdsL _ ?_
    | refine St.rdsT _ ?_
    | refine St.rdsI2 _ _ ?_
    | refine St.rdsB2 _ _ ?_
    | (refine St.rdsG ?_; (repeat apply exi); apply exr)
    | refine letb rfl ?_
    | refine sat h ?_
    | (have h:=h.drew; refine sat h ?_)
    | refine sat1 h (fun _ h => h.to) ?_)
  rw [f1]
  refine ifb (fun h5 => fin (by simp [jd,h1,h4,h5]) h) fun h5 => ?_
  repeat' (first
    | refine nilc ?_
    | refine h.rdI _ ?_
    | refine h.rdB _ ?_
    | refine h.rdP _ ?_
    | refine h.rdL _ ?_
    | refine h.rdT _ ?_
    | refine h.rdI2 _ _ ?_
    | refine h.rdB2 _ _ ?_
    | refine h.rdP2 _ _ ?_
    | refine h.rdL2 _ _ ?_
    | refine h.st2 _ _ fun w' h => ?_
    | refine h.st _ fun w' h => ?_
    | refine h.rdvI ?_
    | refine h.rdvB ?_
    | refine h.rdvP ?_
    | refine h.rdvL ?_
    | refine h.rdvT ?_
    | (refine h.rdG ?_; (repeat apply exi); apply exr)
    | refine h.stG fun w' h => ?_
    | refine h.stV fun w' h => ?_
    | refine h.box fun p w' h => ?_
    | refine h.boxV fun p w' h => ?_
    | refine h.allocZ fun p w' h => ?_
    | refine h.allocZV fun p w' h => ?_
    | (refine RD.bld ?_; (repeat apply exi); apply exr)
    | (refine RDS.bld ?_; (repeat apply exi); apply exr)
    | refine St.rdsI _ ?_
    | refine St.rdsB _ ?_
    | refine St.rdsP _ ?_
    | refine St.rdsL _ ?_
    | refine St.rdsT _ ?_
    | refine St.rdsI2 _ _ ?_
    | refine St.rdsB2 _ _ ?_
    | (refine St.rdsG ?_; (repeat apply exi); apply exr)
    | refine letb rfl ?_
    | refine sat h ?_
    | (have h:=h.drew; refine sat h ?_)
    | refine sat1 h (fun _ h => h.to) ?_)
  refine sure_ok h fun w' h => ⟨_,rfl,leti rfl (fin ?_ h)⟩
  simp [jd,h1,h4,h5]
theorem judge_ok (h : St c w L) {n : Nm} {s : Sg} (hs : SgNm s) {b : Bool} {Q : Value -> World -> Prop} (hk : ∀ w',St c w' L -> Q (.int .i64 (jd n s b)) w') : CALL PG 88 [nmv n,sgv s,.bool b] w Q:=by
  refine call88 ?_
  unfold N88
  repeat' (first
    | refine nilc ?_
    | refine h.rdI _ ?_
    | refine h.rdB _ ?_
    | refine h.rdP _ ?_
    | refine h.rdL _ ?_
    | refine h.rdT _ ?_
    | refine h.rdI2 _ _ ?_
    | refine h.rdB2 _ _ ?_
    | refine h.rdP2 _ _ ?_
    | refine h.rdL2 _ _ ?_
    | refine h.st2 _ _ fun w' h => ?_
    | refine h.st _ fun w' h => ?_
    | refine h.rdvI ?_
    | refine h.rdvB ?_
    | refine h.rdvP ?_
    | refine h.rdvL ?_
    | refine h.rdvT ?_
    | (refine h.rdG ?_; (repeat apply exi); apply exr)
    | refine h.stG fun w' h => ?_
    | refine h.stV fun w' h => ?_
    | refine h.box fun p w' h => ?_
    | refine h.boxV fun p w' h => ?_
    | refine h.allocZ fun p w' h => ?_
    | refine h.allocZV fun p w' h => ?_
    | (refine RD.bld ?_; (repeat apply exi); apply exr)
    | (refine RDS.bld ?_; (repeat apply exi); apply exr)
    | refine St.rdsI _ ?_
    | refine St.rdsB _ ?_
    | refine St.rdsP _ ?_
    | refine St.rdsL _ ?_
    | refine St.rdsT _ ?_
    | refine St.rdsI2 _ _ ?_
    | refine St.rdsB2 _ _ ?_
    | (refine St.rdsG ?_; (repeat apply exi); apply exr)
    | refine letb rfl ?_
    | refine sat h ?_
    | (have h:=h.drew; refine sat h ?_)
    | refine sat1 h (fun _ h => h.to) ?_)
  refine ifq (fun h1 => ?_) fun h1 => ?_
  · repeat' (first
      | refine nilc ?_
      | refine h.rdI _ ?_
      | refine h.rdB _ ?_
      | refine h.rdP _ ?_
      | refine h.rdL _ ?_
      | refine h.rdT _ ?_
      | refine h.rdI2 _ _ ?_
      | refine h.rdB2 _ _ ?_
      | refine h.rdP2 _ _ ?_
      | refine h.rdL2 _ _ ?_
      | refine h.st2 _ _ fun w' h => ?_
      | refine h.st _ fun w' h => ?_
      | refine h.rdvI ?_
      | refine h.rdvB ?_
      | refine h.rdvP ?_
      | refine h.rdvL ?_
      | refine h.rdvT ?_
      | (refine h.rdG ?_; (repeat apply exi); apply exr)
      | refine h.stG fun w' h => ?_
      | refine h.stV fun w' h => ?_
      | refine h.box fun p w' h => ?_
      | refine h.boxV fun p w' h => ?_
      | refine h.allocZ fun p w' h => ?_
      | refine h.allocZV fun p w' h => ?_
      | (refine RD.bld ?_; (repeat apply exi); apply exr)
      | (refine RDS.bld ?_; (repeat apply exi); apply exr)
      | refine St.rdsI _ ?_
      | refine St.rdsB _ ?_
      | refine St.rdsP _ ?_
      | refine St.rdsL _ ?_
      | refine St.rdsT _ ?_
      | refine St.rdsI2 _ _ ?_
      | refine St.rdsB2 _ _ ?_
      | (refine St.rdsG ?_; (repeat apply exi); apply exr)
      | refine letb rfl ?_
      | refine sat h ?_
      | (have h:=h.drew; refine sat h ?_)
      | refine sat1 h (fun _ h => h.to) ?_)
    exact opening_ok (b:=b) h hs h1 fun w' h => ⟨_,rfl,leti rfl (hk _ h.drop.drop)⟩
  repeat' (first
    | refine nilc ?_
    | refine h.rdI _ ?_
    | refine h.rdB _ ?_
    | refine h.rdP _ ?_
    | refine h.rdL _ ?_
    | refine h.rdT _ ?_
    | refine h.rdI2 _ _ ?_
    | refine h.rdB2 _ _ ?_
    | refine h.rdP2 _ _ ?_
    | refine h.rdL2 _ _ ?_
    | refine h.st2 _ _ fun w' h => ?_
    | refine h.st _ fun w' h => ?_
    | refine h.rdvI ?_
    | refine h.rdvB ?_
    | refine h.rdvP ?_
    | refine h.rdvL ?_
    | refine h.rdvT ?_
    | (refine h.rdG ?_; (repeat apply exi); apply exr)
    | refine h.stG fun w' h => ?_
    | refine h.stV fun w' h => ?_
    | refine h.box fun p w' h => ?_
    | refine h.boxV fun p w' h => ?_
    | refine h.allocZ fun p w' h => ?_
    | refine h.allocZV fun p w' h => ?_
    | (refine RD.bld ?_; (repeat apply exi); apply exr)
    | (refine RDS.bld ?_; (repeat apply exi); apply exr)
    | refine St.rdsI _ ?_
    | refine St.rdsB _ ?_
    | refine St.rdsP _ ?_
    | refine St.rdsL _ ?_
    | refine St.rdsT _ ?_
    | refine St.rdsI2 _ _ ?_
    | refine St.rdsB2 _ _ ?_
    | (refine St.rdsG ?_; (repeat apply exi); apply exr)
    | refine letb rfl ?_
    | refine sat h ?_
    | (have h:=h.drew; refine sat h ?_)
    | refine sat1 h (fun _ h => h.to) ?_)
  refine ifq (fun h2 => ?_) fun h2 => ?_
  · repeat' (first
      | refine nilc ?_
      | refine h.rdI _ ?_
      | refine h.rdB _ ?_
      | refine h.rdP _ ?_
      | refine h.rdL _ ?_
      | refine h.rdT _ ?_
      | refine h.rdI2 _ _ ?_
      | refine h.rdB2 _ _ ?_
      | refine h.rdP2 _ _ ?_
      | refine h.rdL2 _ _ ?_
      | refine h.st2 _ _ fun w' h => ?_
      | refine h.st _ fun w' h => ?_
      | refine h.rdvI ?_
      | refine h.rdvB ?_
      | refine h.rdvP ?_
      | refine h.rdvL ?_
      | refine h.rdvT ?_
      | (refine h.rdG ?_; (repeat apply exi); apply exr)
      | refine h.stG fun w' h => ?_
      | refine h.stV fun w' h => ?_
      | refine h.box fun p w' h => ?_
      | refine h.boxV fun p w' h => ?_
      | refine h.allocZ fun p w' h => ?_
      | refine h.allocZV fun p w' h => ?_
      | (refine RD.bld ?_; (repeat apply exi); apply exr)
      | (refine RDS.bld ?_; (repeat apply exi); apply exr)
      | refine St.rdsI _ ?_
      | refine St.rdsB _ ?_
      | refine St.rdsP _ ?_
      | refine St.rdsL _ ?_
      | refine St.rdsT _ ?_
      | refine St.rdsI2 _ _ ?_
      | refine St.rdsB2 _ _ ?_
      | (refine St.rdsG ?_; (repeat apply exi); apply exr)
      | refine letb rfl ?_
      | refine sat h ?_
      | (have h:=h.drew; refine sat h ?_)
      | refine sat1 h (fun _ h => h.to) ?_)
    exact half_ok h hs h2 fun w' h => ⟨_,rfl,leti rfl (hk _ h.drop.drop)⟩
  repeat' (first
    | refine nilc ?_
    | refine h.rdI _ ?_
    | refine h.rdB _ ?_
    | refine h.rdP _ ?_
    | refine h.rdL _ ?_
    | refine h.rdT _ ?_
    | refine h.rdI2 _ _ ?_
    | refine h.rdB2 _ _ ?_
    | refine h.rdP2 _ _ ?_
    | refine h.rdL2 _ _ ?_
    | refine h.st2 _ _ fun w' h => ?_
    | refine h.st _ fun w' h => ?_
    | refine h.rdvI ?_
    | refine h.rdvB ?_
    | refine h.rdvP ?_
    | refine h.rdvL ?_
    | refine h.rdvT ?_
    | (refine h.rdG ?_; (repeat apply exi); apply exr)
    | refine h.stG fun w' h => ?_
    | refine h.stV fun w' h => ?_
    | refine h.box fun p w' h => ?_
    | refine h.boxV fun p w' h => ?_
    | refine h.allocZ fun p w' h => ?_
    | refine h.allocZV fun p w' h => ?_
    | (refine RD.bld ?_; (repeat apply exi); apply exr)
    | (refine RDS.bld ?_; (repeat apply exi); apply exr)
    | refine St.rdsI _ ?_
    | refine St.rdsB _ ?_
    | refine St.rdsP _ ?_
    | refine St.rdsL _ ?_
    | refine St.rdsT _ ?_
    | refine St.rdsI2 _ _ ?_
    | refine St.rdsB2 _ _ ?_
    | (refine St.rdsG ?_; (repeat apply exi); apply exr)
    | refine letb rfl ?_
    | refine sat h ?_
    | (have h:=h.drew; refine sat h ?_)
    | refine sat1 h (fun _ h => h.to) ?_)
  refine ifq (fun h3 => ?_) fun h3 => ?_
  · repeat' (first
      | refine nilc ?_
      | refine h.rdI _ ?_
      | refine h.rdB _ ?_
      | refine h.rdP _ ?_
      | refine h.rdL _ ?_
      | refine h.rdT _ ?_
      | refine h.rdI2 _ _ ?_
      | refine h.rdB2 _ _ ?_
      | refine h.rdP2 _ _ ?_
      | refine h.rdL2 _ _ ?_
      | refine h.st2 _ _ fun w' h => ?_
      | refine h.st _ fun w' h => ?_
      | refine h.rdvI ?_
      | refine h.rdvB ?_
      | refine h.rdvP ?_
      | refine h.rdvL ?_
      | refine h.rdvT ?_
      | (refine h.rdG ?_; (repeat apply exi); apply exr)
      | refine h.stG fun w' h => ?_
      | refine h.stV fun w' h => ?_
      | refine h.box fun p w' h => ?_
      | refine h.boxV fun p w' h => ?_
      | refine h.allocZ fun p w' h => ?_
      | refine h.allocZV fun p w' h => ?_
      | (refine RD.bld ?_; (repeat apply exi); apply exr)
      | (refine RDS.bld ?_; (repeat apply exi); apply exr)
      | refine St.rdsI _ ?_
      | refine St.rdsB _ ?_
      | refine St.rdsP _ ?_
      | refine St.rdsL _ ?_
      | refine St.rdsT _ ?_
      | refine St.rdsI2 _ _ ?_
      | refine St.rdsB2 _ _ ?_
      | (refine St.rdsG ?_; (repeat apply exi); apply exr)
      | refine letb rfl ?_
      | refine sat h ?_
      | (have h:=h.drew; refine sat h ?_)
      | refine sat1 h (fun _ h => h.to) ?_)
    exact up_ok h hs h3 fun w' h => ⟨_,rfl,leti rfl (hk _ h.drop.drop)⟩
  have e : jd n s b = 2:=by
    unfold jd
    rw [if_neg h1,if_neg (fun e => e.elim h2 h3)]
  have:=hk _ h.drop.drop
  rwa [e] at this
theorem max_ok {a b : Int} {Q : Value -> World -> Prop} (hk : Q (.int .u32 (if 2147483648 <= (a - b) % 4294967296 then b else a)) w) : CALL PG 183 [.int .u32 a,.int .u32 b] w Q:=by
 refine call183 ?_
 unfold N183
 refine sless_ok ⟨_,rfl,?_⟩
 refine ifd (fun h => leti rfl ?_) fun h => leti rfl ?_
 ·rwa [if_pos h] at hk
 ·rwa [if_neg h] at hk
end
end Go.Br
/- What the code of some functions says,as the core reads it; each reading is checked by the kernel. -/
set_option linter.unusedVariables false
set_option maxRecDepth 100000
namespace Go.Br
open Go Go.Proofs
def N87 (x : Option Addr) (f : Option Addr) (w : World) (Q : QP) : Prop :=
 RUNA PG (Instr.alloc 28 true (.tuple #[])) w fun a4 w1 =>
 ∃ S : World -> Prop,S (w1.drew) /\
 (NILC x fun a6 =>
 RDS PG (loadVar 56 (a6.add 0)) S fun v =>
 ∃ x8 : Int,∃ x8v1 : Int,∃ x8v2 : Int,∃ x8v3 : Int,∃ x8v4 : Int,∃ x8v5 : Int,∃ x8v6 : Int,∃ x8v7 : Int,∃ x8v8 : Int,v = (.agg #[(.int .u64 x8),(.int .u64 x8v1),(.int .u64 x8v2),(.int .u64 x8v3),(.int .u64 x8v4),(.int .u64 x8v5),(.int .u64 x8v6),(.int .u64 x8v7),(.int .u32 x8v8)]) /\
 (NILC x fun a10 =>
 RDSI PG (loadVar 48 (a10.add 24)) .i64 S fun x12 =>
 NILC f fun a15 =>
 RDSI PG (loadVar 3 (a15.add 9)) .i64 S fun x17 =>
 CALL PG 139 [(.agg #[(.int .u64 x8),(.int .u64 x8v1),(.int .u64 x8v2),(.int .u64 x8v3),(.int .u64 x8v4),(.int .u64 x8v5),(.int .u64 x8v6),(.int .u64 x8v7),(.int .u32 x8v8)]),(.int .i64 x12)] (w1.drew) fun v1 w2 =>
 ∃ x13 : Int,∃ x13v1 : Int,v1 = (.agg #[(.int .u64 x13),(.int .u64 x13v1)]) /\
 (∃ S1 : World -> Prop,(∀ x,S1 x -> S x) /\ S1 w2 /\
 (CALL PG 138 [(.agg #[(.int .u64 x13),(.int .u64 x13v1)]),(.int .u8 (IntKind.u8.wrap x17))] w2 fun v2 w3 =>
 ∃ x19 : Int,∃ x19v1 : Int,v2 = (.agg #[(.int .u64 x19),(.int .u64 x19v1)]) /\
 (RUNU PG (storeVar 28 a4 (.agg #[(.int .u64 x19),(.int .u64 x19v1)])) w3 fun w4 =>
 RD PG (loadVar 28 a4) w4 fun v4 =>
 ∃ r : Int,∃ r1 : Int,v4 = (.agg #[(.int .u64 r),(.int .u64 r1)]) /\
 (Q (.agg #[(.int .u64 r),(.int .u64 r1)]) w4))))))
theorem call87 {x : Option Addr} {f : Option Addr} {w : World} {Q : QP} (h_ : N87 x f w Q) : CALL PG 87 [(.pointer x),(.pointer f)] w Q:=calls_vq .nil tabOk Tryz.func87 (by kernel_rfl) h_
def N138 (k : Int) (k1 : Int) (id : Int) (w : World) (Q : QP) : Prop :=
 RUNA PG (Instr.box 28 (.agg #[(.int .u64 k),(.int .u64 k1)])) w fun a2 w1 =>
 RUNA PG (Instr.alloc 28 true (.tuple #[])) w1 fun a4 w2 =>
 RD PG (loadVar 28 a2) w2 fun v =>
 ∃ x5 : Int,∃ x5v1 : Int,v = (.agg #[(.int .u64 x5),(.int .u64 x5v1)]) /\
 (RUNL PG (Instr.buildSlice 41 2 #[(0,(.int .u8 102)),(1,(.int .u8 id))]) w2 fun x7 x7N x7C w3 =>
 RUNL PG (Instr.buildSlice 158 1 #[(0,(.slice x7 x7N x7C))]) w3 fun x8 x8N x8C w4 =>
 CALL PG 32 [(.agg #[(.int .u64 x5),(.int .u64 x5v1)]),(.slice x8 x8N x8C)] w4 fun v1 w5 =>
 ∃ x9 : Int,∃ x9v1 : Int,v1 = (.agg #[(.int .u64 x9),(.int .u64 x9v1)]) /\
 (RUNU PG (storeVar 28 a4 (.agg #[(.int .u64 x9),(.int .u64 x9v1)])) w5 fun w6 =>
 RD PG (loadVar 28 a4) w6 fun v3 =>
 ∃ r : Int,∃ r1 : Int,v3 = (.agg #[(.int .u64 r),(.int .u64 r1)]) /\
 (Q (.agg #[(.int .u64 r),(.int .u64 r1)]) w6)))
theorem call138 {k : Int} {k1 : Int} {id : Int} {w : World} {Q : QP} (h_ : N138 k k1 id w Q) : CALL PG 138 [(.agg #[(.int .u64 k),(.int .u64 k1)]),(.int .u8 id)] w Q:=calls_vq .nil tabOk Tryz.func138 (by kernel_rfl) h_
def N139 (k : Int) (k1 : Int) (k2 : Int) (k3 : Int) (k4 : Int) (k5 : Int) (k6 : Int) (k7 : Int) (k8 : Int) (r : Int) (w : World) (Q : QP) : Prop :=
 RUNA PG (Instr.box 56 (.agg #[(.int .u64 k),(.int .u64 k1),(.int .u64 k2),(.int .u64 k3),(.int .u64 k4),(.int .u64 k5),(.int .u64 k6),(.int .u64 k7),(.int .u32 k8)])) w fun a2 w1 =>
 RUNA PG (Instr.alloc 28 true (.tuple #[])) w1 fun a4 w2 =>
 IFB (r == 1)
 (RD PG (loadVar 28 (a2.add 4)) w2 fun v =>
 ∃ x8 : Int,∃ x8v1 : Int,v = (.agg #[(.int .u64 x8),(.int .u64 x8v1)]) /\
 (RUNU PG (storeVar 28 a4 (.agg #[(.int .u64 x8),(.int .u64 x8v1)])) w2 fun w3 =>
 RD PG (loadVar 28 a4) w3 fun v2 =>
 ∃ r1 : Int,∃ r2 : Int,v2 = (.agg #[(.int .u64 r1),(.int .u64 r2)]) /\
 (Q (.agg #[(.int .u64 r1),(.int .u64 r2)]) w3)))
 (RD PG (loadVar 28 (a2.add 2)) w2 fun v3 =>
 ∃ x10 : Int,∃ x10v1 : Int,v3 = (.agg #[(.int .u64 x10),(.int .u64 x10v1)]) /\
 (RUNU PG (storeVar 28 a4 (.agg #[(.int .u64 x10),(.int .u64 x10v1)])) w2 fun w4 =>
 RD PG (loadVar 28 a4) w4 fun v5 =>
 ∃ r3 : Int,∃ r4 : Int,v5 = (.agg #[(.int .u64 r3),(.int .u64 r4)]) /\
 (Q (.agg #[(.int .u64 r3),(.int .u64 r4)]) w4)))
theorem call139 {k : Int} {k1 : Int} {k2 : Int} {k3 : Int} {k4 : Int} {k5 : Int} {k6 : Int} {k7 : Int} {k8 : Int} {r : Int} {w : World} {Q : QP} (h_ : N139 k k1 k2 k3 k4 k5 k6 k7 k8 r w Q) : CALL PG 139 [(.agg #[(.int .u64 k),(.int .u64 k1),(.int .u64 k2),(.int .u64 k3),(.int .u64 k4),(.int .u64 k5),(.int .u64 k6),(.int .u64 k7),(.int .u32 k8)]),(.int .i64 r)] w Q:=calls_vq .nil tabOk Tryz.func139 (by kernel_rfl) h_
def N146 (f : Option Addr) (data : Option Addr) (dataN dataC : Nat) (w : World) (Q : QP) : Prop :=
 RUNA PG (Instr.alloc 118 true (.tuple #[])) w fun a4 w1 =>
 NILC f fun a6 =>
 RDI PG (loadVar 49 (a6.add 11)) .u16 (w1.drew) fun x8 =>
 NILC f fun a10 =>
 RDI PG (loadVar 49 (a10.add 12)) .u16 (w1.drew) fun x12 =>
 NILC f fun a14 =>
 RDI PG (loadVar 26 ((a14.add 0).add 3)) .u32 (w1.drew) fun x17 =>
 NILC f fun a19 =>
 RDI PG (loadVar 26 ((a19.add 0).add 4)) .u32 (w1.drew) fun x22 =>
 RD PG (Instr.build 118 #[(0,(.int .u16 x8)),(1,(.int .u16 x12)),(2,(.int .u32 x17)),(3,(.int .u32 x22)),(4,(.int .u8 2)),(6,(.slice data dataN dataC))]) (w1.drew) fun v =>
 ∃ x24 : Int,∃ x24v1 : Int,∃ x24v2 : Int,∃ x24v3 : Int,∃ x24v4 : Int,∃ (x24v5 : Option Addr) (x24N x24C : Nat),∃ (x24v6 : Option Addr) (x24N1 x24C1 : Nat),v = (.agg #[(.int .u16 x24),(.int .u16 x24v1),(.int .u32 x24v2),(.int .u32 x24v3),(.int .u8 x24v4),(.slice x24v5 x24N x24C),(.slice x24v6 x24N1 x24C1)]) /\
 (RUNU PG (storeVar 118 a4 (.agg #[(.int .u16 x24),(.int .u16 x24v1),(.int .u32 x24v2),(.int .u32 x24v3),(.int .u8 x24v4),(.slice x24v5 x24N x24C),(.slice x24v6 x24N1 x24C1)])) (w1.drew) fun w2 =>
 RD PG (loadVar 118 a4) w2 fun v2 =>
 ∃ r : Int,∃ r1 : Int,∃ r2 : Int,∃ r3 : Int,∃ r4 : Int,∃ (r5 : Option Addr) (rN rC : Nat),∃ (r6 : Option Addr) (rN1 rC1 : Nat),v2 = (.agg #[(.int .u16 r),(.int .u16 r1),(.int .u32 r2),(.int .u32 r3),(.int .u8 r4),(.slice r5 rN rC),(.slice r6 rN1 rC1)]) /\
 (Q (.agg #[(.int .u16 r),(.int .u16 r1),(.int .u32 r2),(.int .u32 r3),(.int .u8 r4),(.slice r5 rN rC),(.slice r6 rN1 rC1)]) w2))
theorem call146 {f : Option Addr} {data : Option Addr} {dataN dataC : Nat} {w : World} {Q : QP} (h_ : N146 f data dataN dataC w Q) : CALL PG 146 [(.pointer f),(.slice data dataN dataC)] w Q:=calls_vq .nil tabOk Tryz.func146 (by kernel_rfl) h_
def N147 (x : Option Addr) (f : Option Addr) (w : World) (Q : QP) : Prop :=
 RUNA PG (Instr.alloc 28 true (.tuple #[])) w fun a4 w1 =>
 ∃ S : World -> Prop,S (w1.drew) /\
 (NILC x fun a6 =>
 RDS PG (loadVar 56 (a6.add 0)) S fun v =>
 ∃ x8 : Int,∃ x8v1 : Int,∃ x8v2 : Int,∃ x8v3 : Int,∃ x8v4 : Int,∃ x8v5 : Int,∃ x8v6 : Int,∃ x8v7 : Int,∃ x8v8 : Int,v = (.agg #[(.int .u64 x8),(.int .u64 x8v1),(.int .u64 x8v2),(.int .u64 x8v3),(.int .u64 x8v4),(.int .u64 x8v5),(.int .u64 x8v6),(.int .u64 x8v7),(.int .u32 x8v8)]) /\
 (NILC x fun a10 =>
 RDSI PG (loadVar 48 (a10.add 24)) .i64 S fun x12 =>
 NILC f fun a15 =>
 RDSI PG (loadVar 3 (a15.add 9)) .i64 S fun x17 =>
 CALL PG 177 [(.agg #[(.int .u64 x8),(.int .u64 x8v1),(.int .u64 x8v2),(.int .u64 x8v3),(.int .u64 x8v4),(.int .u64 x8v5),(.int .u64 x8v6),(.int .u64 x8v7),(.int .u32 x8v8)]),(.int .i64 x12)] (w1.drew) fun v1 w2 =>
 ∃ x13 : Int,∃ x13v1 : Int,v1 = (.agg #[(.int .u64 x13),(.int .u64 x13v1)]) /\
 (∃ S1 : World -> Prop,(∀ x,S1 x -> S x) /\ S1 w2 /\
 (CALL PG 138 [(.agg #[(.int .u64 x13),(.int .u64 x13v1)]),(.int .u8 (IntKind.u8.wrap x17))] w2 fun v2 w3 =>
 ∃ x19 : Int,∃ x19v1 : Int,v2 = (.agg #[(.int .u64 x19),(.int .u64 x19v1)]) /\
 (RUNU PG (storeVar 28 a4 (.agg #[(.int .u64 x19),(.int .u64 x19v1)])) w3 fun w4 =>
 RD PG (loadVar 28 a4) w4 fun v4 =>
 ∃ r : Int,∃ r1 : Int,v4 = (.agg #[(.int .u64 r),(.int .u64 r1)]) /\
 (Q (.agg #[(.int .u64 r),(.int .u64 r1)]) w4))))))
theorem call147 {x : Option Addr} {f : Option Addr} {w : World} {Q : QP} (h_ : N147 x f w Q) : CALL PG 147 [(.pointer x),(.pointer f)] w Q:=calls_vq .nil tabOk Tryz.func147 (by kernel_rfl) h_
def N151 (f : Option Addr) (s : Int) (s1 : Int) (s2 : Int) (s3 : Int) (s4 : Int) (s5 : Option Addr) (sN sC : Nat) (s6 : Option Addr) (sN1 sC1 : Nat) (w : World) (Q : QP) : Prop :=
 RUNA PG (Instr.box 118 (.agg #[(.int .u16 s),(.int .u16 s1),(.int .u32 s2),(.int .u32 s3),(.int .u8 s4),(.slice s5 sN sC),(.slice s6 sN1 sC1)])) w fun a3 w1 =>
 RDI PG (loadVar 5 (a3.add 4)) .u8 w1 fun x6 =>
 IFB ((IntKind.u8.wrap (BitVec.ofInt (IntKind.u8.bits) x6 &&& BitVec.ofInt (IntKind.u8.bits) 1).toNat) == 0)
 (∃ S : World -> Prop,S (w1.drew) /\
 (NILC f fun a10 =>
 RDSI PG (loadVar 26 ((a10.add 0).add 3)) .u32 S fun x13 =>
 RDS PG (loadVar 118 a3) S fun v =>
 ∃ x14 : Int,∃ x14v1 : Int,∃ x14v2 : Int,∃ x14v3 : Int,∃ x14v4 : Int,∃ (x14v5 : Option Addr) (x14N x14C : Nat),∃ (x14v6 : Option Addr) (x14N1 x14C1 : Nat),v = (.agg #[(.int .u16 x14),(.int .u16 x14v1),(.int .u32 x14v2),(.int .u32 x14v3),(.int .u8 x14v4),(.slice x14v5 x14N x14C),(.slice x14v6 x14N1 x14C1)]) /\
 (CALL PG 181 [(.agg #[(.int .u16 x14),(.int .u16 x14v1),(.int .u32 x14v2),(.int .u32 x14v3),(.int .u8 x14v4),(.slice x14v5 x14N x14C),(.slice x14v6 x14N1 x14C1)])] (w1.drew) fun v1 w2 =>
 ∃ x15 : Int,v1 = (.int .u32 x15) /\
 (∃ S1 : World -> Prop,(∀ x,S1 x -> S x) /\ S1 w2 /\
 (NILC f fun a17 =>
 RUNU PG (storeVar 26 ((a17.add 0).add 3) (.int .u32 (IntKind.u32.wrap (x13 + x15)))) w2 fun w3 =>
 NILC f fun a21 =>
 RUNU PG (storeVar 3 (a21.add 20) (.int .i64 0)) w3 fun w4 =>
 NILC f fun a24 =>
 RDI PG (loadVar 26 ((a24.add 0).add 3)) .u32 w4 fun x27 =>
 LETI x27 fun x4 =>
 Q (.int .u32 x4) w4)))))
 (NILC f fun a21v1 =>
 RUNU PG (storeVar 3 (a21v1.add 20) (.int .i64 0)) w1 fun w5 =>
 NILC f fun a24v1 =>
 RDI PG (loadVar 26 ((a24v1.add 0).add 3)) .u32 w5 fun x27v1 =>
 LETI x27v1 fun x4v1 =>
 Q (.int .u32 x4v1) w5)
theorem call151 {f : Option Addr} {s : Int} {s1 : Int} {s2 : Int} {s3 : Int} {s4 : Int} {s5 : Option Addr} {sN sC : Nat} {s6 : Option Addr} {sN1 sC1 : Nat} {w : World} {Q : QP} (h_ : N151 f s s1 s2 s3 s4 s5 sN sC s6 sN1 sC1 w Q) : CALL PG 151 [(.pointer f),(.agg #[(.int .u16 s),(.int .u16 s1),(.int .u32 s2),(.int .u32 s3),(.int .u8 s4),(.slice s5 sN sC),(.slice s6 sN1 sC1)])] w Q:=calls_vq .nil tabOk Tryz.func151 (by kernel_rfl) h_
def N153 (f : Option Addr) (w : World) (Q : QP) : Prop :=
 NILC f fun a3 =>
 RUNU PG (storeVar 39 ((a3.add 0).add 0) (.int .i64 3)) w fun w1 =>
 NILC f fun a8 =>
 RDI PG (loadVar 26 ((a8.add 0).add 2)) .u32 (w1.drew) fun x11 =>
 NILC f fun a13 =>
 RDI PG (loadVar 26 ((a13.add 0).add 1)) .u32 (w1.drew) fun x16 =>
 CALL PG 183 [(.int .u32 x11),(.int .u32 (IntKind.u32.wrap (x16 + 1)))] (w1.drew) fun v w2 =>
 ∃ x18 : Int,v = (.int .u32 x18) /\
 (NILC f fun a19 =>
 RUNU PG (storeVar 26 ((a19.add 0).add 2) (.int .u32 x18)) w2 fun w3 =>
 NILC f fun a26 =>
 RUNU PG (storeVar 3 (a26.add 23) (.int .i64 0)) w3 fun w4 =>
 NILC f fun a28 =>
 RUNU PG (storeVar 3 (a28.add 24) (.int .i64 0)) w4 fun w5 =>
 NILC f fun a30 =>
 RUNU PG (storeVar 3 (a30.add 21) (.int .i64 0)) w5 fun w6 =>
 NILC f fun a32 =>
 RUNU PG (storeVar 4 (a32.add 22) (.bool true)) w6 fun w7 =>
 Q (.tuple #[]) w7)
theorem call153 {f : Option Addr} {w : World} {Q : QP} (h_ : N153 f w Q) : CALL PG 153 [(.pointer f)] w Q:=calls_vq .nil tabOk Tryz.func153 (by kernel_rfl) h_
def N177 (k : Int) (k1 : Int) (k2 : Int) (k3 : Int) (k4 : Int) (k5 : Int) (k6 : Int) (k7 : Int) (k8 : Int) (r : Int) (w : World) (Q : QP) : Prop :=
 RUNA PG (Instr.box 56 (.agg #[(.int .u64 k),(.int .u64 k1),(.int .u64 k2),(.int .u64 k3),(.int .u64 k4),(.int .u64 k5),(.int .u64 k6),(.int .u64 k7),(.int .u32 k8)])) w fun a2 w1 =>
 RUNA PG (Instr.alloc 28 true (.tuple #[])) w1 fun a4 w2 =>
 IFB (r == 1)
 (RD PG (loadVar 28 (a2.add 2)) w2 fun v =>
 ∃ x8 : Int,∃ x8v1 : Int,v = (.agg #[(.int .u64 x8),(.int .u64 x8v1)]) /\
 (RUNU PG (storeVar 28 a4 (.agg #[(.int .u64 x8),(.int .u64 x8v1)])) w2 fun w3 =>
 RD PG (loadVar 28 a4) w3 fun v2 =>
 ∃ r1 : Int,∃ r2 : Int,v2 = (.agg #[(.int .u64 r1),(.int .u64 r2)]) /\
 (Q (.agg #[(.int .u64 r1),(.int .u64 r2)]) w3)))
 (RD PG (loadVar 28 (a2.add 4)) w2 fun v3 =>
 ∃ x10 : Int,∃ x10v1 : Int,v3 = (.agg #[(.int .u64 x10),(.int .u64 x10v1)]) /\
 (RUNU PG (storeVar 28 a4 (.agg #[(.int .u64 x10),(.int .u64 x10v1)])) w2 fun w4 =>
 RD PG (loadVar 28 a4) w4 fun v5 =>
 ∃ r3 : Int,∃ r4 : Int,v5 = (.agg #[(.int .u64 r3),(.int .u64 r4)]) /\
 (Q (.agg #[(.int .u64 r3),(.int .u64 r4)]) w4)))
theorem call177 {k : Int} {k1 : Int} {k2 : Int} {k3 : Int} {k4 : Int} {k5 : Int} {k6 : Int} {k7 : Int} {k8 : Int} {r : Int} {w : World} {Q : QP} (h_ : N177 k k1 k2 k3 k4 k5 k6 k7 k8 r w Q) : CALL PG 177 [(.agg #[(.int .u64 k),(.int .u64 k1),(.int .u64 k2),(.int .u64 k3),(.int .u64 k4),(.int .u64 k5),(.int .u64 k6),(.int .u64 k7),(.int .u32 k8)]),(.int .i64 r)] w Q:=calls_vq .nil tabOk Tryz.func177 (by kernel_rfl) h_
def N181 (s : Int) (s1 : Int) (s2 : Int) (s3 : Int) (s4 : Int) (s5 : Option Addr) (sN sC : Nat) (s6 : Option Addr) (sN1 sC1 : Nat) (w : World) (Q : QP) : Prop :=
 RUNA PG (Instr.box 118 (.agg #[(.int .u16 s),(.int .u16 s1),(.int .u32 s2),(.int .u32 s3),(.int .u8 s4),(.slice s5 sN sC),(.slice s6 sN1 sC1)])) w fun a1 w1 =>
 RDL PG (loadVar 41 (a1.add 6)) w1 fun x5 x5N x5C =>
 LETI (IntKind.u32.wrap (x5N : Int)) fun n =>
 RDI PG (loadVar 5 (a1.add 4)) .u8 w1 fun x9 =>
 IFB ((IntKind.u8.wrap (BitVec.ofInt (IntKind.u8.bits) x9 &&& BitVec.ofInt (IntKind.u8.bits) 1).toNat) != 0)
 (LETI (IntKind.u32.wrap (n + 1)) fun n1 =>
 LETI n1 fun x2 =>
 Q (.int .u32 x2) w1)
 (LETI n fun x2v1 =>
 Q (.int .u32 x2v1) w1)
theorem call181 {s : Int} {s1 : Int} {s2 : Int} {s3 : Int} {s4 : Int} {s5 : Option Addr} {sN sC : Nat} {s6 : Option Addr} {sN1 sC1 : Nat} {w : World} {Q : QP} (h_ : N181 s s1 s2 s3 s4 s5 sN sC s6 sN1 sC1 w Q) : CALL PG 181 [(.agg #[(.int .u16 s),(.int .u16 s1),(.int .u32 s2),(.int .u32 s3),(.int .u8 s4),(.slice s5 sN sC),(.slice s6 sN1 sC1)])] w Q:=calls_vq .nil tabOk Tryz.func181 (by kernel_rfl) h_
def N182 (f : Option Addr) (seq : Int) (w : World) (Q : QP) : Prop :=
 NILC f fun a5 =>
 RUNU PG (storeVar 39 ((a5.add 0).add 0) (.int .i64 3)) w fun w1 =>
 NILC f fun a11 =>
 RUNU PG (storeVar 26 ((a11.add 0).add 4) (.int .u32 (IntKind.u32.wrap (seq + 1)))) w1 fun w2 =>
 NILC f fun a16 =>
 RDI PG (loadVar 26 ((a16.add 0).add 3)) .u32 w2 fun x19 =>
 NILC f fun a20 =>
 RUNU PG (storeVar 26 ((a20.add 0).add 2) (.int .u32 x19)) w2 fun w3 =>
 NILC f fun a27 =>
 RUNU PG (storeVar 3 (a27.add 23) (.int .i64 0)) w3 fun w4 =>
 NILC f fun a29 =>
 RUNU PG (storeVar 3 (a29.add 24) (.int .i64 0)) w4 fun w5 =>
 NILC f fun a31 =>
 RUNU PG (storeVar 3 (a31.add 21) (.int .i64 0)) w5 fun w6 =>
 NILC f fun a33 =>
 RUNU PG (storeVar 4 (a33.add 22) (.bool false)) w6 fun w7 =>
 Q (.tuple #[]) w7
theorem call182 {f : Option Addr} {seq : Int} {w : World} {Q : QP} (h_ : N182 f seq w Q) : CALL PG 182 [(.pointer f),(.int .u32 seq)] w Q:=calls_vq .nil tabOk Tryz.func182 (by kernel_rfl) h_
def N184 (s : Option Addr) (w : World) (Q : QP) : Prop :=
 NILC s fun a3 =>
 RDI PG (loadVar 3 (a3.add 0)) .i64 w fun x5 =>
 NEED ((2 : Int) ≠ 0)
 (NILC s fun a7 =>
 RUNU PG (storeVar 3 (a7.add 0) (.int .i64 (IntKind.i64.wrap (Int.tdiv x5 2)))) w fun w1 =>
 Q (.tuple #[]) w1)
theorem call184 {s : Option Addr} {w : World} {Q : QP} (h_ : N184 s w Q) : CALL PG 184 [(.pointer s)] w Q:=calls_vq .nil tabOk Tryz.func184 (by kernel_rfl) h_
def N185 (f : Option Addr) (s : Int) (s1 : Int) (s2 : Int) (s3 : Int) (s4 : Int) (s5 : Option Addr) (sN sC : Nat) (s6 : Option Addr) (sN1 sC1 : Nat) (w : World) (Q : QP) : Prop :=
 RUNA PG (Instr.box 118 (.agg #[(.int .u16 s),(.int .u16 s1),(.int .u32 s2),(.int .u32 s3),(.int .u8 s4),(.slice s5 sN sC),(.slice s6 sN1 sC1)])) w fun a3 w1 =>
 ∃ S : World -> Prop,S (w1.drew) /\
 (NILC f fun a7 =>
 RDSI PG (loadVar 26 ((a7.add 0).add 4)) .u32 S fun x10 =>
 RDSI PG (loadVar 26 (a3.add 2)) .u32 S fun x12 =>
 RDS PG (loadVar 118 a3) S fun v =>
 ∃ x13 : Int,∃ x13v1 : Int,∃ x13v2 : Int,∃ x13v3 : Int,∃ x13v4 : Int,∃ (x13v5 : Option Addr) (x13N x13C : Nat),∃ (x13v6 : Option Addr) (x13N1 x13C1 : Nat),v = (.agg #[(.int .u16 x13),(.int .u16 x13v1),(.int .u32 x13v2),(.int .u32 x13v3),(.int .u8 x13v4),(.slice x13v5 x13N x13C),(.slice x13v6 x13N1 x13C1)]) /\
 (CALL PG 181 [(.agg #[(.int .u16 x13),(.int .u16 x13v1),(.int .u32 x13v2),(.int .u32 x13v3),(.int .u8 x13v4),(.slice x13v5 x13N x13C),(.slice x13v6 x13N1 x13C1)])] (w1.drew) fun v1 w2 =>
 ∃ x14 : Int,v1 = (.int .u32 x14) /\
 (∃ S1 : World -> Prop,(∀ x,S1 x -> S x) /\ S1 w2 /\
 (CALL PG 183 [(.int .u32 x10),(.int .u32 (IntKind.u32.wrap (x12 + x14)))] w2 fun v2 w3 =>
 ∃ x16 : Int,v2 = (.int .u32 x16) /\
 (NILC f fun a17 =>
 RUNU PG (storeVar 26 ((a17.add 0).add 4) (.int .u32 x16)) w3 fun w4 =>
 RDI PG (loadVar 26 (a3.add 3)) .u32 (w4.drew) fun x21 =>
 NILC f fun a23 =>
 RDI PG (loadVar 26 ((a23.add 0).add 2)) .u32 (w4.drew) fun x26 =>
 NILC f fun a28 =>
 RDI PG (loadVar 26 ((a28.add 0).add 3)) .u32 (w4.drew) fun x31 =>
 CALL PG 202 [(.int .u32 x21),(.int .u32 x26),(.int .u32 x31)] (w4.drew) fun v3 w5 =>
 ∃ x32 : Bool,v3 = (.bool x32) /\
 (IFB (!x32)
 (Q (.bool false) w5)
 (RDI PG (loadVar 26 (a3.add 3)) .u32 w5 fun x36 =>
 NILC f fun a37 =>
 RUNU PG (storeVar 26 ((a37.add 0).add 2) (.int .u32 x36)) w5 fun w6 =>
 Q (.bool true) w6)))))))
theorem call185 {f : Option Addr} {s : Int} {s1 : Int} {s2 : Int} {s3 : Int} {s4 : Int} {s5 : Option Addr} {sN sC : Nat} {s6 : Option Addr} {sN1 sC1 : Nat} {w : World} {Q : QP} (h_ : N185 f s s1 s2 s3 s4 s5 sN sC s6 sN1 sC1 w Q) : CALL PG 185 [(.pointer f),(.agg #[(.int .u16 s),(.int .u16 s1),(.int .u32 s2),(.int .u32 s3),(.int .u8 s4),(.slice s5 sN sC),(.slice s6 sN1 sC1)])] w Q:=calls_vq .nil tabOk Tryz.func185 (by kernel_rfl) h_
end Go.Br
/- A path's functions; the keys of paths. -/
set_option linter.unusedVariables false
set_option linter.unusedSimpArgs false
set_option linter.unnecessarySimpa false
namespace Go.Br
open Go
instance biFlowFna : Zro PG 28 2 16 (.agg #[.int .u64 0,.int .u64 0]):=⟨tiOf (by kernel_rfl)⟩
instance biFlowFnb (x0 : Int) (x1 : Int) (x2 : Int) (x3 : Int) (x4 : Int) (x5 : Option Addr) (n5 c5 : Nat) : Bld PG (Instr.build 118 #[(0,.int .u16 x0),(1,.int .u16 x1),(2,.int .u32 x2),(3,.int .u32 x3),(4,.int .u8 x4),(6,.slice x5 n5 c5)]) (.agg #[.int .u16 x0,.int .u16 x1,.int .u32 x2,.int .u32 x3,.int .u8 x4,.slice none 0 0,.slice x5 n5 c5]):=⟨fun w => by kernel_rfl⟩
instance biFlowFnc : Zro PG 118 7 64 (.agg #[.int .u16 0,.int .u16 0,.int .u32 0,.int .u32 0,.int .u8 0,.slice none 0 0,.slice none 0 0]):=⟨tiOf (by kernel_rfl)⟩
attribute [local irreducible] Addr.add RD RDS RUN RUNU NILC LETB CALL CALLX CALLV
def maxU (a b : Int) : Int:=if 2147483648 <= (a - b) % 4294967296 then b else a
def takeN (s : SgP) : Int:=if hasF s.flags 1 = true then ((s.ds.length : Int) + 1) else (s.ds.length : Int)
def flowK0 (k0 k1 id : Int) : Int:=pair1 k0 k1 [102,byteOf id]
def flowK1 (k0 k1 id : Int) : Int:=pair2 k0 k1 [102,byteOf id]
def plainS (F : Fw) (ds : List UInt8) : SgP:=⟨F.loc,F.rem,F.numNext,F.numWait,2,[],ds⟩
def sentF (F : Fw) (s : SgP) : Fw:={ F with numNext:=if hasF s.flags 1 = true then F.numNext else IntKind.u32.wrap (F.numNext + takeN s),idle:=0 }
def answF (F : Fw) (seq : Int) : Fw:={ F with numState:=3,numWait:=IntKind.u32.wrap (seq + 1),numAcked:=F.numNext,age:=0,tries:=0,quiet:=0,heard:=false }
def riseF (F : Fw) : Fw:={ F with numState:=3,numAcked:=maxU F.numAcked (IntKind.u32.wrap (F.numFirst + 1)),age:=0,tries:=0,quiet:=0,heard:=true }
def cameW (F : Fw) (s : SgP) : Int:=maxU F.numWait (IntKind.u32.wrap (s.seq + takeN s))
def cameF (F : Fw) (s : SgP) : Fw:=if betweenN s.ack F.numAcked F.numNext then { F with numWait:=cameW F s,numAcked:=s.ack } else { F with numWait:=cameW F s }
section
variable {c : Ctx} {w : World} {L R : List SA}
theorem plain_ok {f : Nat} {F : Fw} (h : St c w (blk f 111 (fwc F) :: L)) {A : Option Addr} {n d : Nat} {Q : Value -> World -> Prop} (hk : ∀ w',St c w' (blk f 111 (fwc F) :: L) -> Q (.agg #[.int .u16 F.loc,.int .u16 F.rem,.int .u32 F.numNext,.int .u32 F.numWait,.int .u8 2,.slice none 0 0,.slice A n d]) w') :
  CALL PG 146 [.pointer (some ⟨f,0,none⟩),.slice A n d] w Q:=by
 refine call146 ?_
 unfold N146
 refine h.allocZ fun q w' h => ?_
 have h:=h.drew
 refine nilc (h.rdI (B:=f) 11 (nilc (h.rdI (B:=f) 12 (nilc (h.rdI2 (B:=f) 0 3 (nilc (h.rdI2 (B:=f) 0 4 ?_)))))))
 refine RD.bld ?_
 (repeat apply exi)
 apply exr
 refine h.stG (B:=q) fun w' h => ?_
 refine h.rdG (B:=q) ?_
 (repeat apply exi)
 apply exr
 exact hk _ h.drop
theorem stake_ok (h : St c w L) {s : Sg} (ok : SgOk s.pl) {Q : Value -> World -> Prop} (hk : ∀ w',St c w' L -> Q (.int .u32 (takeN s.pl)) w') : CALL PG 181 [sgv s] w Q:=by
 have h1 : 0 <= s.flags /\ s.flags <= 7:=ok.flags
 have h2 : s.ds.length <= 1024:=ok.data
 obtain ⟨f1,_,_⟩:=and_flag (x:=s.flags) h1.1 (by omega)
 refine call181 ?_
 unfold N181
 refine h.box (vs:=sgc s) fun q w' h => ?_
 refine h.rdL (B:=q) 6 ?_
 refine leti (y:=(s.ds.length : Int)) (by rw [wrapU32]; omega) ?_
 refine h.rdI (B:=q) 4 ?_
 rw [f1]
 have:=hk _ h.drop
 unfold takeN at this
 refine ifb (fun e => leti (y:=(s.ds.length : Int) + 1) (by rw [wrapU32]; omega) (leti rfl ?_)) fun e => leti rfl ?_
 ·rw [if_pos (show hasF s.pl.flags 1 = true from e)] at this; exact this
 ·rw [if_neg (by rw [show hasF s.pl.flags 1 = hasF s.flags 1 from rfl,e]; decide)] at this; exact this
theorem sent_ok {f : Nat} {F : Fw} {s : Sg} (h : St c w (blk f 111 (fwc F) :: L)) (ok : SgOk s.pl) {Q : Value -> World -> Prop} (hk : ∀ w',St c w' (blk f 111 (fwc (sentF F s.pl)) :: L) -> Q (.int .u32 (sentF F s.pl).numNext) w') :
  CALL PG 151 [.pointer (some ⟨f,0,none⟩),sgv s] w Q:=by
 have h1 : 0 <= s.flags /\ s.flags <= 7:=ok.flags
 obtain ⟨f1,_,_⟩:=and_flag (x:=s.flags) h1.1 (by omega)
 refine call151 ?_
 unfold N151
 refine h.box (vs:=sgc s) fun q w' h => ?_
 refine h.rdI (B:=q) 4 ?_
 refine ifb (fun e => ?_) fun e => ?_
 ·have hf : hasF s.pl.flags 1 = false:=by
   show hasF s.flags 1 = false
   rw [<- f1]; simpa using e
  have h:=h.drew
  refine ⟨fun w => St c w [blk f 111 (fwc F),blk q 118 (sgc s)],h.sub (.cons (.tail .head) (.cons .head (.nil))),nilc ?_⟩
  refine St.rdsI2 (B:=f) 0 3 ?_
  refine St.rdsG (B:=q) ?_
  (repeat apply exi)
  apply exr
  refine stake_ok (s:=s) h ok fun w' h => ?_
  (repeat apply exi)
  apply exr
  refine ⟨_,fun _ h => h,h.sub (.cons (.tail .head) (.cons .head (.nil))),nilc ?_⟩
  refine h.st2 (B:=f) 0 3 fun w' h => nilc ?_
  refine h.st (B:=f) 20 fun w' h => nilc ?_
  refine h.rdI2 (B:=f) 0 3 (leti rfl ?_)
  have e : sentF F s.pl = { F with numNext:=IntKind.u32.wrap (F.numNext + takeN s.pl),idle:=0 }:=by unfold sentF; rw [if_neg (by rw [hf]; decide)]
  rw [e] at hk
  exact hk _ (h.sub (.cons .head ((Sub.same _).more)))
 ·have hf : hasF s.pl.flags 1 = true:=by
   show hasF s.flags 1 = true
   rw [<- f1]; simpa using e
  refine nilc ?_
  refine h.st (B:=f) 20 fun w' h => nilc ?_
  refine h.rdI2 (B:=f) 0 3 (leti rfl ?_)
  have e : sentF F s.pl = { F with numNext:=F.numNext,idle:=0 }:=by unfold sentF; rw [if_pos hf]
  rw [e] at hk
  exact hk _ (h.sub (.cons .head ((Sub.same _).more)))
theorem answered_ok {f : Nat} {F : Fw} {seq : Int} (h : St c w (blk f 111 (fwc F) :: L)) {Q : Value -> World -> Prop} (hk : ∀ w',St c w' (blk f 111 (fwc (answF F seq)) :: L) -> Q (.tuple #[]) w') : CALL PG 182 [.pointer (some ⟨f,0,none⟩),.int .u32 seq] w Q:=by
 refine call182 ?_
 unfold N182
 refine nilc (h.st2 (B:=f) 0 0 fun w' h => nilc ?_)
 refine h.st2 (B:=f) 0 4 fun w' h => nilc ?_
 refine h.rdI2 (B:=f) 0 3 (nilc ?_)
 refine h.st2 (B:=f) 0 2 fun w' h => nilc ?_
 refine h.st (B:=f) 23 fun w' h => nilc ?_
 refine h.st (B:=f) 24 fun w' h => nilc ?_
 refine h.st (B:=f) 21 fun w' h => nilc ?_
 refine h.st (B:=f) 22 fun w' h => ?_
 exact hk _ h
theorem rise_ok {f : Nat} {F : Fw} (h : St c w (blk f 111 (fwc F) :: L)) {Q : Value -> World -> Prop} (hk : ∀ w',St c w' (blk f 111 (fwc (riseF F)) :: L) -> Q (.tuple #[]) w') : CALL PG 153 [.pointer (some ⟨f,0,none⟩)] w Q:=by
 refine call153 ?_
 unfold N153
 refine nilc (h.st2 (B:=f) 0 0 fun w' h => nilc ?_)
 have h:=h.drew
 refine h.rdI2 (B:=f) 0 2 (nilc (h.rdI2 (B:=f) 0 1 ?_))
 refine max_ok ⟨_,rfl,nilc ?_⟩
 refine h.st2 (B:=f) 0 2 fun w' h => nilc ?_
 refine h.st (B:=f) 23 fun w' h => nilc ?_
 refine h.st (B:=f) 24 fun w' h => nilc ?_
 refine h.st (B:=f) 21 fun w' h => nilc ?_
 refine h.st (B:=f) 22 fun w' h => ?_
 exact hk _ h
theorem came_ok {f : Nat} {F : Fw} {s : Sg} (h : St c w (blk f 111 (fwc F) :: L)) (ok : SgOk s.pl) {Q : Value -> World -> Prop} (hk : ∀ w',St c w' (blk f 111 (fwc (cameF F s.pl)) :: L) -> Q (.bool (betweenN s.ack F.numAcked F.numNext)) w') :
  CALL PG 185 [.pointer (some ⟨f,0,none⟩),sgv s] w Q:=by
 refine call185 ?_
 unfold N185
 refine h.box (vs:=sgc s) fun q w' h => ?_
 have h:=h.drew
 refine ⟨fun w => St c w [blk f 111 (fwc F),blk q 118 (sgc s)],h.sub (.cons (.tail .head) (.cons .head (.nil))),nilc ?_⟩
 refine St.rdsI2 (B:=f) 0 4 (St.rdsI (B:=q) 2 ?_)
 refine St.rdsG (B:=q) ?_
 (repeat apply exi)
 apply exr
 refine stake_ok (s:=s) h ok fun w' h => ?_
 (repeat apply exi)
 apply exr
 refine ⟨_,fun _ h => h,h.sub (.cons (.tail .head) (.cons .head (.nil))),?_⟩
 refine max_ok ⟨_,rfl,nilc ?_⟩
 refine h.st2 (B:=f) 0 4 fun w' h => ?_
 have h:=h.drew
 refine h.rdI (B:=q) 3 (nilc (h.rdI2 (B:=f) 0 2 (nilc (h.rdI2 (B:=f) 0 3 ?_))))
 refine between_ok ⟨_,rfl,?_⟩
 have hu : cameF F s.pl = if betweenN s.ack F.numAcked F.numNext then { F with numWait:=cameW F s.pl,numAcked:=s.ack } else { F with numWait:=cameW F s.pl }:=rfl
 rw [hu] at hk
 refine ifnot (fun e => ?_) fun e => ?_
 ·have e : betweenN s.ack F.numAcked F.numNext = false:=e
  rw [if_neg (by rw [e]; decide),e] at hk
  exact hk _ (h.sub (.cons .head ((Sub.same _).more)))
 ·have e : betweenN s.ack F.numAcked F.numNext = true:=e
  rw [if_pos e,e] at hk
  refine h.rdI (B:=q) 3 (nilc ?_)
  refine h.st2 (B:=f) 0 2 fun w' h => ?_
  exact hk _ (h.sub (.cons .head ((Sub.same _).more)))
theorem kflow_aux (h : St c w L) {k0 k1 : Int} {b : UInt8} {Q : Value -> World -> Prop} (hk : ∀ w',St c w' L -> Q (.agg #[.int .u64 (pair1 k0 k1 [102,b]),.int .u64 (pair2 k0 k1 [102,b])]) w') : CALL PG 138 [.agg #[.int .u64 k0,.int .u64 k1],bv b] w Q:=by
 unfold bv
 generalize hn : (b.toNat : Int) = n
 refine call138 ?_
 unfold N138
 refine h.box (vs:=[.int .u64 k0,.int .u64 k1]) fun q1 w' h => ?_
 refine h.allocZ fun q2 w' h => ?_
 refine h.rdG (B:=q1) ?_
 (repeat apply exi)
 apply exr
 refine h.lit (n:=2) 5 1 [.int .u8 102,.int .u8 n] fun q3 w' h => ?_
 have eb : ([.int .u8 102,.int .u8 n] : List Value) = bvs [102,b]:=by
  rw [<- hn]
  simp [bvs,bv]
 rw [eb] at h
 refine h.lit (n:=1) 41 1 (([⟨some ⟨q3,0,none⟩,[102,b],2⟩] : List Bp).flatMap bpv) fun q4 w' h => ?_
 have e : ([⟨some ⟨q3,0,none⟩,[102,b],2⟩] : List Bp).flatMap Bp.bs = [102,b]:=by simp
 refine spair_ok h (X:=[⟨some ⟨q3,0,none⟩,[102,b],2⟩]) (RdIn.own .head) (fun x hx => ?_) (by simp) (by simp) fun w' h => ?_
 ·rw [List.mem_singleton] at hx
  subst hx
  exact RdIn.own (.tail .head)
 rw [e]
 generalize pair1 k0 k1 [102,b] = u at hk ⊢
 generalize pair2 k0 k1 [102,b] = v at hk ⊢
 (repeat apply exi)
 apply exr
 refine h.stG (B:=q2) (fun w' h => ?_) (hl:=by simp)
 refine h.rdG (B:=q2) ?_
 (repeat apply exi)
 apply exr
 exact hk _ (h.sub ((Sub.same _).more.more.more.more))
theorem kflow_ok (h : St c w L) {k0 k1 id : Int} (hid : 0 <= id /\ id < 256) {Q : Value -> World -> Prop} (hk : ∀ w',St c w' L -> Q (.agg #[.int .u64 (flowK0 k0 k1 id),.int .u64 (flowK1 k0 k1 id)]) w') : CALL PG 138 [.agg #[.int .u64 k0,.int .u64 k1],.int .u8 id] w Q:=by
 rw [bv_of hid.1 hid.2]
 exact kflow_aux h hk
theorem kout_ok (h : St c w L) {K : Ks} {r : Int} {Q : Value -> World -> Prop} (hk : ∀ w',St c w' L -> Q (.agg #[.int .u64 (if r = 1 then K.clientK0 else K.serverK0),.int .u64 (if r = 1 then K.clientK1 else K.serverK1)]) w') : CALL PG 177 [kscv K,.int .i64 r] w Q:=by
 refine call177 ?_
 unfold N177
 refine h.box (vs:=ksc K) fun q1 w' h => ?_
 refine h.allocZ fun q2 w' h => ?_
 refine ifq (fun e => ?_) fun e => ?_
 ·rw [if_pos e,if_pos e] at hk
  refine h.rdGo (B:=q1) 2 2 ?_
  (repeat apply exi)
  apply exr
  refine h.stG (B:=q2) fun w' h => ?_
  refine h.rdG (B:=q2) ?_
  (repeat apply exi)
  apply exr
  exact hk _ h.drop.drop
 ·rw [if_neg e,if_neg e] at hk
  refine h.rdGo (B:=q1) 4 2 ?_
  (repeat apply exi)
  apply exr
  refine h.stG (B:=q2) fun w' h => ?_
  refine h.rdG (B:=q2) ?_
  (repeat apply exi)
  apply exr
  exact hk _ h.drop.drop
theorem kin_ok (h : St c w L) {K : Ks} {r : Int} {Q : Value -> World -> Prop} (hk : ∀ w',St c w' L -> Q (.agg #[.int .u64 (if r = 1 then K.serverK0 else K.clientK0),.int .u64 (if r = 1 then K.serverK1 else K.clientK1)]) w') : CALL PG 139 [kscv K,.int .i64 r] w Q:=by
 refine call139 ?_
 unfold N139
 refine h.box (vs:=ksc K) fun q1 w' h => ?_
 refine h.allocZ fun q2 w' h => ?_
 refine ifq (fun e => ?_) fun e => ?_
 ·rw [if_pos e,if_pos e] at hk
  refine h.rdGo (B:=q1) 4 2 ?_
  (repeat apply exi)
  apply exr
  refine h.stG (B:=q2) fun w' h => ?_
  refine h.rdG (B:=q2) ?_
  (repeat apply exi)
  apply exr
  exact hk _ h.drop.drop
 ·rw [if_neg e,if_neg e] at hk
  refine h.rdGo (B:=q1) 2 2 ?_
  (repeat apply exi)
  apply exr
  refine h.stG (B:=q2) fun w' h => ?_
  refine h.rdG (B:=q2) ?_
  (repeat apply exi)
  apply exr
  exact hk _ h.drop.drop
theorem good_ok2 {q : Nat} {n l p : Int} (h : St c w (blk q 220 [.int .i64 n,.int .i64 l,.int .i64 p] :: L)) {Q : Value -> World -> Prop} (hk : ∀ w',St c w' (blk q 220 [.int .i64 (IntKind.i64.wrap (Int.tdiv n 2)),.int .i64 l,.int .i64 p] :: L) -> Q (.tuple #[]) w') : CALL PG 184 [.pointer (some ⟨q,0,none⟩)] w Q:=by
 refine call184 ?_
 unfold N184
 refine nilc (h.rdI (B:=q) 0 ⟨by decide,nilc ?_⟩)
 refine h.st (B:=q) 0 fun w' h => ?_
 exact hk _ h
def outK (X : Cn) : Int × Int:=if X.role = 1 then (X.keysClientK0,X.keysClientK1) else (X.keysServerK0,X.keysServerK1)
def inK (X : Cn) : Int × Int:=if X.role = 1 then (X.keysServerK0,X.keysServerK1) else (X.keysClientK0,X.keysClientK1)
def Cn.ks (X : Cn) : Ks:=⟨X.keysIDK0,X.keysIDK1,X.keysClientK0,X.keysClientK1,X.keysServerK0,X.keysServerK1,X.keysJoinK0,X.keysJoinK1,X.keysToken⟩
def sendK0 (X : Cn) (F : Fw) : Int:=flowK0 (outK X).1 (outK X).2 (IntKind.u8.wrap F.id)
def sendK1 (X : Cn) (F : Fw) : Int:=flowK1 (outK X).1 (outK X).2 (IntKind.u8.wrap F.id)
def hearK0 (X : Cn) (F : Fw) : Int:=flowK0 (inK X).1 (inK X).2 (IntKind.u8.wrap F.id)
def hearK1 (X : Cn) (F : Fw) : Int:=flowK1 (inK X).1 (inK X).2 (IntKind.u8.wrap F.id)
theorem sends_ok {x f : Nat} {X : Cn} {F : Fw} (h : St c w (blk x 67 (cnc X) :: blk f 111 (fwc F) :: L)) {Q : Value -> World -> Prop} (hk : ∀ w',St c w' (blk x 67 (cnc X) :: blk f 111 (fwc F) :: L) -> Q (.agg #[.int .u64 (sendK0 X F),.int .u64 (sendK1 X F)]) w') :
  CALL PG 147 [.pointer (some ⟨x,0,none⟩),.pointer (some ⟨f,0,none⟩)] w Q:=by
 refine call147 ?_
 unfold N147
 refine h.allocZ fun q w' h => ?_
 have h:=h.drew
 refine ⟨fun w => St c w [blk x 67 (cnc X),blk f 111 (fwc F)],h.sub (.cons (.tail .head) (.cons (.tail .head) (.nil))),nilc ?_⟩
 refine St.rdsGo (B:=x) 0 9 ?_
 (repeat apply exi)
 apply exr
 refine nilc (St.rdsI (B:=x) 24 (nilc (St.rdsI (B:=f) 9 ?_)))
 refine kout_ok (K:=X.ks) h fun w' h => ?_
 have e0 : (if X.role = 1 then X.ks.clientK0 else X.ks.serverK0) = (outK X).1:=by unfold outK; split <;> rfl
 have e1 : (if X.role = 1 then X.ks.clientK1 else X.ks.serverK1) = (outK X).2:=by unfold outK; split <;> rfl
 rw [e0,e1]
 (repeat apply exi)
 apply exr
 refine ⟨_,fun _ h => h,h.sub (.cons (.tail .head) (.cons (.tail .head) (.nil))),?_⟩
 refine kflow_ok h (by rw [wrapU8]; omega) fun w' h => ?_
 unfold sendK0 sendK1 at hk
 generalize flowK0 (outK X).1 (outK X).2 (IntKind.u8.wrap F.id) = u at hk ⊢
 generalize flowK1 (outK X).1 (outK X).2 (IntKind.u8.wrap F.id) = v at hk ⊢
 (repeat apply exi)
 apply exr
 refine h.stG (B:=q) (fun w' h => ?_) (hl:=by simp)
 refine h.rdG (B:=q) ?_
 (repeat apply exi)
 apply exr
 exact hk _ h.drop
theorem hears_ok {x f : Nat} {X : Cn} {F : Fw} (h : St c w (blk x 67 (cnc X) :: blk f 111 (fwc F) :: L)) {Q : Value -> World -> Prop} (hk : ∀ w',St c w' (blk x 67 (cnc X) :: blk f 111 (fwc F) :: L) -> Q (.agg #[.int .u64 (hearK0 X F),.int .u64 (hearK1 X F)]) w') :
  CALL PG 87 [.pointer (some ⟨x,0,none⟩),.pointer (some ⟨f,0,none⟩)] w Q:=by
 refine call87 ?_
 unfold N87
 refine h.allocZ fun q w' h => ?_
 have h:=h.drew
 refine ⟨fun w => St c w [blk x 67 (cnc X),blk f 111 (fwc F)],h.sub (.cons (.tail .head) (.cons (.tail .head) (.nil))),nilc ?_⟩
 refine St.rdsGo (B:=x) 0 9 ?_
 (repeat apply exi)
 apply exr
 refine nilc (St.rdsI (B:=x) 24 (nilc (St.rdsI (B:=f) 9 ?_)))
 refine kin_ok (K:=X.ks) h fun w' h => ?_
 have e0 : (if X.role = 1 then X.ks.serverK0 else X.ks.clientK0) = (inK X).1:=by unfold inK; split <;> rfl
 have e1 : (if X.role = 1 then X.ks.serverK1 else X.ks.clientK1) = (inK X).2:=by unfold inK; split <;> rfl
 rw [e0,e1]
 (repeat apply exi)
 apply exr
 refine ⟨_,fun _ h => h,h.sub (.cons (.tail .head) (.cons (.tail .head) (.nil))),?_⟩
 refine kflow_ok h (by rw [wrapU8]; omega) fun w' h => ?_
 unfold hearK0 hearK1 at hk
 generalize flowK0 (inK X).1 (inK X).2 (IntKind.u8.wrap F.id) = u at hk ⊢
 generalize flowK1 (inK X).1 (inK X).2 (IntKind.u8.wrap F.id) = v at hk ⊢
 (repeat apply exi)
 apply exr
 refine h.stG (B:=q) (fun w' h => ?_) (hl:=by simp)
 refine h.rdG (B:=q) ?_
 (repeat apply exi)
 apply exr
 exact hk _ h.drop
end
end Go.Br
