/- What the code of some functions says, as the core reads it; each reading is checked by the kernel. -/
import Derived.Test.YtmglifmopjedbaaGreatBrSeat
set_option linter.unusedVariables false
set_option maxRecDepth 100000
namespace Go.Br
open Go Go.Proofs
def N33 (k : Int) (k1 : Int) (parts : Option Addr) (partsN partsC : Nat) (w : World) (Q : QP) : Prop :=
 RUNA PG (Instr.box 28 (.agg #[(.int .u64 k),(.int .u64 k1)])) w fun a2 w1 =>
 RD PG (loadVar 28 a2) w1 fun v =>
 ∃ x10 : Int,∃ x10v1 : Int,v = (.agg #[(.int .u64 x10),(.int .u64 x10v1)]) /\
 (CALL PG 65 [(.agg #[(.int .u64 x10),(.int .u64 x10v1)])] w1 fun v1 w2 =>
 ∃ x11 : Option Addr,v1 = (.pointer x11) /\
 (∃ I : Nat -> Int -> World -> Prop,
 (∃ m,I m 0 w2) /\
 (∀ m1 (x14 : Int) (w3 : World),I m1 x14 w3 -> (IFB (decide (x14 < (partsN : Int)))
 (IDX parts partsN x14 fun a16 =>
 RDL PG (loadVar 41 (a16.add (Int.toNat x14 * 1))) w3 fun x17 x17N x17C =>
 ∃ I1 : Nat -> Int -> World -> Prop,
 (∃ m2,I1 m2 0 w3) /\
 (∀ m3 (x20 : Int) (w4 : World),I1 m3 x20 w4 -> (IFB (decide (x20 < (x17N : Int)))
 (IDX x17 x17N x20 fun a22 =>
 RDI PG (loadVar 5 (a22.add (Int.toNat x20 * 1))) .u8 w4 fun x23 =>
 LETI x23 fun c =>
 CALL PG 66 [(.pointer x11),(.int .u8 c)] w4 fun v2 w5 =>
 v2 = (.tuple #[]) /\
 (∃ m4,m4 < m3 /\ I1 m4 (IntKind.i64.wrap (x20 + 1)) w5))
 (∃ m5,m5 < m1 /\ I m5 (IntKind.i64.wrap (x14 + 1)) w4))))
 (CALL PG 67 [(.pointer x11)] w3 fun v3 w6 =>
 ∃ x30 : Int,v3 = (.int .u64 x30) /\
 (LETI x30 fun x4 =>
 Q (.int .u64 x4) w6))))))
theorem call33 {k : Int} {k1 : Int} {parts : Option Addr} {partsN partsC : Nat} {w : World} {Q : QP} (h_ : N33 k k1 parts partsN partsC w Q) : CALL PG 33 [(.agg #[(.int .u64 k),(.int .u64 k1)]),(.slice parts partsN partsC)] w Q:=calls_vq (.s .nil (.s .nil (.s (.s .nil (.u (.loop [(14,3)] (.s .nil (.s .nil (.s (.u (.s .nil (.s .nil (.u (.loop [(20,3)] .nil))))) .nil)))))) .nil))) tabOk Tryz.func33 (by kernel_rfl) h_
def N65 (k : Int) (k1 : Int) (w : World) (Q : QP) : Prop :=
 RUNA PG (Instr.box 28 (.agg #[(.int .u64 k),(.int .u64 k1)])) w fun a1 w1 =>
 RDI PG (loadVar 25 (a1.add 0)) .u64 w1 fun x4 =>
 RDI PG (loadVar 25 (a1.add 1)) .u64 w1 fun x7 =>
 RDI PG (loadVar 25 (a1.add 0)) .u64 w1 fun x10 =>
 RDI PG (loadVar 25 (a1.add 1)) .u64 w1 fun x13 =>
 RD PG (Instr.build 210 #[(0,(.int .u64 (IntKind.u64.wrap (BitVec.ofInt (IntKind.u64.bits) x4 ^^^ BitVec.ofInt (IntKind.u64.bits) 8317987319222330741).toNat))),(1,(.int .u64 (IntKind.u64.wrap (BitVec.ofInt (IntKind.u64.bits) x7 ^^^ BitVec.ofInt (IntKind.u64.bits) 7237128888997146477).toNat))),(2,(.int .u64 (IntKind.u64.wrap (BitVec.ofInt (IntKind.u64.bits) x10 ^^^ BitVec.ofInt (IntKind.u64.bits) 7816392313619706465).toNat))),(3,(.int .u64 (IntKind.u64.wrap (BitVec.ofInt (IntKind.u64.bits) x13 ^^^ BitVec.ofInt (IntKind.u64.bits) 8387220255154660723).toNat)))]) w1 fun v =>
 ∃ x15 : Value,v = x15 /\
 (RD PG (Instr.build 212 #[(0,x15)]) w1 fun v1 =>
 ∃ x16 : Value,v1 = x16 /\
 (RUNA PG (Instr.box 212 x16) w1 fun a17 w2 =>
 Q (.pointer (some a17)) w2))
theorem call65 {k : Int} {k1 : Int} {w : World} {Q : QP} (h_ : N65 k k1 w Q) : CALL PG 65 [(.agg #[(.int .u64 k),(.int .u64 k1)])] w Q:=calls_vq .nil tabOk Tryz.func65 (by kernel_rfl) h_
def N66 (s : Option Addr) (c : Int) (w : World) (Q : QP) : Prop :=
 NILC s fun a5 =>
 RDI PG (loadVar 25 (a5.add 4)) .u64 (w.drew) fun x7 =>
 NILC s fun a11 =>
 RDI PG (loadVar 3 (a11.add 5)) .i64 (w.drew) fun x13 =>
 NEED ((8 : Int) ≠ 0)
 (NEED (0 <= (IntKind.i64.wrap ((8 : Int) * (Int.tmod x13 (8 : Int)))))
 (NILC s fun a18 =>
 RUNU PG (storeVar 25 (a18.add 4) (.int .u64 (IntKind.u64.wrap (BitVec.ofInt (IntKind.u64.bits) x7 ||| BitVec.ofInt (IntKind.u64.bits) (shlN .u64 (IntKind.u64.wrap c) (IntKind.i64.wrap (8 * (Int.tmod x13 8))))).toNat))) (w.drew) fun w1 =>
 NILC s fun a21 =>
 RDI PG (loadVar 3 (a21.add 5)) .i64 w1 fun x23 =>
 NILC s fun a25 =>
 RUNU PG (storeVar 3 (a25.add 5) (.int .i64 (IntKind.i64.wrap (x23 + 1)))) w1 fun w2 =>
 NILC s fun a28 =>
 RDI PG (loadVar 3 (a28.add 5)) .i64 w2 fun x30 =>
 NEED ((8 : Int) ≠ 0)
 (IFB ((Int.tmod x30 8) == 0)
 (NILC s fun a35 =>
 RDI PG (loadVar 25 (a35.add 4)) .u64 w2 fun x37 =>
 CALL PG 120 [(.pointer s),(.int .u64 x37)] w2 fun v w3 =>
 v = (.tuple #[]) /\
 (NILC s fun a40 =>
 RUNU PG (storeVar 25 (a40.add 4) (.int .u64 0)) w3 fun w4 =>
 Q (.tuple #[]) w4))
 (Q (.tuple #[]) w2))))
theorem call66 {s : Option Addr} {c : Int} {w : World} {Q : QP} (h_ : N66 s c w Q) : CALL PG 66 [(.pointer s),(.int .u8 c)] w Q:=calls_vq .nil tabOk Tryz.func66 (by kernel_rfl) h_
def N67 (s : Option Addr) (w : World) (Q : QP) : Prop :=
 NILC s fun a5 =>
 RDI PG (loadVar 25 (a5.add 4)) .u64 (w.drew) fun x7 =>
 NILC s fun a9 =>
 RDI PG (loadVar 3 (a9.add 5)) .i64 (w.drew) fun x11 =>
 NEED (0 <= (56 : Int))
 (CALL PG 120 [(.pointer s),(.int .u64 (IntKind.u64.wrap (BitVec.ofInt (IntKind.u64.bits) x7 ||| BitVec.ofInt (IntKind.u64.bits) (shlN .u64 (IntKind.u64.wrap (IntKind.u8.wrap x11)) 56)).toNat))] (w.drew) fun v w1 =>
 v = (.tuple #[]) /\
 (NILC s fun a18 =>
 NEED (0 <= (2 : Int) /\ (2 : Int) < ((4 : Nat) : Int))
 (RDI PG (loadVar 25 ((a18.add 0).add (Int.toNat 2 * 1))) .u64 (w1.drew) fun x21 =>
 NILC s fun a23 =>
 NEED (0 <= (2 : Int) /\ (2 : Int) < ((4 : Nat) : Int))
 (RUNU PG (storeVar 25 ((a23.add 0).add (Int.toNat 2 * 1)) (.int .u64 (IntKind.u64.wrap (BitVec.ofInt (IntKind.u64.bits) x21 ^^^ BitVec.ofInt (IntKind.u64.bits) 255).toNat))) (w1.drew) fun w2 =>
 ∃ I : Nat -> Int -> World -> Prop,
 (∃ m,I m 0 w2) /\
 (∀ m1 (x26 : Int) (w3 : World),I m1 x26 w3 -> (IFB (decide (x26 < 4))
 (CALL PG 121 [(.pointer s)] w3 fun v1 w4 =>
 v1 = (.tuple #[]) /\
 (∃ m2,m2 < m1 /\ I m2 (IntKind.i64.wrap (x26 + 1)) w4))
 (NILC s fun a32 =>
 NEED (0 <= (0 : Int) /\ (0 : Int) < ((4 : Nat) : Int))
 (RDI PG (loadVar 25 ((a32.add 0).add (Int.toNat 0 * 1))) .u64 (w3.drew) fun x35 =>
 NILC s fun a37 =>
 NEED (0 <= (1 : Int) /\ (1 : Int) < ((4 : Nat) : Int))
 (RDI PG (loadVar 25 ((a37.add 0).add (Int.toNat 1 * 1))) .u64 (w3.drew) fun x40 =>
 NILC s fun a43 =>
 NEED (0 <= (2 : Int) /\ (2 : Int) < ((4 : Nat) : Int))
 (RDI PG (loadVar 25 ((a43.add 0).add (Int.toNat 2 * 1))) .u64 (w3.drew) fun x46 =>
 NILC s fun a49 =>
 NEED (0 <= (3 : Int) /\ (3 : Int) < ((4 : Nat) : Int))
 (RDI PG (loadVar 25 ((a49.add 0).add (Int.toNat 3 * 1))) .u64 (w3.drew) fun x52 =>
 LETI (IntKind.u64.wrap (BitVec.ofInt (IntKind.u64.bits) (IntKind.u64.wrap (BitVec.ofInt (IntKind.u64.bits) (IntKind.u64.wrap (BitVec.ofInt (IntKind.u64.bits) x35 ^^^ BitVec.ofInt (IntKind.u64.bits) x40).toNat) ^^^ BitVec.ofInt (IntKind.u64.bits) x46).toNat) ^^^ BitVec.ofInt (IntKind.u64.bits) x52).toNat) fun x2 =>
 Q (.int .u64 x2) (w3.drew))))))))))))
theorem call67 {s : Option Addr} {w : World} {Q : QP} (h_ : N67 s w Q) : CALL PG 67 [(.pointer s)] w Q:=calls_vq (.s .nil (.s .nil (.s .nil (.s (.s .nil (.u (.loop [(26,3)] .nil))) .nil)))) tabOk Tryz.func67 (by kernel_rfl) h_
def N120 (s : Option Addr) (m : Int) (w : World) (Q : QP) : Prop :=
 NILC s fun a5 =>
 NEED (0 <= (3 : Int) /\ (3 : Int) < ((4 : Nat) : Int))
 (RDI PG (loadVar 25 ((a5.add 0).add (Int.toNat 3 * 1))) .u64 (w.drew) fun x8 =>
 NILC s fun a11 =>
 NEED (0 <= (3 : Int) /\ (3 : Int) < ((4 : Nat) : Int))
 (RUNU PG (storeVar 25 ((a11.add 0).add (Int.toNat 3 * 1)) (.int .u64 (IntKind.u64.wrap (BitVec.ofInt (IntKind.u64.bits) x8 ^^^ BitVec.ofInt (IntKind.u64.bits) m).toNat))) (w.drew) fun w1 =>
 CALL PG 121 [(.pointer s)] w1 fun v w2 =>
 v = (.tuple #[]) /\
 (CALL PG 121 [(.pointer s)] w2 fun v1 w3 =>
 v1 = (.tuple #[]) /\
 (NILC s fun a19 =>
 NEED (0 <= (0 : Int) /\ (0 : Int) < ((4 : Nat) : Int))
 (RDI PG (loadVar 25 ((a19.add 0).add (Int.toNat 0 * 1))) .u64 (w3.drew) fun x22 =>
 NILC s fun a25 =>
 NEED (0 <= (0 : Int) /\ (0 : Int) < ((4 : Nat) : Int))
 (RUNU PG (storeVar 25 ((a25.add 0).add (Int.toNat 0 * 1)) (.int .u64 (IntKind.u64.wrap (BitVec.ofInt (IntKind.u64.bits) x22 ^^^ BitVec.ofInt (IntKind.u64.bits) m).toNat))) (w3.drew) fun w4 =>
 Q (.tuple #[]) w4))))))
theorem call120 {s : Option Addr} {m : Int} {w : World} {Q : QP} (h_ : N120 s m w Q) : CALL PG 120 [(.pointer s),(.int .u64 m)] w Q:=calls_vq .nil tabOk Tryz.func120 (by kernel_rfl) h_
def N121 (s : Option Addr) (w : World) (Q : QP) : Prop :=
 NILC s fun a4 =>
 NEED (0 <= (0 : Int) /\ (0 : Int) < ((4 : Nat) : Int))
 (RDI PG (loadVar 25 ((a4.add 0).add (Int.toNat 0 * 1))) .u64 (w.drew) fun x9 =>
 NEED (0 <= (1 : Int) /\ (1 : Int) < ((4 : Nat) : Int))
 (RDI PG (loadVar 25 ((a4.add 0).add (Int.toNat 1 * 1))) .u64 (w.drew) fun x13 =>
 NEED (0 <= (0 : Int) /\ (0 : Int) < ((4 : Nat) : Int))
 (RUNU PG (storeVar 25 ((a4.add 0).add (Int.toNat 0 * 1)) (.int .u64 (IntKind.u64.wrap (x9 + x13)))) (w.drew) fun w1 =>
 NEED (0 <= (2 : Int) /\ (2 : Int) < ((4 : Nat) : Int))
 (RDI PG (loadVar 25 ((a4.add 0).add (Int.toNat 2 * 1))) .u64 (w1.drew) fun x20 =>
 NEED (0 <= (3 : Int) /\ (3 : Int) < ((4 : Nat) : Int))
 (RDI PG (loadVar 25 ((a4.add 0).add (Int.toNat 3 * 1))) .u64 (w1.drew) fun x24 =>
 NEED (0 <= (2 : Int) /\ (2 : Int) < ((4 : Nat) : Int))
 (RUNU PG (storeVar 25 ((a4.add 0).add (Int.toNat 2 * 1)) (.int .u64 (IntKind.u64.wrap (x20 + x24)))) (w1.drew) fun w2 =>
 ∃ S : World -> Prop,S (w2.drew) /\
 (NEED (0 <= (1 : Int) /\ (1 : Int) < ((4 : Nat) : Int))
 (RDSI PG (loadVar 25 ((a4.add 0).add (Int.toNat 1 * 1))) .u64 S fun x32 =>
 NEED (0 <= (0 : Int) /\ (0 : Int) < ((4 : Nat) : Int))
 (RDSI PG (loadVar 25 ((a4.add 0).add (Int.toNat 0 * 1))) .u64 S fun x37 =>
 CALL PG 169 [(.int .u64 x32),(.int .i64 13)] (w2.drew) fun v w3 =>
 ∃ x33 : Int,v = (.int .u64 x33) /\
 (∃ S1 : World -> Prop,(∀ x,S1 x -> S x) /\ S1 w3 /\
 (NEED (0 <= (1 : Int) /\ (1 : Int) < ((4 : Nat) : Int))
 (RUNU PG (storeVar 25 ((a4.add 0).add (Int.toNat 1 * 1)) (.int .u64 (IntKind.u64.wrap (BitVec.ofInt (IntKind.u64.bits) x33 ^^^ BitVec.ofInt (IntKind.u64.bits) x37).toNat))) w3 fun w4 =>
 ∃ S2 : World -> Prop,S2 (w4.drew) /\
 (NEED (0 <= (3 : Int) /\ (3 : Int) < ((4 : Nat) : Int))
 (RDSI PG (loadVar 25 ((a4.add 0).add (Int.toNat 3 * 1))) .u64 S2 fun x45 =>
 NEED (0 <= (2 : Int) /\ (2 : Int) < ((4 : Nat) : Int))
 (RDSI PG (loadVar 25 ((a4.add 0).add (Int.toNat 2 * 1))) .u64 S2 fun x50 =>
 CALL PG 169 [(.int .u64 x45),(.int .i64 16)] (w4.drew) fun v1 w5 =>
 ∃ x46 : Int,v1 = (.int .u64 x46) /\
 (∃ S3 : World -> Prop,(∀ x,S3 x -> S2 x) /\ S3 w5 /\
 (NEED (0 <= (3 : Int) /\ (3 : Int) < ((4 : Nat) : Int))
 (RUNU PG (storeVar 25 ((a4.add 0).add (Int.toNat 3 * 1)) (.int .u64 (IntKind.u64.wrap (BitVec.ofInt (IntKind.u64.bits) x46 ^^^ BitVec.ofInt (IntKind.u64.bits) x50).toNat))) w5 fun w6 =>
 NEED (0 <= (0 : Int) /\ (0 : Int) < ((4 : Nat) : Int))
 (RDI PG (loadVar 25 ((a4.add 0).add (Int.toNat 0 * 1))) .u64 (w6.drew) fun x58 =>
 CALL PG 169 [(.int .u64 x58),(.int .i64 32)] (w6.drew) fun v2 w7 =>
 ∃ x59 : Int,v2 = (.int .u64 x59) /\
 (NEED (0 <= (0 : Int) /\ (0 : Int) < ((4 : Nat) : Int))
 (RUNU PG (storeVar 25 ((a4.add 0).add (Int.toNat 0 * 1)) (.int .u64 x59)) w7 fun w8 =>
 NEED (0 <= (2 : Int) /\ (2 : Int) < ((4 : Nat) : Int))
 (RDI PG (loadVar 25 ((a4.add 0).add (Int.toNat 2 * 1))) .u64 (w8.drew) fun x65 =>
 NEED (0 <= (1 : Int) /\ (1 : Int) < ((4 : Nat) : Int))
 (RDI PG (loadVar 25 ((a4.add 0).add (Int.toNat 1 * 1))) .u64 (w8.drew) fun x69 =>
 NEED (0 <= (2 : Int) /\ (2 : Int) < ((4 : Nat) : Int))
 (RUNU PG (storeVar 25 ((a4.add 0).add (Int.toNat 2 * 1)) (.int .u64 (IntKind.u64.wrap (x65 + x69)))) (w8.drew) fun w9 =>
 NEED (0 <= (0 : Int) /\ (0 : Int) < ((4 : Nat) : Int))
 (RDI PG (loadVar 25 ((a4.add 0).add (Int.toNat 0 * 1))) .u64 (w9.drew) fun x76 =>
 NEED (0 <= (3 : Int) /\ (3 : Int) < ((4 : Nat) : Int))
 (RDI PG (loadVar 25 ((a4.add 0).add (Int.toNat 3 * 1))) .u64 (w9.drew) fun x80 =>
 NEED (0 <= (0 : Int) /\ (0 : Int) < ((4 : Nat) : Int))
 (RUNU PG (storeVar 25 ((a4.add 0).add (Int.toNat 0 * 1)) (.int .u64 (IntKind.u64.wrap (x76 + x80)))) (w9.drew) fun w10 =>
 ∃ S4 : World -> Prop,S4 (w10.drew) /\
 (NEED (0 <= (1 : Int) /\ (1 : Int) < ((4 : Nat) : Int))
 (RDSI PG (loadVar 25 ((a4.add 0).add (Int.toNat 1 * 1))) .u64 S4 fun x88 =>
 NEED (0 <= (2 : Int) /\ (2 : Int) < ((4 : Nat) : Int))
 (RDSI PG (loadVar 25 ((a4.add 0).add (Int.toNat 2 * 1))) .u64 S4 fun x93 =>
 CALL PG 169 [(.int .u64 x88),(.int .i64 17)] (w10.drew) fun v3 w11 =>
 ∃ x89 : Int,v3 = (.int .u64 x89) /\
 (∃ S5 : World -> Prop,(∀ x,S5 x -> S4 x) /\ S5 w11 /\
 (NEED (0 <= (1 : Int) /\ (1 : Int) < ((4 : Nat) : Int))
 (RUNU PG (storeVar 25 ((a4.add 0).add (Int.toNat 1 * 1)) (.int .u64 (IntKind.u64.wrap (BitVec.ofInt (IntKind.u64.bits) x89 ^^^ BitVec.ofInt (IntKind.u64.bits) x93).toNat))) w11 fun w12 =>
 ∃ S6 : World -> Prop,S6 (w12.drew) /\
 (NEED (0 <= (3 : Int) /\ (3 : Int) < ((4 : Nat) : Int))
 (RDSI PG (loadVar 25 ((a4.add 0).add (Int.toNat 3 * 1))) .u64 S6 fun x101 =>
 NEED (0 <= (0 : Int) /\ (0 : Int) < ((4 : Nat) : Int))
 (RDSI PG (loadVar 25 ((a4.add 0).add (Int.toNat 0 * 1))) .u64 S6 fun x106 =>
 CALL PG 169 [(.int .u64 x101),(.int .i64 21)] (w12.drew) fun v4 w13 =>
 ∃ x102 : Int,v4 = (.int .u64 x102) /\
 (∃ S7 : World -> Prop,(∀ x,S7 x -> S6 x) /\ S7 w13 /\
 (NEED (0 <= (3 : Int) /\ (3 : Int) < ((4 : Nat) : Int))
 (RUNU PG (storeVar 25 ((a4.add 0).add (Int.toNat 3 * 1)) (.int .u64 (IntKind.u64.wrap (BitVec.ofInt (IntKind.u64.bits) x102 ^^^ BitVec.ofInt (IntKind.u64.bits) x106).toNat))) w13 fun w14 =>
 NEED (0 <= (2 : Int) /\ (2 : Int) < ((4 : Nat) : Int))
 (RDI PG (loadVar 25 ((a4.add 0).add (Int.toNat 2 * 1))) .u64 (w14.drew) fun x114 =>
 CALL PG 169 [(.int .u64 x114),(.int .i64 32)] (w14.drew) fun v5 w15 =>
 ∃ x115 : Int,v5 = (.int .u64 x115) /\
 (NEED (0 <= (2 : Int) /\ (2 : Int) < ((4 : Nat) : Int))
 (RUNU PG (storeVar 25 ((a4.add 0).add (Int.toNat 2 * 1)) (.int .u64 x115)) w15 fun w16 =>
 Q (.tuple #[]) w16))))))))))))))))))))))))))))))))))))))))))
theorem call121 {s : Option Addr} {w : World} {Q : QP} (h_ : N121 s w Q) : CALL PG 121 [(.pointer s)] w Q:=calls_vq .nil tabOk Tryz.func121 (by kernel_rfl) h_
def N169 (x : Int) (k : Int) (w : World) (Q : QP) : Prop :=
 LETI (IntKind.u64.wrap (BitVec.ofInt (IntKind.u64.bits) (IntKind.u64.wrap k) &&& BitVec.ofInt (IntKind.u64.bits) 63).toNat) fun s =>
 NEED (0 <= s)
 (NEED (0 <= (IntKind.u64.wrap ((64 : Int) - s)))
 (LETI (IntKind.u64.wrap (BitVec.ofInt (IntKind.u64.bits) (shlN .u64 x s) ||| BitVec.ofInt (IntKind.u64.bits) (shrN .u64 x (IntKind.u64.wrap (64 - s)))).toNat) fun x4 =>
 Q (.int .u64 x4) w))
theorem call169 {x : Int} {k : Int} {w : World} {Q : QP} (h_ : N169 x k w Q) : CALL PG 169 [(.int .u64 x),(.int .i64 k)] w Q:=calls_vq .nil tabOk Tryz.func169 (by kernel_rfl) h_
end Go.Br
