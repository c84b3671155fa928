/- What the code of some functions says, as the core reads it; each reading is checked by the kernel. -/
import Derived.Test.YtmglifmopjedbaaGreatBrSeat
set_option linter.unusedVariables false
set_option maxRecDepth 100000
namespace Go.Br
open Go Go.Proofs
def N212 (s : Option Addr) (fromv : Int) (tov : Int) (w : World) (Q : QP) : Prop :=
 NILC s fun a11 =>
 RDL PG (loadVar 260 (a11.add 1)) w fun x13 x13N x13C =>
 ∃ I : Nat -> Int -> Option Addr -> Nat -> Nat -> Int -> World -> Prop,
 (∃ m,I m fromv none 0 0 0 w) /\
 (∀ m1 (fromv1 : Int) (out : Option Addr) (outN outC : Nat) (x15 : Int) (w1 : World),I m1 fromv1 out outN outC x15 w1 -> (IFB (decide (x15 < (x13N : Int)))
 (IDX x13 x13N x15 fun a17 =>
 RD PG (loadVar 298 (a17.add (Int.toNat x15 * 2))) w1 fun v =>
 ∃ x18 : Int,∃ x18v1 : Int,v = (.agg #[(.int .u64 x18),(.int .u64 x18v1)]) /\
 (RUNA PG (Instr.alloc 298 true (.tuple #[])) w1 fun a9 w2 =>
 RUNU PG (storeVar 298 a9 (.agg #[(.int .u64 x18),(.int .u64 x18v1)])) w2 fun w3 =>
 RDI PG (loadVar 25 (a9.add 1)) .u64 w3 fun x20 =>
 IFB (decide (x20 <= fromv1))
 (∃ m2,m2 < m1 /\ I m2 fromv1 out outN outC (IntKind.i64.wrap (x15 + 1)) w3)
 (RDI PG (loadVar 25 (a9.add 0)) .u64 w3 fun x25 =>
 IFB (decide (x25 ≥ tov))
 (∃ m3,m3 < m1 /\ I m3 fromv1 out outN outC (IntKind.i64.wrap (x15 + 1)) w3)
 (RDI PG (loadVar 25 (a9.add 0)) .u64 w3 fun x30 =>
 IFB (decide (x30 > fromv1))
 (RDI PG (loadVar 25 (a9.add 0)) .u64 w3 fun x36 =>
 RD PG (Instr.build 298 #[(0,(.int .u64 fromv1)),(1,(.int .u64 x36))]) w3 fun v1 =>
 ∃ x37 : Int,∃ x37v1 : Int,v1 = (.agg #[(.int .u64 x37),(.int .u64 x37v1)]) /\
 (RUNL PG (Instr.buildSlice 260 1 #[(0,(.agg #[(.int .u64 x37),(.int .u64 x37v1)]))]) w3 fun x38 x38N x38C w4 =>
 RUNL PG (Builtin.append_ #[260,260] 260 #[(.slice out outN outC),(.slice x38 x38N x38C)]) w4 fun x39 x39N x39C w5 =>
 RDI PG (loadVar 25 (a9.add 1)) .u64 w5 fun x41 =>
 LETI x41 fun fromv2 =>
 ∃ m4,m4 < m1 /\ I m4 fromv2 x39 x39N x39C (IntKind.i64.wrap (x15 + 1)) w5))
 (RDI PG (loadVar 25 (a9.add 1)) .u64 w3 fun x41v1 =>
 LETI x41v1 fun fromv3 =>
 ∃ m5,m5 < m1 /\ I m5 fromv3 out outN outC (IntKind.i64.wrap (x15 + 1)) w3)))))
 (IFB (decide (fromv1 < tov))
 (RD PG (Instr.build 298 #[(0,(.int .u64 fromv1)),(1,(.int .u64 tov))]) w1 fun v2 =>
 ∃ x49 : Int,∃ x49v1 : Int,v2 = (.agg #[(.int .u64 x49),(.int .u64 x49v1)]) /\
 (RUNL PG (Instr.buildSlice 260 1 #[(0,(.agg #[(.int .u64 x49),(.int .u64 x49v1)]))]) w1 fun x50 x50N x50C w6 =>
 RUNL PG (Builtin.append_ #[260,260] 260 #[(.slice out outN outC),(.slice x50 x50N x50C)]) w6 fun x51 x51N x51C w7 =>
 Q (.slice x51 x51N x51C) w7))
 (Q (.slice out outN outC) w1))))
theorem call212 {s : Option Addr} {fromv : Int} {tov : Int} {w : World} {Q : QP} (h_ : N212 s fromv tov w Q) : CALL PG 212 [(.pointer s),(.int .u64 fromv),(.int .u64 tov)] w Q:=calls_vq (.s .nil (.s .nil (.s (.s .nil (.u (.loop [(1,25),(7,260),(15,3)] .nil))) .nil))) tabOk Tryz.func212 (by kernel_rfl) h_
def N213 (s : Option Addr) (fromv : Int) (tov : Int) (w : World) (Q : QP) : Prop :=
 IFB (decide (fromv ≥ tov))
 (Q (.bool true) w)
 (CALL PG 241 [(.pointer s),(.int .u64 fromv)] w fun v w1 =>
 ∃ x14 : Int,v = (.int .i64 x14) /\
 (LETI x14 fun i =>
 LETI i fun k =>
 ∃ R : Int -> Int -> Int -> World -> Prop,
 (∃ I : Nat -> Int -> Int -> Int -> World -> Prop,
 (∃ m,I m fromv tov k w1) /\
 (∀ m1 (fromv1 : Int) (tov1 : Int) (k1 : Int) (w2 : World),I m1 fromv1 tov1 k1 w2 -> (NILC s fun a18 =>
 RDL PG (loadVar 260 (a18.add 1)) w2 fun x20 x20N x20C =>
 IFB (decide (k1 < (x20N : Int)))
 (NILC s fun a25 =>
 RDL PG (loadVar 260 (a25.add 1)) w2 fun x27 x27N x27C =>
 IDX x27 x27N k1 fun a29 =>
 RDI PG (loadVar 25 (Addr.add (a29.add (Int.toNat k1 * 2)) 0)) .u64 w2 fun x31 =>
 IFB (decide (x31 <= tov1))
 (NILC s fun a37 =>
 RDL PG (loadVar 260 (a37.add 1)) w2 fun x39 x39N x39C =>
 IDX x39 x39N k1 fun a41 =>
 RDI PG (loadVar 25 (Addr.add (a41.add (Int.toNat k1 * 2)) 0)) .u64 w2 fun x43 =>
 LETI (minN fromv1 x43) fun fromv2 =>
 NILC s fun a47 =>
 RDL PG (loadVar 260 (a47.add 1)) w2 fun x49 x49N x49C =>
 IDX x49 x49N k1 fun a51 =>
 RDI PG (loadVar 25 (Addr.add (a51.add (Int.toNat k1 * 2)) 1)) .u64 w2 fun x53 =>
 LETI (maxN tov1 x53) fun tov2 =>
 LETI (IntKind.i64.wrap (k1 + 1)) fun k2 =>
 ∃ m2,m2 < m1 /\ I m2 fromv2 tov2 k2 w2)
 (R fromv1 tov1 k1 w2))
 (R fromv1 tov1 k1 w2)))) /\
 (∀ (fromv3 : Int) (tov3 : Int) (k3 : Int) (w3 : World),R fromv3 tov3 k3 w3 -> (∃ R1 : World -> Prop,
 (IFB (k3 == i)
 (NILC s fun a62 =>
 RDL PG (loadVar 260 (a62.add 1)) (w3.drew) fun x64 x64N x64C =>
 NILC s fun a67 =>
 RDI PG (loadVar 3 (a67.add 0)) .i64 (w3.drew) fun x69 =>
 IFB ((x64N : Int) == x69)
 (Q (.bool false) (w3.drew))
 (R1 (w3.drew)))
 (R1 (w3.drew))) /\
 (∀  (w4 : World),R1 w4 -> (NILC s fun a74 =>
 RDL PG (loadVar 260 (a74.add 1)) w4 fun x76 x76N x76C =>
 RD PG (Instr.build 298 #[(0,(.int .u64 fromv3)),(1,(.int .u64 tov3))]) w4 fun v1 =>
 ∃ x81 : Int,∃ x81v1 : Int,v1 = (.agg #[(.int .u64 x81),(.int .u64 x81v1)]) /\
 (RUNL PG (Instr.buildSlice 260 1 #[(0,(.agg #[(.int .u64 x81),(.int .u64 x81v1)]))]) w4 fun x82 x82N x82C w5 =>
 CALL PG 242 [(.slice x76 x76N x76C),(.int .i64 i),(.int .i64 k3),(.slice x82 x82N x82C)] w5 fun v2 w6 =>
 ∃ (x83 : Option Addr) (x83N x83C : Nat),v2 = (.slice x83 x83N x83C) /\
 (NILC s fun a84 =>
 RUNU PG (storeVar 260 (a84.add 1) (.slice x83 x83N x83C)) w6 fun w7 =>
 Q (.bool true) w7))))))))
theorem call213 {s : Option Addr} {fromv : Int} {tov : Int} {w : World} {Q : QP} (h_ : N213 s fromv tov w Q) : CALL PG 213 [(.pointer s),(.int .u64 fromv),(.int .u64 tov)] w Q:=calls_vq (.s .nil (.s .nil (.s .nil (.s .nil (.cut [(1,25),(2,25),(8,3)] (.u (.loop [(1,25),(2,25),(8,3)] .nil)) (.cut [] .nil .nil)))))) tabOk Tryz.func213 (by kernel_rfl) h_
def N217 (s : Option Addr) (below : Int) (w : World) (Q : QP) : Prop :=
 ∃ R : Int -> World -> Prop,
 (∃ I : Nat -> Int -> World -> Prop,
 (∃ m,I m 0 w) /\
 (∀ m1 (i : Int) (w1 : World),I m1 i w1 -> (NILC s fun a7 =>
 RDL PG (loadVar 260 (a7.add 1)) w1 fun x9 x9N x9C =>
 IFB (decide (i < (x9N : Int)))
 (NILC s fun a14 =>
 RDL PG (loadVar 260 (a14.add 1)) w1 fun x16 x16N x16C =>
 IDX x16 x16N i fun a18 =>
 RDI PG (loadVar 25 (Addr.add (a18.add (Int.toNat i * 2)) 1)) .u64 w1 fun x20 =>
 IFB (decide (x20 <= below))
 (LETI (IntKind.i64.wrap (i + 1)) fun i1 =>
 ∃ m2,m2 < m1 /\ I m2 i1 w1)
 (R i w1))
 (R i w1)))) /\
 (∀ (i2 : Int) (w2 : World),R i2 w2 -> (NILC s fun a28 =>
 RDL PG (loadVar 260 (a28.add 1)) w2 fun x30 x30N x30C =>
 NEED (0 <= i2 /\ i2 <= ((x30N : Nat) : Int) /\ ((x30N : Nat) : Int) <= ((x30C : Nat) : Int))
 (CALL PG 243 [(.slice (cutA x30 x30C 2 i2) (Int.toNat ((x30N : Nat) : Int) - Int.toNat i2) (x30C - Int.toNat i2))] w2 fun v w3 =>
 ∃ (x33 : Option Addr) (x33N x33C : Nat),v = (.slice x33 x33N x33C) /\
 (NILC s fun a34 =>
 RUNU PG (storeVar 260 (a34.add 1) (.slice x33 x33N x33C)) w3 fun w4 =>
 NILC s fun a37 =>
 RDL PG (loadVar 260 (a37.add 1)) w4 fun x39 x39N x39C =>
 IFB (decide ((x39N : Int) > 0))
 (NILC s fun a43 =>
 RDL PG (loadVar 260 (a43.add 1)) (w4.drew) fun x45 x45N x45C =>
 NILC s fun a47 =>
 RDL PG (loadVar 260 (a47.add 1)) (w4.drew) fun x49 x49N x49C =>
 IDX x49 x49N 0 fun a50 =>
 RDI PG (loadVar 25 (Addr.add (a50.add (Int.toNat 0 * 2)) 0)) .u64 (w4.drew) fun x52 =>
 IDX x45 x45N 0 fun a55 =>
 RUNU PG (storeVar 25 (Addr.add (a55.add (Int.toNat 0 * 2)) 0) (.int .u64 (maxN x52 below))) (w4.drew) fun w5 =>
 Q (.tuple #[]) w5)
 (Q (.tuple #[]) w4)))))
theorem call217 {s : Option Addr} {below : Int} {w : World} {Q : QP} (h_ : N217 s below w Q) : CALL PG 217 [(.pointer s),(.int .u64 below)] w Q:=calls_vq (.s .nil (.cut [(4,3)] (.u (.loop [(4,3)] .nil)) .nil)) tabOk Tryz.func217 (by kernel_rfl) h_
def N243 (s : Option Addr) (sN sC : Nat) (w : World) (Q : QP) : Prop :=
 IFB (s.isNone)
 (Q (.slice none 0 0) w)
 (RUNL PG (Instr.buildSlice 260 0 #[]) w fun x5 x5N x5C w1 =>
 RUNL PG (Builtin.append_ #[260,260] 260 #[(.slice x5 x5N x5C),(.slice s sN sC)]) w1 fun x7 x7N x7C w2 =>
 Q (.slice x7 x7N x7C) w2)
theorem call243 {s : Option Addr} {sN sC : Nat} {w : World} {Q : QP} (h_ : N243 s sN sC w Q) : CALL PG 243 [(.slice s sN sC)] w Q:=calls_vq .nil tabOk Tryz.func243 (by kernel_rfl) h_
end Go.Br
