/- What the code of some functions says, as the core reads it; each reading is checked by the kernel. -/
import Derived.Test.YtmglifmopjedbaaGreatBrSeat
set_option linter.unusedVariables false
set_option maxRecDepth 100000
namespace Go.Br
open Go Go.Proofs
def N216 (s : Option Addr) (fromv : Int) (w : World) (Q : QP) : Prop :=
 NILC s fun a8 =>
 RDL PG (loadVar 260 (a8.add 1)) w fun x10 x10N x10C =>
 ∃ I : Nat -> Int -> World -> Prop,
 (∃ m,I m 0 w) /\
 (∀ m1 (x12 : Int) (w1 : World),I m1 x12 w1 -> (IFB (decide (x12 < (x10N : Int)))
 (IDX x10 x10N x12 fun a14 =>
 RD PG (loadVar 298 (a14.add (Int.toNat x12 * 2))) w1 fun v =>
 ∃ x15 : Int,∃ x15v1 : Int,v = (.agg #[(.int .u64 x15),(.int .u64 x15v1)]) /\
 (RUNA PG (Instr.alloc 298 true (.tuple #[])) w1 fun a6 w2 =>
 RUNU PG (storeVar 298 a6 (.agg #[(.int .u64 x15),(.int .u64 x15v1)])) w2 fun w3 =>
 RDI PG (loadVar 25 (a6.add 0)) .u64 w3 fun x17 =>
 IFB (decide (x17 <= fromv))
 (RDI PG (loadVar 25 (a6.add 1)) .u64 w3 fun x23 =>
 IFB (decide (fromv < x23))
 (RDI PG (loadVar 25 (a6.add 1)) .u64 w3 fun x27 =>
 LETI x27 fun x4 =>
 Q (.int .u64 x4) w3)
 (∃ m2,m2 < m1 /\ I m2 (IntKind.i64.wrap (x12 + 1)) w3))
 (∃ m3,m3 < m1 /\ I m3 (IntKind.i64.wrap (x12 + 1)) w3)))
 (LETI fromv fun x4v1 =>
 Q (.int .u64 x4v1) w1)))
theorem call216 {s : Option Addr} {fromv : Int} {w : World} {Q : QP} (h_ : N216 s fromv w Q) : CALL PG 216 [(.pointer s),(.int .u64 fromv)] w Q:=calls_vq (.s .nil (.s (.s .nil (.u (.loop [(12,3)] .nil))) .nil)) tabOk Tryz.func216 (by kernel_rfl) h_
def N241 (s : Option Addr) (x : Int) (w : World) (Q : QP) : Prop :=
 NILC s fun a9 =>
 RDL PG (loadVar 260 (a9.add 1)) w fun x11 x11N x11C =>
 CALL PG 268 [(.slice x11 x11N x11C),(.int .u64 x),(.func (.func 269) #[] #[])] w fun v w1 =>
 ∃ x13 : Int,∃ x13v1 : Bool,v = (.tuple #[(.int .i64 x13),(.bool x13v1)]) /\
 (LETI x13 fun i =>
 LETB x13v1 fun x1 =>
 LETI i fun x4 =>
 Q (.int .i64 x4) w1)
theorem call241 {s : Option Addr} {x : Int} {w : World} {Q : QP} (h_ : N241 s x w Q) : CALL PG 241 [(.pointer s),(.int .u64 x)] w Q:=calls_vq .nil tabOk Tryz.func241 (by kernel_rfl) h_
def N268 (x : Option Addr) (xN xC : Nat) (target : Int) (cmp : Value) (w : World) (Q : QP) : Prop :=
 LETI (xN : Int) fun n =>
 LETI n fun j =>
 ∃ I : Nat -> Int -> Int -> World -> Prop,
 (∃ m,I m 0 j w) /\
 (∀ m1 (i : Int) (j1 : Int) (w1 : World),I m1 i j1 w1 -> (IFB (decide (i < j1))
 (NEED (0 <= (1 : Int))
 (LETI (IntKind.i64.wrap (shrN .u64 (IntKind.u64.wrap (IntKind.i64.wrap (i + j1))) 1)) fun h =>
 IDX x xN h fun a27 =>
 RD PG (loadVar 298 (a27.add (Int.toNat h * 2))) w1 fun v =>
 ∃ x28 : Int,∃ x28v1 : Int,v = (.agg #[(.int .u64 x28),(.int .u64 x28v1)]) /\
 (CALLV PG cmp [(.agg #[(.int .u64 x28),(.int .u64 x28v1)]),(.int .u64 target)] w1 fun v1 w2 =>
 ∃ x30 : Int,v1 = (.int .i64 x30) /\
 (IFB (decide (x30 < 0))
 (LETI (IntKind.i64.wrap (h + 1)) fun i1 =>
 ∃ m2,m2 < m1 /\ I m2 i1 j1 w2)
 (LETI h fun j2 =>
 ∃ m3,m3 < m1 /\ I m3 i j2 w2)))))
 (IFB (decide (i < n))
 (IDX x xN i fun a43 =>
 RD PG (loadVar 298 (a43.add (Int.toNat i * 2))) w1 fun v2 =>
 ∃ x44 : Int,∃ x44v1 : Int,v2 = (.agg #[(.int .u64 x44),(.int .u64 x44v1)]) /\
 (CALLV PG cmp [(.agg #[(.int .u64 x44),(.int .u64 x44v1)]),(.int .u64 target)] w1 fun v3 w3 =>
 ∃ x46 : Int,v3 = (.int .i64 x46) /\
 (LETI i fun x6 =>
 LETB (x46 == 0) fun x7 =>
 Q (.tuple #[(.int .i64 x6),(.bool x7)]) w3)))
 (LETI i fun x6v1 =>
 LETB false fun x7v1 =>
 Q (.tuple #[(.int .i64 x6v1),(.bool x7v1)]) w1))))
theorem call268 {x : Option Addr} {xN xC : Nat} {target : Int} {cmp : Value} {w : World} {Q : QP} (h_ : N268 x xN xC target cmp w Q) : CALL PG 268 [(.slice x xN xC),(.int .u64 target),cmp] w Q:=calls_vq (.s .nil (.s .nil (.s .nil (.s (.u (.loop [(9,3),(10,3)] .nil)) .nil)))) tabOk Tryz.func268 (by kernel_rfl) h_
def N269 (p : Int) (p1 : Int) (x : Int) (w : World) (Q : QP) : Prop :=
 RUNA PG (Instr.box 298 (.agg #[(.int .u64 p),(.int .u64 p1)])) w fun a2 w1 =>
 RDI PG (loadVar 25 (a2.add 1)) .u64 w1 fun x6 =>
 IFB (decide (x6 < x))
 (Q (.int .i64 (-1 : Int)) w1)
 (Q (.int .i64 1) w1)
theorem call269 {p : Int} {p1 : Int} {x : Int} {w : World} {Q : QP} (h_ : N269 p p1 x w Q) : CALL PG 269 [(.agg #[(.int .u64 p),(.int .u64 p1)]),(.int .u64 x)] w Q:=calls_vq .nil tabOk Tryz.func269 (by kernel_rfl) h_
end Go.Br
