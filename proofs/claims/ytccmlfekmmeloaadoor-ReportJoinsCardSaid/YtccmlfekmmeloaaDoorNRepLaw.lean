/- What the code of some functions says, as the core reads it; each reading is checked by the kernel. -/
import Derived.Test.YtccmlfekmmeloaaDoorBrSeat
set_option linter.unusedVariables false
set_option maxRecDepth 100000
namespace Go.Br
open Go Go.Proofs

/-- brougham/broughamlaw37.ReportNumbers -/
def N3 (l : Option Addr) (lN lC : Nat) (part : Int) (w : World) (Q : Value → World → Prop) : Prop :=
 IFB (decide ((lN : Int) > (300 : Int)))
 (Q (.bool true) w)
 (CALL PG 6 [(.slice l lN lC)] w fun v w1 =>
 ∃ x12 : Int, ∃ x12v1 : Int, ∃ x12v2 : Int, ∃ x12v3 : Int, v = (.agg #[(.int .i64 x12), (.int .i64 x12v1), (.int .i64 x12v2), (.int .i64 x12v3)]) ∧
 (RUNA PG (Instr.alloc 24 true (.tuple #[])) w1 fun a5 w2 =>
 RUNU PG (storeVar 24 a5 (.agg #[(.int .i64 x12), (.int .i64 x12v1), (.int .i64 x12v2), (.int .i64 x12v3)])) w2 fun w3 =>
 CALL PG 7 [(.slice l lN lC)] w3 fun v1 w4 =>
 ∃ x14 : Value, v1 = x14 ∧
 (RUNA PG (Instr.alloc 26 true (.tuple #[])) w4 fun a6 w5 =>
 RUNU PG (storeVar 26 a6 x14) w5 fun w6 =>
 ∃ R : Int → World → Prop,
 (NEED (0 ≤ (0 : Int) ∧ (0 : Int) < ((4 : Nat) : Int))
 (RDI PG (loadVar 3 (Addr.add a6 (Int.toNat (0 : Int) * 1))) .i64 w6 fun x16 =>
 IFB (decide (x16 > (0 : Int)))
 (NEED (0 ≤ (3 : Int) ∧ (3 : Int) < ((4 : Nat) : Int))
 (RDI PG (loadVar 3 (Addr.add a6 (Int.toNat (3 : Int) * 1))) .i64 w6 fun x19 =>
 NEED (0 ≤ (0 : Int) ∧ (0 : Int) < ((4 : Nat) : Int))
 (RDI PG (loadVar 3 (Addr.add a6 (Int.toNat (0 : Int) * 1))) .i64 w6 fun x21 =>
 NEED (0 ≤ (0 : Int) ∧ (0 : Int) < ((4 : Nat) : Int))
 (RDI PG (loadVar 3 (Addr.add a6 (Int.toNat (0 : Int) * 1))) .i64 w6 fun x25 =>
 NEED (x25 ≠ 0)
 (LETI (IntKind.i64.wrap (Int.tdiv (IntKind.i64.wrap (x19 + (IntKind.i64.wrap ((1073741824 : Int) * x21)))) x25)) fun mean =>
 LETI (IntKind.i64.wrap (mean - (1073741824 : Int))) fun mean1 =>
 R mean1 w6)))))
 (R (0 : Int) w6))) ∧
 (∀ (mean2 : Int) (w7 : World), R mean2 w7 → (RDI PG (loadVar 3 (Addr.add a5 0)) .i64 w7 fun x30 =>
 NEED (0 ≤ (0 : Int) ∧ (0 : Int) < ((4 : Nat) : Int))
 (RDI PG (loadVar 3 (Addr.add a6 (Int.toNat (0 : Int) * 1))) .i64 w7 fun x32 =>
 IFB (x30 == x32)
 (RDI PG (loadVar 3 (Addr.add a5 1)) .i64 w7 fun x36 =>
 NEED (0 ≤ (1 : Int) ∧ (1 : Int) < ((4 : Nat) : Int))
 (RDI PG (loadVar 3 (Addr.add a6 (Int.toNat (1 : Int) * 1))) .i64 w7 fun x38 =>
 IFB (x36 == x38)
 (RDI PG (loadVar 3 (Addr.add a5 2)) .i64 w7 fun x43 =>
 NEED (0 ≤ (2 : Int) ∧ (2 : Int) < ((4 : Nat) : Int))
 (RDI PG (loadVar 3 (Addr.add a6 (Int.toNat (2 : Int) * 1))) .i64 w7 fun x45 =>
 IFB (x43 == x45)
 (RDI PG (loadVar 3 (Addr.add a5 3)) .i64 w7 fun x50 =>
 NEED (0 ≤ (3 : Int) ∧ (3 : Int) < ((4 : Nat) : Int))
 (RDI PG (loadVar 3 (Addr.add a6 (Int.toNat (3 : Int) * 1))) .i64 w7 fun x52 =>
 IFB (x50 == x52)
 (RD PG (loadVar 24 a5) w7 fun v2 =>
 ∃ x56 : Int, ∃ x56v1 : Int, ∃ x56v2 : Int, ∃ x56v3 : Int, v2 = (.agg #[(.int .i64 x56), (.int .i64 x56v1), (.int .i64 x56v2), (.int .i64 x56v3)]) ∧
 (CALL PG 8 [(.agg #[(.int .i64 x56), (.int .i64 x56v1), (.int .i64 x56v2), (.int .i64 x56v3)])] w7 fun v3 w8 =>
 ∃ x57 : Int, v3 = (.int .i64 x57) ∧
 (IFB (x57 == mean2)
 (CALL PG 9 [(.int .i64 part), (.slice l lN lC)] w8 fun v4 w9 =>
 ∃ x64 : Int, v4 = (.int .i64 x64) ∧
 (CALL PG 10 [(.int .i64 part), (.slice l lN lC)] w9 fun v5 w10 =>
 ∃ x67 : Int, v5 = (.int .i64 x67) ∧
 (IFB (x64 == x67)
 (CALL PG 11 [] w10 fun v6 w11 =>
 ∃ x71 : Bool, v6 = (.bool x71) ∧
 (LETB x71 fun x4 =>
 Q (.bool x4) w11))
 (LETB false fun x4v1 =>
 Q (.bool x4v1) w10))))
 (LETB false fun x4v2 =>
 Q (.bool x4v2) w8))))
 (LETB false fun x4v3 =>
 Q (.bool x4v3) w7)))
 (LETB false fun x4v4 =>
 Q (.bool x4v4) w7)))
 (LETB false fun x4v5 =>
 Q (.bool x4v5) w7)))
 (LETB false fun x4v6 =>
 Q (.bool x4v6) w7)))))))
theorem eq3 : ∀ (l : Option Addr) (lN lC : Nat) (part : Int) (w : World) (Q : Value → World → Prop), vcF PG TB Tryd.f3 (.s .nil (.s .nil (.s .nil (.s .nil (.s .nil (.cut [(7, 3)] .nil .nil)))))) [(.slice l lN lC), (.int .i64 part)] w Q = N3 l lN lC part w Q := by intros; kernel_rfl
theorem call3 {l : Option Addr} {lN lC : Nat} {part : Int} {w : World} {Q : Value → World → Prop} (hN : N3 l lN lC part w Q) : CALL PG 3 [(.slice l lN lC), (.int .i64 part)] w Q := calls_vc tabOk Tryd.func3 (by rw [eq3]; exact hN)

/-- brougham/broughamlaw37.ReportTables -/
def N4 (rows : Option Addr) (rowsN rowsC : Nat) (w : World) (Q : Value → World → Prop) : Prop :=
 IFB (decide ((rowsN : Int) > (30 : Int)))
 (Q (.bool true) w)
 (∃ I : Nat → Int → World → Prop,
 (∃ m, I m (0 : Int) w) ∧
 (∀ m1 (i : Int) (w1 : World), I m1 i w1 → (IFB (decide (i < (rowsN : Int)))
 (IDX rows rowsN i fun a16 =>
 RDL PG (loadVar 34 (Addr.add a16 (Int.toNat i * 1))) w1 fun x17 x17N x17C =>
 IFB (decide ((x17N : Int) > (20 : Int)))
 (Q (.bool true) w1)
 (∃ I1 : Nat → Int → World → Prop,
 (∃ m2, I1 m2 (0 : Int) w1) ∧
 (∀ m3 (k : Int) (w2 : World), I1 m3 k w2 → (IDX rows rowsN i fun a23 =>
 RDL PG (loadVar 34 (Addr.add a23 (Int.toNat i * 1))) w2 fun x24 x24N x24C =>
 IFB (decide (k < (x24N : Int)))
 (IDX rows rowsN i fun a31 =>
 RDL PG (loadVar 34 (Addr.add a31 (Int.toNat i * 1))) w2 fun x32 x32N x32C =>
 IDX x32 x32N k fun a34 =>
 RDT PG (loadVar 9 (Addr.add a34 (Int.toNat k * 1))) w2 fun x35 =>
 IFB (decide (((x35.size : Nat) : Int) > (100 : Int)))
 (Q (.bool true) w2)
 (LETI (IntKind.i64.wrap (k + (1 : Int))) fun k1 =>
 ∃ m4, m4 < m3 ∧ I1 m4 k1 w2))
 (LETI (IntKind.i64.wrap (i + (1 : Int))) fun i1 =>
 ∃ m5, m5 < m1 ∧ I m5 i1 w2)))))
 (CALL PG 12 [(.slice rows rowsN rowsC)] w1 fun v w3 =>
 ∃ x39 : ByteArray, v = (.string x39) ∧
 (CALL PG 13 [(.slice rows rowsN rowsC)] w3 fun v1 w4 =>
 ∃ x41 : ByteArray, v1 = (.string x41) ∧
 (IFB (x39.toList == x41.toList)
 (CALL PG 11 [] w4 fun v2 w5 =>
 ∃ x44 : Bool, v2 = (.bool x44) ∧
 (LETB x44 fun x2 =>
 Q (.bool x2) w5))
 (LETB false fun x2v1 =>
 Q (.bool x2v1) w4)))))))
theorem eq4 : ∀ (rows : Option Addr) (rowsN rowsC : Nat) (w : World) (Q : Value → World → Prop), vcF PG TB Tryd.f4 (.s .nil (.s .nil (.s (.s .nil (.u (.loop [(3, 3)] (.s .nil (.s (.u (.s .nil (.s .nil (.u (.loop [(4, 3)] .nil))))) .nil))))) .nil))) [(.slice rows rowsN rowsC)] w Q = N4 rows rowsN rowsC w Q := by intros; kernel_rfl
theorem call4 {rows : Option Addr} {rowsN rowsC : Nat} {w : World} {Q : Value → World → Prop} (hN : N4 rows rowsN rowsC w Q) : CALL PG 4 [(.slice rows rowsN rowsC)] w Q := calls_vc tabOk Tryd.func4 (by rw [eq4]; exact hN)

/-- brougham/broughamlaw37.alive -/
def N11  (w : World) (Q : Value → World → Prop) : Prop :=
 RUNL PG (Instr.buildSlice 22 2 #[(0, (.int .i64 (1 : Int))), (1, (.int .i64 (5 : Int)))]) w fun x1 x1N x1C w1 =>
 CALL PG 6 [(.slice x1 x1N x1C)] w1 fun v w2 =>
 ∃ x2 : Int, ∃ x2v1 : Int, ∃ x2v2 : Int, ∃ x2v3 : Int, v = (.agg #[(.int .i64 x2), (.int .i64 x2v1), (.int .i64 x2v2), (.int .i64 x2v3)]) ∧
 (CALL PG 8 [(.agg #[(.int .i64 x2), (.int .i64 x2v1), (.int .i64 x2v2), (.int .i64 x2v3)])] w2 fun v1 w3 =>
 ∃ x3 : Int, v1 = (.int .i64 x3) ∧
 (IFB (x3 == (3 : Int))
 (RUNL PG (Instr.buildSlice 22 2 #[(0, (.int .i64 (1 : Int))), (1, (.int .i64 (5 : Int)))]) w3 fun x6 x6N x6C w4 =>
 CALL PG 9 [(.int .i64 (50 : Int)), (.slice x6 x6N x6C)] w4 fun v2 w5 =>
 ∃ x7 : Int, v2 = (.int .i64 x7) ∧
 (IFB (x7 == (1 : Int))
 (RUNL PG (Instr.buildSlice 34 2 #[(0, (.string (ByteArray.mk #[97]))), (1, (.string (ByteArray.mk #[98])))]) w5 fun x11 x11N x11C w6 =>
 RUNL PG (Instr.buildSlice 33 1 #[(0, (.slice x11 x11N x11C))]) w6 fun x12 x12N x12C w7 =>
 CALL PG 12 [(.slice x12 x12N x12C)] w7 fun v3 w8 =>
 ∃ x13 : ByteArray, v3 = (.string x13) ∧
 (LETB (x13.toList == (ByteArray.mk #[97, 32, 32, 98, 10]).toList) fun x0 =>
 Q (.bool x0) w8))
 (LETB false fun x0v1 =>
 Q (.bool x0v1) w5)))
 (LETB false fun x0v2 =>
 Q (.bool x0v2) w3)))
theorem eq11 : ∀  (w : World) (Q : Value → World → Prop), vcF PG TB Tryd.f11 .nil [] w Q = N11  w Q := by intros; kernel_rfl
theorem call11  {w : World} {Q : Value → World → Prop} (hN : N11  w Q) : CALL PG 11 [] w Q := calls_vc tabOk Tryd.func11 (by rw [eq11]; exact hN)

end Go.Br
