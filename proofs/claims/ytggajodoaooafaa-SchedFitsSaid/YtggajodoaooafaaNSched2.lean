/- What the code of some functions says, as the core reads it; each reading is checked by the kernel. -/
import Derived.Test.YtggajodoaooafaaBrSeat
set_option linter.unusedVariables false
set_option maxRecDepth 100000
namespace Go.Br
open Go Go.Proofs

/-- brougham/sched.Choose -/
def N48 (policy : Int) (last : Int) (n : Int) (l : Option Addr) (lN lC : Nat) (w : World) (Q : Value → World → Prop) : Prop :=
 CALL PG 43 [(.int .i64 policy), (.int .i64 last), (.int .i64 n), (.slice l lN lC)] w fun v w1 =>
 ∃ (x18 : Option Addr) (x18N x18C : Nat), v = (.slice x18 x18N x18C) ∧
 (IFB ((x18N : Int) == (0 : Int))
 (Q (.slice none 0 0) w1)
 (IFB (policy != (3 : Int))
 (RDL PG (Instr.sliceAt 95 (.slice x18 x18N x18C) none (some (.int .i64 (1 : Int))) (some (.int .i64 (1 : Int)))) w1 fun x25 x25N x25C =>
 Q (.slice x25 x25N x25C) w1)
 (IDX x18 x18N (0 : Int) fun a27 =>
 RDI PG (loadVar 3 (Addr.add a27 (Int.toNat (0 : Int) * 1))) .i64 w1 fun x28 =>
 CALL PG 95 [(.int .i64 x28), (.slice l lN lC)] w1 fun v1 w2 =>
 ∃ x30 : Int, v1 = (.int .i64 x30) ∧
 (LETI x30 fun best =>
 ∃ I : Nat → Option Addr → Nat → Nat → Int → World → Prop,
 (∃ m, I m none 0 0 (0 : Int) w2) ∧
 (∀ m1 (out : Option Addr) (outN outC : Nat) (x33 : Int) (w3 : World), I m1 out outN outC x33 w3 → (IFB (decide (x33 < (x18N : Int)))
 (IDX x18 x18N x33 fun a35 =>
 RDI PG (loadVar 3 (Addr.add a35 (Int.toNat x33 * 1))) .i64 w3 fun x36 =>
 LETI x36 fun id =>
 CALL PG 95 [(.int .i64 id), (.slice l lN lC)] w3 fun v2 w4 =>
 ∃ x39 : Int, v2 = (.int .i64 x39) ∧
 (IFB (x39 == best)
 (RUNL PG (Instr.buildSlice 95 1 #[(0, (.int .i64 id))]) w4 fun x44 x44N x44C w5 =>
 RUNL PG (Builtin.append_ #[95, 95] 95 #[(.slice out outN outC), (.slice x44 x44N x44C)]) w5 fun x45 x45N x45C w6 =>
 ∃ m2, m2 < m1 ∧ I m2 x45 x45N x45C (IntKind.i64.wrap (x33 + (1 : Int))) w6)
 (∃ m3, m3 < m1 ∧ I m3 out outN outC (IntKind.i64.wrap (x33 + (1 : Int))) w4)))
 (Q (.slice out outN outC) w3)))))))
theorem eq48 : ∀ (policy : Int) (last : Int) (n : Int) (l : Option Addr) (lN lC : Nat) (w : World) (Q : Value → World → Prop), vcF PG TB Try.f48 (.s .nil (.s .nil (.s .nil (.s .nil (.s .nil (.s .nil (.s (.s .nil (.u (.loop [(10, 95), (33, 3)] .nil))) .nil))))))) [(.int .i64 policy), (.int .i64 last), (.int .i64 n), (.slice l lN lC)] w Q = N48 policy last n l lN lC w Q := by intros; kernel_rfl
theorem call48 {policy : Int} {last : Int} {n : Int} {l : Option Addr} {lN lC : Nat} {w : World} {Q : Value → World → Prop} (hN : N48 policy last n l lN lC w Q) : CALL PG 48 [(.int .i64 policy), (.int .i64 last), (.int .i64 n), (.slice l lN lC)] w Q := calls_vc tabOk Try.func48 (by rw [eq48]; exact hN)

/-- brougham/sched.rankOf -/
def N95 (id : Int) (l : Option Addr) (lN lC : Nat) (w : World) (Q : Value → World → Prop) : Prop :=
 ∃ I : Nat → Int → World → Prop,
 (∃ m, I m (0 : Int) w) ∧
 (∀ m1 (x9 : Int) (w1 : World), I m1 x9 w1 → (IFB (decide (x9 < (lN : Int)))
 (IDX l lN x9 fun a11 =>
 RD PG (loadVar 103 (Addr.add a11 (Int.toNat x9 * 7))) w1 fun v =>
 ∃ x12 : Int, ∃ x12v1 : Bool, ∃ x12v2 : Bool, ∃ x12v3 : Bool, ∃ x12v4 : Int, ∃ x12v5 : Int, ∃ x12v6 : Int, v = (.agg #[(.int .i64 x12), (.bool x12v1), (.bool x12v2), (.bool x12v3), (.int .i64 x12v4), (.int .i64 x12v5), (.int .i64 x12v6)]) ∧
 (RUNA PG (Instr.alloc 103 true (.tuple #[])) w1 fun a6 w2 =>
 RUNU PG (storeVar 103 a6 (.agg #[(.int .i64 x12), (.bool x12v1), (.bool x12v2), (.bool x12v3), (.int .i64 x12v4), (.int .i64 x12v5), (.int .i64 x12v6)])) w2 fun w3 =>
 RDI PG (loadVar 3 (Addr.add a6 0)) .i64 w3 fun x14 =>
 IFB (x14 == id)
 (RD PG (loadVar 103 a6) w3 fun v1 =>
 ∃ x17 : Int, ∃ x17v1 : Bool, ∃ x17v2 : Bool, ∃ x17v3 : Bool, ∃ x17v4 : Int, ∃ x17v5 : Int, ∃ x17v6 : Int, v1 = (.agg #[(.int .i64 x17), (.bool x17v1), (.bool x17v2), (.bool x17v3), (.int .i64 x17v4), (.int .i64 x17v5), (.int .i64 x17v6)]) ∧
 (CALL PG 91 [(.agg #[(.int .i64 x17), (.bool x17v1), (.bool x17v2), (.bool x17v3), (.int .i64 x17v4), (.int .i64 x17v5), (.int .i64 x17v6)])] w3 fun v2 w4 =>
 ∃ x18 : Int, v2 = (.int .i64 x18) ∧
 (LETI x18 fun x4 =>
 Q (.int .i64 x4) w4)))
 (∃ m2, m2 < m1 ∧ I m2 (IntKind.i64.wrap (x9 + (1 : Int))) w3)))
 (Q (.int .i64 (0 : Int)) w1)))
theorem eq95 : ∀ (id : Int) (l : Option Addr) (lN lC : Nat) (w : World) (Q : Value → World → Prop), vcF PG TB Try.f95 (.s .nil (.s (.s .nil (.u (.loop [(9, 3)] .nil))) .nil)) [(.int .i64 id), (.slice l lN lC)] w Q = N95 id l lN lC w Q := by intros; kernel_rfl
theorem call95 {id : Int} {l : Option Addr} {lN lC : Nat} {w : World} {Q : Value → World → Prop} (hN : N95 id l lN lC w Q) : CALL PG 95 [(.int .i64 id), (.slice l lN lC)] w Q := calls_vc tabOk Try.func95 (by rw [eq95]; exact hN)

/-- brougham/broughamref19.rank -/
def N96 (p : Int) (p1 : Bool) (p2 : Bool) (p3 : Bool) (p4 : Int) (p5 : Int) (p6 : Int) (w : World) (Q : Value → World → Prop) : Prop :=
 RUNA PG (Instr.box 184 (.agg #[(.int .i64 p), (.bool p1), (.bool p2), (.bool p3), (.int .i64 p4), (.int .i64 p5), (.int .i64 p6)])) w fun a1 w1 =>
 RDB PG (loadVar 4 (Addr.add a1 2)) w1 fun x5 =>
 IFB x5
 (RDB PG (loadVar 4 (Addr.add a1 3)) w1 fun x7 =>
 IFB x7
 (LETI (IntKind.i64.wrap ((1 : Int) + (2 : Int))) fun n =>
 LETI n fun x2 =>
 Q (.int .i64 x2) w1)
 (LETI (1 : Int) fun x2v1 =>
 Q (.int .i64 x2v1) w1))
 (RDB PG (loadVar 4 (Addr.add a1 3)) w1 fun x7v1 =>
 IFB x7v1
 (LETI (IntKind.i64.wrap ((0 : Int) + (2 : Int))) fun n1 =>
 LETI n1 fun x2v2 =>
 Q (.int .i64 x2v2) w1)
 (LETI (0 : Int) fun x2v3 =>
 Q (.int .i64 x2v3) w1))
theorem eq96 : ∀ (p : Int) (p1 : Bool) (p2 : Bool) (p3 : Bool) (p4 : Int) (p5 : Int) (p6 : Int) (w : World) (Q : Value → World → Prop), vcF PG TB Try.f96 .nil [(.agg #[(.int .i64 p), (.bool p1), (.bool p2), (.bool p3), (.int .i64 p4), (.int .i64 p5), (.int .i64 p6)])] w Q = N96 p p1 p2 p3 p4 p5 p6 w Q := by intros; kernel_rfl
theorem call96 {p : Int} {p1 : Bool} {p2 : Bool} {p3 : Bool} {p4 : Int} {p5 : Int} {p6 : Int} {w : World} {Q : Value → World → Prop} (hN : N96 p p1 p2 p3 p4 p5 p6 w Q) : CALL PG 96 [(.agg #[(.int .i64 p), (.bool p1), (.bool p2), (.bool p3), (.int .i64 p4), (.int .i64 p5), (.int .i64 p6)])] w Q := calls_vc tabOk Try.func96 (by rw [eq96]; exact hN)

/-- brougham/broughamref19.ahead -/
def N124 (a : Int) (a1 : Bool) (a2 : Bool) (a3 : Bool) (a4 : Int) (a5 : Int) (a6 : Int) (b : Int) (b1 : Bool) (b2 : Bool) (b3 : Bool) (b4 : Int) (b5 : Int) (b6 : Int) (policy : Int) (last : Int) (w : World) (Q : Value → World → Prop) : Prop :=
 RUNA PG (Instr.box 184 (.agg #[(.int .i64 a), (.bool a1), (.bool a2), (.bool a3), (.int .i64 a4), (.int .i64 a5), (.int .i64 a6)])) w fun a4v1 w1 =>
 RUNA PG (Instr.box 184 (.agg #[(.int .i64 b), (.bool b1), (.bool b2), (.bool b3), (.int .i64 b4), (.int .i64 b5), (.int .i64 b6)])) w1 fun a5v1 w2 =>
 ∃ S : World → Prop, S (w2.drew) ∧
 (RDS PG (loadVar 184 a4v1) S fun v =>
 ∃ x9 : Int, ∃ x9v1 : Bool, ∃ x9v2 : Bool, ∃ x9v3 : Bool, ∃ x9v4 : Int, ∃ x9v5 : Int, ∃ x9v6 : Int, v = (.agg #[(.int .i64 x9), (.bool x9v1), (.bool x9v2), (.bool x9v3), (.int .i64 x9v4), (.int .i64 x9v5), (.int .i64 x9v6)]) ∧
 (RDS PG (loadVar 184 a5v1) S fun v1 =>
 ∃ x11 : Int, ∃ x11v1 : Bool, ∃ x11v2 : Bool, ∃ x11v3 : Bool, ∃ x11v4 : Int, ∃ x11v5 : Int, ∃ x11v6 : Int, v1 = (.agg #[(.int .i64 x11), (.bool x11v1), (.bool x11v2), (.bool x11v3), (.int .i64 x11v4), (.int .i64 x11v5), (.int .i64 x11v6)]) ∧
 (CALL PG 96 [(.agg #[(.int .i64 x9), (.bool x9v1), (.bool x9v2), (.bool x9v3), (.int .i64 x9v4), (.int .i64 x9v5), (.int .i64 x9v6)])] (w2.drew) fun v2 w3 =>
 ∃ x10 : Int, v2 = (.int .i64 x10) ∧
 (∃ S1 : World → Prop, (∀ x, S1 x → S x) ∧ S1 w3 ∧
 (CALL PG 96 [(.agg #[(.int .i64 x11), (.bool x11v1), (.bool x11v2), (.bool x11v3), (.int .i64 x11v4), (.int .i64 x11v5), (.int .i64 x11v6)])] w3 fun v3 w4 =>
 ∃ x12 : Int, v3 = (.int .i64 x12) ∧
 (IFB (x10 != x12)
 (∃ S2 : World → Prop, S2 (w4.drew) ∧
 (RDS PG (loadVar 184 a4v1) S2 fun v4 =>
 ∃ x14 : Int, ∃ x14v1 : Bool, ∃ x14v2 : Bool, ∃ x14v3 : Bool, ∃ x14v4 : Int, ∃ x14v5 : Int, ∃ x14v6 : Int, v4 = (.agg #[(.int .i64 x14), (.bool x14v1), (.bool x14v2), (.bool x14v3), (.int .i64 x14v4), (.int .i64 x14v5), (.int .i64 x14v6)]) ∧
 (RDS PG (loadVar 184 a5v1) S2 fun v5 =>
 ∃ x16 : Int, ∃ x16v1 : Bool, ∃ x16v2 : Bool, ∃ x16v3 : Bool, ∃ x16v4 : Int, ∃ x16v5 : Int, ∃ x16v6 : Int, v5 = (.agg #[(.int .i64 x16), (.bool x16v1), (.bool x16v2), (.bool x16v3), (.int .i64 x16v4), (.int .i64 x16v5), (.int .i64 x16v6)]) ∧
 (CALL PG 96 [(.agg #[(.int .i64 x14), (.bool x14v1), (.bool x14v2), (.bool x14v3), (.int .i64 x14v4), (.int .i64 x14v5), (.int .i64 x14v6)])] (w4.drew) fun v6 w5 =>
 ∃ x15 : Int, v6 = (.int .i64 x15) ∧
 (∃ S3 : World → Prop, (∀ x, S3 x → S2 x) ∧ S3 w5 ∧
 (CALL PG 96 [(.agg #[(.int .i64 x16), (.bool x16v1), (.bool x16v2), (.bool x16v3), (.int .i64 x16v4), (.int .i64 x16v5), (.int .i64 x16v6)])] w5 fun v7 w6 =>
 ∃ x17 : Int, v7 = (.int .i64 x17) ∧
 (LETB (decide (x15 < x17)) fun x8 =>
 Q (.bool x8) w6)))))))
 (∃ R : World → Prop,
 (IFB (policy == (2 : Int))
 (RDI PG (loadVar 3 (Addr.add a4v1 0)) .i64 w4 fun x23 =>
 RDI PG (loadVar 3 (Addr.add a5v1 0)) .i64 w4 fun x27 =>
 IFB (!((decide (x23 > last)) == (decide (x27 > last))))
 (RDI PG (loadVar 3 (Addr.add a4v1 0)) .i64 w4 fun x33 =>
 LETB (decide (x33 > last)) fun x8v1 =>
 Q (.bool x8v1) w4)
 (R w4))
 (R w4)) ∧
 (∀  (w7 : World), R w7 → (IFB (policy != (2 : Int))
 (RDI PG (loadVar 3 (Addr.add a4v1 6)) .i64 w7 fun x40 =>
 RDI PG (loadVar 3 (Addr.add a5v1 6)) .i64 w7 fun x42 =>
 IFB (x40 != x42)
 (RDI PG (loadVar 3 (Addr.add a4v1 6)) .i64 w7 fun x46 =>
 RDI PG (loadVar 3 (Addr.add a5v1 6)) .i64 w7 fun x48 =>
 LETB (decide (x46 < x48)) fun x8v2 =>
 Q (.bool x8v2) w7)
 (RDI PG (loadVar 3 (Addr.add a4v1 0)) .i64 w7 fun x51 =>
 RDI PG (loadVar 3 (Addr.add a5v1 0)) .i64 w7 fun x53 =>
 LETB (decide (x51 < x53)) fun x8v3 =>
 Q (.bool x8v3) w7))
 (RDI PG (loadVar 3 (Addr.add a4v1 0)) .i64 w7 fun x51v1 =>
 RDI PG (loadVar 3 (Addr.add a5v1 0)) .i64 w7 fun x53v1 =>
 LETB (decide (x51v1 < x53v1)) fun x8v4 =>
 Q (.bool x8v4) w7))))))))))
theorem eq124 : ∀ (a : Int) (a1 : Bool) (a2 : Bool) (a3 : Bool) (a4 : Int) (a5 : Int) (a6 : Int) (b : Int) (b1 : Bool) (b2 : Bool) (b3 : Bool) (b4 : Int) (b5 : Int) (b6 : Int) (policy : Int) (last : Int) (w : World) (Q : Value → World → Prop), vcF PG TB Try.f124 (.s .nil (.s .nil (.cut [] .nil .nil))) [(.agg #[(.int .i64 a), (.bool a1), (.bool a2), (.bool a3), (.int .i64 a4), (.int .i64 a5), (.int .i64 a6)]), (.agg #[(.int .i64 b), (.bool b1), (.bool b2), (.bool b3), (.int .i64 b4), (.int .i64 b5), (.int .i64 b6)]), (.int .i64 policy), (.int .i64 last)] w Q = N124 a a1 a2 a3 a4 a5 a6 b b1 b2 b3 b4 b5 b6 policy last w Q := by intros; kernel_rfl
theorem call124 {a : Int} {a1 : Bool} {a2 : Bool} {a3 : Bool} {a4 : Int} {a5 : Int} {a6 : Int} {b : Int} {b1 : Bool} {b2 : Bool} {b3 : Bool} {b4 : Int} {b5 : Int} {b6 : Int} {policy : Int} {last : Int} {w : World} {Q : Value → World → Prop} (hN : N124 a a1 a2 a3 a4 a5 a6 b b1 b2 b3 b4 b5 b6 policy last w Q) : CALL PG 124 [(.agg #[(.int .i64 a), (.bool a1), (.bool a2), (.bool a3), (.int .i64 a4), (.int .i64 a5), (.int .i64 a6)]), (.agg #[(.int .i64 b), (.bool b1), (.bool b2), (.bool b3), (.int .i64 b4), (.int .i64 b5), (.int .i64 b6)]), (.int .i64 policy), (.int .i64 last)] w Q := calls_vc tabOk Try.func124 (by rw [eq124]; exact hN)

end Go.Br
