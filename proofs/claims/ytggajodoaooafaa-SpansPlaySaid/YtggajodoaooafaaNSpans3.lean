/- What the code of some functions says, as the core reads it; each reading is checked by the kernel. -/
import Derived.Test.YtggajodoaooafaaBrSeat
set_option linter.unusedVariables false
set_option maxRecDepth 100000
namespace Go.Br
open Go Go.Proofs

/-- (*brougham/spans.Set).Many -/
def N54 (s : Option Addr) (w : World) (Q : Value → World → Prop) : Prop :=
 NILC s fun a7 =>
 RDL PG (loadVar 119 (Addr.add a7 1)) w fun x9 x9N x9C =>
 ∃ I : Nat → Int → Int → World → Prop,
 (∃ m, I m (0 : Int) (0 : Int) w) ∧
 (∀ m1 (n : Int) (x11 : Int) (w1 : World), I m1 n x11 w1 → (IFB (decide (x11 < (x9N : Int)))
 (IDX x9 x9N x11 fun a13 =>
 RD PG (loadVar 122 (Addr.add a13 (Int.toNat x11 * 2))) w1 fun v =>
 ∃ x14 : Int, ∃ x14v1 : Int, v = (.agg #[(.int .u64 x14), (.int .u64 x14v1)]) ∧
 (RUNA PG (Instr.alloc 122 true (.tuple #[])) w1 fun a5 w2 =>
 RUNU PG (storeVar 122 a5 (.agg #[(.int .u64 x14), (.int .u64 x14v1)])) w2 fun w3 =>
 RDI PG (loadVar 56 (Addr.add a5 1)) .u64 w3 fun x17 =>
 RDI PG (loadVar 56 (Addr.add a5 0)) .u64 w3 fun x19 =>
 LETI (IntKind.u64.wrap (n + (IntKind.u64.wrap (x17 - x19)))) fun n1 =>
 ∃ m2, m2 < m1 ∧ I m2 n1 (IntKind.i64.wrap (x11 + (1 : Int))) w3))
 (LETI n fun x2 =>
 Q (.int .u64 x2) w1)))
theorem eq54 : ∀ (s : Option Addr) (w : World) (Q : Value → World → Prop), vcF PG TB Try.f54 (.s .nil (.s .nil (.s (.s .nil (.u (.loop [(3, 56), (11, 3)] .nil))) .nil))) [(.pointer s)] w Q = N54 s w Q := by intros; kernel_rfl
theorem call54 {s : Option Addr} {w : World} {Q : Value → World → Prop} (hN : N54 s w Q) : CALL PG 54 [(.pointer s)] w Q := calls_vc tabOk Try.func54 (by rw [eq54]; exact hN)

/-- (*brougham/spans.Set).Has -/
def N56 (s : Option Addr) (x : Int) (w : World) (Q : Value → World → Prop) : Prop :=
 CALL PG 67 [(.pointer s), (.int .u64 x)] w fun v w1 =>
 ∃ x7 : Int, v = (.int .u64 x7) ∧
 (LETB (decide (x7 > x)) fun x4 =>
 Q (.bool x4) w1)
theorem eq56 : ∀ (s : Option Addr) (x : Int) (w : World) (Q : Value → World → Prop), vcF PG TB Try.f56 .nil [(.pointer s), (.int .u64 x)] w Q = N56 s x w Q := by intros; kernel_rfl
theorem call56 {s : Option Addr} {x : Int} {w : World} {Q : Value → World → Prop} (hN : N56 s x w Q) : CALL PG 56 [(.pointer s), (.int .u64 x)] w Q := calls_vc tabOk Try.func56 (by rw [eq56]; exact hN)

/-- (*brougham/spans.Set).Covers -/
def N57 (s : Option Addr) (fromv : Int) (tov : Int) (w : World) (Q : Value → World → Prop) : Prop :=
 IFB (decide (fromv ≥ tov))
 (LETB true fun x6 =>
 Q (.bool x6) w)
 (CALL PG 67 [(.pointer s), (.int .u64 fromv)] w fun v w1 =>
 ∃ x13 : Int, v = (.int .u64 x13) ∧
 (LETB (decide (x13 ≥ tov)) fun x6v1 =>
 Q (.bool x6v1) w1))
theorem eq57 : ∀ (s : Option Addr) (fromv : Int) (tov : Int) (w : World) (Q : Value → World → Prop), vcF PG TB Try.f57 .nil [(.pointer s), (.int .u64 fromv), (.int .u64 tov)] w Q = N57 s fromv tov w Q := by intros; kernel_rfl
theorem call57 {s : Option Addr} {fromv : Int} {tov : Int} {w : World} {Q : Value → World → Prop} (hN : N57 s fromv tov w Q) : CALL PG 57 [(.pointer s), (.int .u64 fromv), (.int .u64 tov)] w Q := calls_vc tabOk Try.func57 (by rw [eq57]; exact hN)

/-- brougham/broughamlaw06.alive -/
def N58  (w : World) (Q : Value → World → Prop) : Prop :=
 CALL PG 52 [(.int .i64 (9 : Int))] w fun v w1 =>
 ∃ x3 : Option Addr, v = (.pointer x3) ∧
 (IFB (x3.isNone)
 (Q (.bool false) w1)
 (∃ R : Bool → World → Prop,
 (CALL PG 53 [(.pointer x3), (.int .u64 (1 : Int)), (.int .u64 (3 : Int))] w1 fun v1 w2 =>
 ∃ x7 : Bool, v1 = (.bool x7) ∧
 (IFB x7
 (CALL PG 53 [(.pointer x3), (.int .u64 (5 : Int)), (.int .u64 (6 : Int))] w2 fun v2 w3 =>
 ∃ x10 : Bool, v2 = (.bool x10) ∧
 (IFB x10
 (CALL PG 53 [(.pointer x3), (.int .u64 (3 : Int)), (.int .u64 (4 : Int))] w3 fun v3 w4 =>
 ∃ x14 : Bool, v3 = (.bool x14) ∧
 (LETB x14 fun okv =>
 R okv w4))
 (LETB false fun okv1 =>
 R okv1 w3)))
 (LETB false fun okv2 =>
 R okv2 w2))) ∧
 (∀ (okv3 : Bool) (w5 : World), R okv3 w5 → (IFB okv3
 (CALL PG 55 [(.pointer x3), (.int .u64 (0 : Int)), (.int .u64 (7 : Int))] w5 fun v4 w6 =>
 ∃ (x19 : Option Addr) (x19N x19C : Nat), v4 = (.slice x19 x19N x19C) ∧
 (CALL PG 64 [(.slice x19 x19N x19C)] w6 fun v5 w7 =>
 ∃ (x20 : Option Addr) (x20N x20C : Nat), v5 = (.slice x20 x20N x20C) ∧
 (RD PG (Instr.build 133 #[(0, (.int .u64 (0 : Int))), (1, (.int .u64 (1 : Int)))]) w7 fun v6 =>
 ∃ x21 : Int, ∃ x21v1 : Int, v6 = (.agg #[(.int .u64 x21), (.int .u64 x21v1)]) ∧
 (RD PG (Instr.build 133 #[(0, (.int .u64 (4 : Int))), (1, (.int .u64 (5 : Int)))]) w7 fun v7 =>
 ∃ x22 : Int, ∃ x22v1 : Int, v7 = (.agg #[(.int .u64 x22), (.int .u64 x22v1)]) ∧
 (RD PG (Instr.build 133 #[(0, (.int .u64 (6 : Int))), (1, (.int .u64 (7 : Int)))]) w7 fun v8 =>
 ∃ x23 : Int, ∃ x23v1 : Int, v8 = (.agg #[(.int .u64 x23), (.int .u64 x23v1)]) ∧
 (RUNL PG (Instr.buildSlice 125 3 #[(0, (.agg #[(.int .u64 x21), (.int .u64 x21v1)])), (1, (.agg #[(.int .u64 x22), (.int .u64 x22v1)])), (2, (.agg #[(.int .u64 x23), (.int .u64 x23v1)]))]) w7 fun x24 x24N x24C w8 =>
 CALL PG 63 [(.slice x20 x20N x20C), (.slice x24 x24N x24C)] w8 fun v9 w9 =>
 ∃ x25 : Bool, v9 = (.bool x25) ∧
 (IFB x25
 (CALL PG 54 [(.pointer x3)] w9 fun v10 w10 =>
 ∃ x29 : Int, v10 = (.int .u64 x29) ∧
 (IFB (x29 == (4 : Int))
 (CALL PG 56 [(.pointer x3), (.int .u64 (3 : Int))] w10 fun v11 w11 =>
 ∃ x34 : Bool, v11 = (.bool x34) ∧
 (IFB x34
 (CALL PG 56 [(.pointer x3), (.int .u64 (4 : Int))] w11 fun v12 w12 =>
 ∃ x38 : Bool, v12 = (.bool x38) ∧
 (LETB (!x38) fun x0 =>
 Q (.bool x0) w12))
 (LETB false fun x0v1 =>
 Q (.bool x0v1) w11)))
 (LETB false fun x0v2 =>
 Q (.bool x0v2) w10)))
 (LETB false fun x0v3 =>
 Q (.bool x0v3) w9))))))))
 (LETB false fun x0v4 =>
 Q (.bool x0v4) w5)))))
theorem eq58 : ∀  (w : World) (Q : Value → World → Prop), vcF PG TB Try.f58 (.s .nil (.s .nil (.s .nil (.cut [(2, 4)] .nil .nil)))) [] w Q = N58  w Q := by intros; kernel_rfl
theorem call58  {w : World} {Q : Value → World → Prop} (hN : N58  w Q) : CALL PG 58 [] w Q := calls_vc tabOk Try.func58 (by rw [eq58]; exact hN)

/-- brougham/broughamlaw06.most -/
def N62 (n : Int) (w : World) (Q : Value → World → Prop) : Prop :=
 IFB (decide (n < (1 : Int)))
 (Q (.int .i64 (1 : Int)) w)
 (IFB (decide (n > (64 : Int)))
 (Q (.int .i64 (64 : Int)) w)
 (LETI n fun x2 =>
 Q (.int .i64 x2) w))
theorem eq62 : ∀ (n : Int) (w : World) (Q : Value → World → Prop), vcF PG TB Try.f62 .nil [(.int .i64 n)] w Q = N62 n w Q := by intros; kernel_rfl
theorem call62 {n : Int} {w : World} {Q : Value → World → Prop} (hN : N62 n w Q) : CALL PG 62 [(.int .i64 n)] w Q := calls_vc tabOk Try.func62 (by rw [eq62]; exact hN)

/-- brougham/broughamref06.Same -/
def N63 (a : Option Addr) (aN aC : Nat) (b : Option Addr) (bN bC : Nat) (w : World) (Q : Value → World → Prop) : Prop :=
 IFB ((aN : Int) != (bN : Int))
 (Q (.bool false) w)
 (∃ I : Nat → Int → World → Prop,
 (∃ m, I m (0 : Int) w) ∧
 (∀ m1 (i : Int) (w1 : World), I m1 i w1 → (IFB (decide (i < (aN : Int)))
 (IDX a aN i fun a19 =>
 RD PG (loadVar 133 (Addr.add a19 (Int.toNat i * 2))) (w1.drew) fun v =>
 ∃ x20 : Int, ∃ x20v1 : Int, v = (.agg #[(.int .u64 x20), (.int .u64 x20v1)]) ∧
 (IDX b bN i fun a23 =>
 RD PG (loadVar 133 (Addr.add a23 (Int.toNat i * 2))) (w1.drew) fun v1 =>
 ∃ x24 : Int, ∃ x24v1 : Int, v1 = (.agg #[(.int .u64 x24), (.int .u64 x24v1)]) ∧
 (RDB PG (do eqGuard .neq 133 (.tmp 20) (.tmp 24) (.agg #[(.int .u64 x20), (.int .u64 x20v1)]) (.agg #[(.int .u64 x24), (.int .u64 x24v1)]); binOp .neq 133 (.agg #[(.int .u64 x20), (.int .u64 x20v1)]) (.agg #[(.int .u64 x24), (.int .u64 x24v1)])) (w1.drew) fun x25 =>
 IFB x25
 (Q (.bool false) (w1.drew))
 (LETI (IntKind.i64.wrap (i + (1 : Int))) fun i1 =>
 ∃ m2, m2 < m1 ∧ I m2 i1 (w1.drew)))))
 (Q (.bool true) w1))))
theorem eq63 : ∀ (a : Option Addr) (aN aC : Nat) (b : Option Addr) (bN bC : Nat) (w : World) (Q : Value → World → Prop), vcF PG TB Try.f63 (.s .nil (.s .nil (.s (.s .nil (.u (.loop [(5, 3)] .nil))) .nil))) [(.slice a aN aC), (.slice b bN bC)] w Q = N63 a aN aC b bN bC w Q := by intros; kernel_rfl
theorem call63 {a : Option Addr} {aN aC : Nat} {b : Option Addr} {bN bC : Nat} {w : World} {Q : Value → World → Prop} (hN : N63 a aN aC b bN bC w Q) : CALL PG 63 [(.slice a aN aC), (.slice b bN bC)] w Q := calls_vc tabOk Try.func63 (by rw [eq63]; exact hN)

/-- brougham/broughamlaw06.Plain -/
def N64 (l : Option Addr) (lN lC : Nat) (w : World) (Q : Value → World → Prop) : Prop :=
 ∃ I : Nat → Option Addr → Nat → Nat → Int → World → Prop,
 (∃ m, I m none 0 0 (0 : Int) w) ∧
 (∀ m1 (out : Option Addr) (outN outC : Nat) (i : Int) (w1 : World), I m1 out outN outC i w1 → (IFB (decide (i < (lN : Int)))
 (IDX l lN i fun a14 =>
 RDI PG (loadVar 56 (Addr.add (Addr.add a14 (Int.toNat i * 2)) 0)) .u64 (w1.drew) fun x16 =>
 IDX l lN i fun a19 =>
 RDI PG (loadVar 56 (Addr.add (Addr.add a19 (Int.toNat i * 2)) 1)) .u64 (w1.drew) fun x21 =>
 RD PG (Instr.build 133 #[(0, (.int .u64 x16)), (1, (.int .u64 x21))]) (w1.drew) fun v =>
 ∃ x22 : Int, ∃ x22v1 : Int, v = (.agg #[(.int .u64 x22), (.int .u64 x22v1)]) ∧
 (RUNL PG (Instr.buildSlice 125 1 #[(0, (.agg #[(.int .u64 x22), (.int .u64 x22v1)]))]) (w1.drew) fun x23 x23N x23C w2 =>
 RUNL PG (Builtin.append_ #[125, 125] 125 #[(.slice out outN outC), (.slice x23 x23N x23C)]) w2 fun x24 x24N x24C w3 =>
 LETI (IntKind.i64.wrap (i + (1 : Int))) fun i1 =>
 ∃ m2, m2 < m1 ∧ I m2 x24 x24N x24C i1 w3))
 (Q (.slice out outN outC) w1)))
theorem eq64 : ∀ (l : Option Addr) (lN lC : Nat) (w : World) (Q : Value → World → Prop), vcF PG TB Try.f64 (.s .nil (.s .nil (.s (.s .nil (.u (.loop [(3, 125), (4, 3)] .nil))) .nil))) [(.slice l lN lC)] w Q = N64 l lN lC w Q := by intros; kernel_rfl
theorem call64 {l : Option Addr} {lN lC : Nat} {w : World} {Q : Value → World → Prop} (hN : N64 l lN lC w Q) : CALL PG 64 [(.slice l lN lC)] w Q := calls_vc tabOk Try.func64 (by rw [eq64]; exact hN)

end Go.Br
