/- What the code of some functions says, as the core reads it; each reading is checked by the kernel. -/
import Derived.Test.YtccmlfekmmeloaaBrSeat
set_option linter.unusedVariables false
set_option maxRecDepth 100000
namespace Go.Br
open Go Go.Proofs

/-- brougham/spans.New -/
def N81 (most : Int) (w : World) (Q : Value → World → Prop) : Prop :=
 RD PG (Instr.build 217 #[(0, (.int .i64 (minN (maxN most (1 : Int)) (64 : Int))))]) w fun v =>
 ∃ x6 : Int, ∃ (x6v1 : Option Addr) (x6N x6C : Nat), v = (.agg #[(.int .i64 x6), (.slice x6v1 x6N x6C)]) ∧
 (RUNA PG (Instr.box 217 (.agg #[(.int .i64 x6), (.slice x6v1 x6N x6C)])) w fun a7 w1 =>
 Q (.pointer (some a7)) w1)
theorem eq81 : ∀ (most : Int) (w : World) (Q : Value → World → Prop), vcF PG TB Try.f81 .nil [(.int .i64 most)] w Q = N81 most w Q := by intros; kernel_rfl
theorem call81 {most : Int} {w : World} {Q : Value → World → Prop} (hN : N81 most w Q) : CALL PG 81 [(.int .i64 most)] w Q := calls_vc tabOk Try.func81 (by rw [eq81]; exact hN)

/-- (*brougham/spans.Set).Run -/
def N87 (s : Option Addr) (fromv : Int) (w : World) (Q : Value → World → Prop) : Prop :=
 NILC s fun a8 =>
 RDL PG (loadVar 144 (Addr.add a8 1)) w fun x10 x10N x10C =>
 ∃ I : Nat → Int → World → Prop,
 (∃ m, I m (0 : Int) w) ∧
 (∀ m1 (x12 : Int) (w1 : World), I m1 x12 w1 → (IFB (decide (x12 < (x10N : Int)))
 (IDX x10 x10N x12 fun a14 =>
 RD PG (loadVar 148 (Addr.add a14 (Int.toNat x12 * 2))) w1 fun v =>
 ∃ x15 : Int, ∃ x15v1 : Int, v = (.agg #[(.int .u64 x15), (.int .u64 x15v1)]) ∧
 (RUNA PG (Instr.alloc 148 true (.tuple #[])) w1 fun a6 w2 =>
 RUNU PG (storeVar 148 a6 (.agg #[(.int .u64 x15), (.int .u64 x15v1)])) w2 fun w3 =>
 RDI PG (loadVar 42 (Addr.add a6 0)) .u64 w3 fun x17 =>
 IFB (decide (x17 ≤ fromv))
 (RDI PG (loadVar 42 (Addr.add a6 1)) .u64 w3 fun x23 =>
 IFB (decide (fromv < x23))
 (RDI PG (loadVar 42 (Addr.add a6 1)) .u64 w3 fun x27 =>
 LETI x27 fun x4 =>
 Q (.int .u64 x4) w3)
 (∃ m2, m2 < m1 ∧ I m2 (IntKind.i64.wrap (x12 + (1 : Int))) w3))
 (∃ m3, m3 < m1 ∧ I m3 (IntKind.i64.wrap (x12 + (1 : Int))) w3)))
 (LETI fromv fun x4v1 =>
 Q (.int .u64 x4v1) w1)))
theorem eq87 : ∀ (s : Option Addr) (fromv : Int) (w : World) (Q : Value → World → Prop), vcF PG TB Try.f87 (.s .nil (.s (.s .nil (.u (.loop [(12, 3)] .nil))) .nil)) [(.pointer s), (.int .u64 fromv)] w Q = N87 s fromv w Q := by intros; kernel_rfl
theorem call87 {s : Option Addr} {fromv : Int} {w : World} {Q : Value → World → Prop} (hN : N87 s fromv w Q) : CALL PG 87 [(.pointer s), (.int .u64 fromv)] w Q := calls_vc tabOk Try.func87 (by rw [eq87]; exact hN)

/-- (*brougham/spans.Set).find -/
def N118 (s : Option Addr) (x : Int) (w : World) (Q : Value → World → Prop) : Prop :=
 NILC s fun a9 =>
 RDL PG (loadVar 144 (Addr.add a9 1)) w fun x11 x11N x11C =>
 CALL PG 140 [(.slice x11 x11N x11C), (.int .u64 x), (.func (.func 141) #[] #[])] w fun v w1 =>
 ∃ x13 : Int, ∃ x13v1 : Bool, v = (.tuple #[(.int .i64 x13), (.bool x13v1)]) ∧
 (LETI x13 fun i =>
 LETB x13v1 fun x1 =>
 LETI i fun x4 =>
 Q (.int .i64 x4) w1)
theorem eq118 : ∀ (s : Option Addr) (x : Int) (w : World) (Q : Value → World → Prop), vcF PG TB Try.f118 .nil [(.pointer s), (.int .u64 x)] w Q = N118 s x w Q := by intros; kernel_rfl
theorem call118 {s : Option Addr} {x : Int} {w : World} {Q : Value → World → Prop} (hN : N118 s x w Q) : CALL PG 118 [(.pointer s), (.int .u64 x)] w Q := calls_vc tabOk Try.func118 (by rw [eq118]; exact hN)

/-- slices.BinarySearchFunc[[]brougham/spans.Span,brougham/spans.Span,uint64] -/
def N140 (x : Option Addr) (xN xC : Nat) (target : Int) (cmp : Value) (w : World) (Q : Value → World → Prop) : Prop :=
 LETI (xN : Int) fun n =>
 LETI n fun j =>
 ∃ I : Nat → Int → Int → World → Prop,
 (∃ m, I m (0 : Int) j w) ∧
 (∀ m1 (i : Int) (j1 : Int) (w1 : World), I m1 i j1 w1 → (IFB (decide (i < j1))
 (NEED (0 ≤ (1 : Int))
 (LETI (IntKind.i64.wrap (shrN .u64 (IntKind.u64.wrap (IntKind.i64.wrap (i + j1))) (1 : Int))) fun h =>
 IDX x xN h fun a27 =>
 RD PG (loadVar 148 (Addr.add a27 (Int.toNat h * 2))) w1 fun v =>
 ∃ x28 : Int, ∃ x28v1 : Int, v = (.agg #[(.int .u64 x28), (.int .u64 x28v1)]) ∧
 (CALLV PG cmp [(.agg #[(.int .u64 x28), (.int .u64 x28v1)]), (.int .u64 target)] w1 fun v1 w2 =>
 ∃ x30 : Int, v1 = (.int .i64 x30) ∧
 (IFB (decide (x30 < (0 : Int)))
 (LETI (IntKind.i64.wrap (h + (1 : Int))) fun i1 =>
 ∃ m2, m2 < m1 ∧ I m2 i1 j1 w2)
 (LETI h fun j2 =>
 ∃ m3, m3 < m1 ∧ I m3 i j2 w2)))))
 (IFB (decide (i < n))
 (IDX x xN i fun a43 =>
 RD PG (loadVar 148 (Addr.add a43 (Int.toNat i * 2))) w1 fun v2 =>
 ∃ x44 : Int, ∃ x44v1 : Int, v2 = (.agg #[(.int .u64 x44), (.int .u64 x44v1)]) ∧
 (CALLV PG cmp [(.agg #[(.int .u64 x44), (.int .u64 x44v1)]), (.int .u64 target)] w1 fun v3 w3 =>
 ∃ x46 : Int, v3 = (.int .i64 x46) ∧
 (LETI i fun x6 =>
 LETB (x46 == (0 : Int)) fun x7 =>
 Q (.tuple #[(.int .i64 x6), (.bool x7)]) w3)))
 (LETI i fun x6v1 =>
 LETB false fun x7v1 =>
 Q (.tuple #[(.int .i64 x6v1), (.bool x7v1)]) w1))))
theorem eq140 : ∀ (x : Option Addr) (xN xC : Nat) (target : Int) (cmp : Value) (w : World) (Q : Value → World → Prop), vcF PG TB Try.f140 (.s .nil (.s .nil (.s .nil (.s (.u (.loop [(9, 3), (10, 3)] .nil)) .nil)))) [(.slice x xN xC), (.int .u64 target), cmp] w Q = N140 x xN xC target cmp w Q := by intros; kernel_rfl
theorem call140 {x : Option Addr} {xN xC : Nat} {target : Int} {cmp : Value} {w : World} {Q : Value → World → Prop} (hN : N140 x xN xC target cmp w Q) : CALL PG 140 [(.slice x xN xC), (.int .u64 target), cmp] w Q := calls_vc tabOk Try.func140 (by rw [eq140]; exact hN)

/-- (*brougham/spans.Set).find$1 -/
def N141 (p : Int) (p1 : Int) (x : Int) (w : World) (Q : Value → World → Prop) : Prop :=
 RUNA PG (Instr.box 148 (.agg #[(.int .u64 p), (.int .u64 p1)])) w fun a2 w1 =>
 RDI PG (loadVar 42 (Addr.add a2 1)) .u64 w1 fun x6 =>
 IFB (decide (x6 < x))
 (Q (.int .i64 (-1 : Int)) w1)
 (Q (.int .i64 (1 : Int)) w1)
theorem eq141 : ∀ (p : Int) (p1 : Int) (x : Int) (w : World) (Q : Value → World → Prop), vcF PG TB Try.f141 .nil [(.agg #[(.int .u64 p), (.int .u64 p1)]), (.int .u64 x)] w Q = N141 p p1 x w Q := by intros; kernel_rfl
theorem call141 {p : Int} {p1 : Int} {x : Int} {w : World} {Q : Value → World → Prop} (hN : N141 p p1 x w Q) : CALL PG 141 [(.agg #[(.int .u64 p), (.int .u64 p1)]), (.int .u64 x)] w Q := calls_vc tabOk Try.func141 (by rw [eq141]; exact hN)

end Go.Br
