/- What the code of some functions says, as the core reads it; each reading is checked by the kernel. -/
import Derived.Test.YtegocoicdcpgaaaBrSeat
set_option linter.unusedVariables false
set_option maxRecDepth 100000
namespace Go.Br
open Go Go.Proofs

/-- brougham/hist.Row -/
def N25 (n : Int) (w : World) (Q : Value → World → Prop) : Prop :=
 LETI (minN (maxN n (0 : Int)) (2147483647 : Int)) fun n1 =>
 IFB (decide (n1 < (4 : Int)))
 (LETI n1 fun x2 =>
 Q (.int .i64 x2) w)
 (CALL PG 86 [(.int .u64 (IntKind.u64.wrap n1))] w fun v w1 =>
 ∃ x12 : Int, v = (.int .i64 x12) ∧
 (LETI (IntKind.i64.wrap (x12 - (3 : Int))) fun k =>
 NEED (0 ≤ k)
 (LETI (IntKind.i64.wrap ((IntKind.i64.wrap ((IntKind.i64.wrap ((4 : Int) * (IntKind.i64.wrap (k + (1 : Int))))) + (shrN .i64 n1 k))) - (4 : Int))) fun x2v1 =>
 Q (.int .i64 x2v1) w1)))
theorem eq25 : ∀ (n : Int) (w : World) (Q : Value → World → Prop), vcF PG TB Try.f25 .nil [(.int .i64 n)] w Q = N25 n w Q := by intros; kernel_rfl
theorem call25 {n : Int} {w : World} {Q : Value → World → Prop} (hN : N25 n w Q) : CALL PG 25 [(.int .i64 n)] w Q := calls_vc tabOk Try.func25 (by rw [eq25]; exact hN)

/-- brougham/broughamref44.Row -/
def N26 (n : Int) (w : World) (Q : Value → World → Prop) : Prop :=
 ∃ I : Nat → Int → Int → World → Prop,
 (∃ m, I m (0 : Int) (1 : Int) w) ∧
 (∀ m1 (r : Int) (least : Int) (w1 : World), I m1 r least w1 → (IFB (decide (r < (119 : Int)))
 (CALL PG 87 [(.int .i64 n)] w1 fun v w2 =>
 ∃ x10 : Int, v = (.int .i64 x10) ∧
 (IFB (decide (least ≤ x10))
 (LETI (IntKind.i64.wrap (r + (1 : Int))) fun r1 =>
 CALL PG 88 [(.int .i64 r1)] w2 fun v1 w3 =>
 ∃ x17 : Int, v1 = (.int .i64 x17) ∧
 (LETI (IntKind.i64.wrap (least + x17)) fun least1 =>
 ∃ m2, m2 < m1 ∧ I m2 r1 least1 w3))
 (LETI r fun x2 =>
 Q (.int .i64 x2) w2)))
 (LETI r fun x2v1 =>
 Q (.int .i64 x2v1) w1)))
theorem eq26 : ∀ (n : Int) (w : World) (Q : Value → World → Prop), vcF PG TB Try.f26 (.s .nil (.s .nil (.s (.u (.loop [(3, 3), (4, 3)] .nil)) .nil))) [(.int .i64 n)] w Q = N26 n w Q := by intros; kernel_rfl
theorem call26 {n : Int} {w : World} {Q : Value → World → Prop} (hN : N26 n w Q) : CALL PG 26 [(.int .i64 n)] w Q := calls_vc tabOk Try.func26 (by rw [eq26]; exact hN)

/-- brougham/hist.Least -/
def N27 (row : Int) (w : World) (Q : Value → World → Prop) : Prop :=
 LETI (minN (maxN row (0 : Int)) (120 : Int)) fun row1 =>
 IFB (decide (row1 < (4 : Int)))
 (LETI row1 fun x2 =>
 Q (.int .i64 x2) w)
 (NEED ((4 : Int) ≠ 0)
 (LETI (IntKind.i64.wrap ((IntKind.i64.wrap (Int.tdiv row1 (4 : Int))) - (1 : Int))) fun k =>
 NEED ((4 : Int) ≠ 0)
 (NEED (0 ≤ k)
 (LETI (shlN .i64 (IntKind.i64.wrap ((4 : Int) + (Int.tmod row1 (4 : Int)))) k) fun x2v1 =>
 Q (.int .i64 x2v1) w))))
theorem eq27 : ∀ (row : Int) (w : World) (Q : Value → World → Prop), vcF PG TB Try.f27 .nil [(.int .i64 row)] w Q = N27 row w Q := by intros; kernel_rfl
theorem call27 {row : Int} {w : World} {Q : Value → World → Prop} (hN : N27 row w Q) : CALL PG 27 [(.int .i64 row)] w Q := calls_vc tabOk Try.func27 (by rw [eq27]; exact hN)

/-- brougham/broughamref44.Least -/
def N28 (row : Int) (w : World) (Q : Value → World → Prop) : Prop :=
 ∃ I : Nat → Int → Int → World → Prop,
 (∃ m, I m (0 : Int) (0 : Int) w) ∧
 (∀ m1 (n : Int) (r : Int) (w1 : World), I m1 n r w1 → (IFB (decide (r < row))
 (IFB (decide (r < (120 : Int)))
 (CALL PG 88 [(.int .i64 r)] w1 fun v w2 =>
 ∃ x16 : Int, v = (.int .i64 x16) ∧
 (LETI (IntKind.i64.wrap (n + x16)) fun n1 =>
 LETI (IntKind.i64.wrap (r + (1 : Int))) fun r1 =>
 ∃ m2, m2 < m1 ∧ I m2 n1 r1 w2))
 (LETI n fun x2 =>
 Q (.int .i64 x2) w1))
 (LETI n fun x2v1 =>
 Q (.int .i64 x2v1) w1)))
theorem eq28 : ∀ (row : Int) (w : World) (Q : Value → World → Prop), vcF PG TB Try.f28 (.s .nil (.s .nil (.s (.s .nil (.u (.loop [(3, 3), (4, 3)] .nil))) .nil))) [(.int .i64 row)] w Q = N28 row w Q := by intros; kernel_rfl
theorem call28 {row : Int} {w : World} {Q : Value → World → Prop} (hN : N28 row w Q) : CALL PG 28 [(.int .i64 row)] w Q := calls_vc tabOk Try.func28 (by rw [eq28]; exact hN)

/-- math/bits.Len -/
def N86 (x : Int) (w : World) (Q : Value → World → Prop) : Prop :=
 CALL PG 118 [(.int .u64 x)] w fun v w1 =>
 ∃ x7 : Int, v = (.int .i64 x7) ∧
 (LETI x7 fun x2 =>
 Q (.int .i64 x2) w1)
theorem eq86 : ∀ (x : Int) (w : World) (Q : Value → World → Prop), vcF PG TB Try.f86 .nil [(.int .u64 x)] w Q = N86 x w Q := by intros; kernel_rfl
theorem call86 {x : Int} {w : World} {Q : Value → World → Prop} (hN : N86 x w Q) : CALL PG 86 [(.int .u64 x)] w Q := calls_vc tabOk Try.func86 (by rw [eq86]; exact hN)

/-- brougham/broughamref44.within -/
def N87 (n : Int) (w : World) (Q : Value → World → Prop) : Prop :=
 IFB (decide (n < (0 : Int)))
 (Q (.int .i64 (0 : Int)) w)
 (IFB (decide (n > (2147483647 : Int)))
 (Q (.int .i64 (2147483647 : Int)) w)
 (LETI n fun x2 =>
 Q (.int .i64 x2) w))
theorem eq87 : ∀ (n : Int) (w : World) (Q : Value → World → Prop), vcF PG TB Try.f87 .nil [(.int .i64 n)] w Q = N87 n w Q := by intros; kernel_rfl
theorem call87 {n : Int} {w : World} {Q : Value → World → Prop} (hN : N87 n w Q) : CALL PG 87 [(.int .i64 n)] w Q := calls_vc tabOk Try.func87 (by rw [eq87]; exact hN)

/-- brougham/broughamref44.wide -/
def N88 (row : Int) (w : World) (Q : Value → World → Prop) : Prop :=
 ∃ I : Nat → Int → Int → World → Prop,
 (∃ m, I m (1 : Int) (8 : Int) w) ∧
 (∀ m1 (n : Int) (k : Int) (w1 : World), I m1 n k w1 → (IFB (decide (k ≤ row))
 (LETI (IntKind.i64.wrap (n * (2 : Int))) fun n1 =>
 LETI (IntKind.i64.wrap (k + (4 : Int))) fun k1 =>
 ∃ m2, m2 < m1 ∧ I m2 n1 k1 w1)
 (LETI n fun x2 =>
 Q (.int .i64 x2) w1)))
theorem eq88 : ∀ (row : Int) (w : World) (Q : Value → World → Prop), vcF PG TB Try.f88 (.s .nil (.s .nil (.s (.s .nil (.u (.loop [(3, 3), (4, 3)] .nil))) .nil))) [(.int .i64 row)] w Q = N88 row w Q := by intros; kernel_rfl
theorem call88 {row : Int} {w : World} {Q : Value → World → Prop} (hN : N88 row w Q) : CALL PG 88 [(.int .i64 row)] w Q := calls_vc tabOk Try.func88 (by rw [eq88]; exact hN)

/-- math/bits.Len64 -/
def N118 (x : Int) (w : World) (Q : Value → World → Prop) : Prop :=
 ∃ R : Int → Int → World → Prop,
 (IFB (decide (x ≥ (4294967296 : Int)))
 (NEED (0 ≤ (32 : Int))
 (LETI (shrN .u64 x (32 : Int)) fun x1 =>
 R x1 (32 : Int) w))
 (R x (0 : Int) w)) ∧
 (∀ (x2 : Int) (n : Int) (w1 : World), R x2 n w1 → (∃ R1 : Int → Int → World → Prop,
 (IFB (decide (x2 ≥ (65536 : Int)))
 (NEED (0 ≤ (16 : Int))
 (LETI (shrN .u64 x2 (16 : Int)) fun x3 =>
 LETI (IntKind.i64.wrap (n + (16 : Int))) fun n1 =>
 R1 x3 n1 w1))
 (R1 x2 n w1)) ∧
 (∀ (x4 : Int) (n2 : Int) (w2 : World), R1 x4 n2 w2 → (IFB (decide (x4 ≥ (256 : Int)))
 (NEED (0 ≤ (8 : Int))
 (LETI (shrN .u64 x4 (8 : Int)) fun x5 =>
 LETI (IntKind.i64.wrap (n2 + (8 : Int))) fun n3 =>
 NEED (0 ≤ (IntKind.u8.wrap x5) ∧ (IntKind.u8.wrap x5) < (ByteArray.mk #[0, 1, 2, 2, 3, 3, 3, 3, 4, 4, 4, 4, 4, 4, 4, 4, 5, 5, 5, 5, 5, 5, 5, 5, 5, 5, 5, 5, 5, 5, 5, 5, 6, 6, 6, 6, 6, 6, 6, 6, 6, 6, 6, 6, 6, 6, 6, 6, 6, 6, 6, 6, 6, 6, 6, 6, 6, 6, 6, 6, 6, 6, 6, 6, 7, 7, 7, 7, 7, 7, 7, 7, 7, 7, 7, 7, 7, 7, 7, 7, 7, 7, 7, 7, 7, 7, 7, 7, 7, 7, 7, 7, 7, 7, 7, 7, 7, 7, 7, 7, 7, 7, 7, 7, 7, 7, 7, 7, 7, 7, 7, 7, 7, 7, 7, 7, 7, 7, 7, 7, 7, 7, 7, 7, 7, 7, 7, 7, 8, 8, 8, 8, 8, 8, 8, 8, 8, 8, 8, 8, 8, 8, 8, 8, 8, 8, 8, 8, 8, 8, 8, 8, 8, 8, 8, 8, 8, 8, 8, 8, 8, 8, 8, 8, 8, 8, 8, 8, 8, 8, 8, 8, 8, 8, 8, 8, 8, 8, 8, 8, 8, 8, 8, 8, 8, 8, 8, 8, 8, 8, 8, 8, 8, 8, 8, 8, 8, 8, 8, 8, 8, 8, 8, 8, 8, 8, 8, 8, 8, 8, 8, 8, 8, 8, 8, 8, 8, 8, 8, 8, 8, 8, 8, 8, 8, 8, 8, 8, 8, 8, 8, 8, 8, 8, 8, 8, 8, 8, 8, 8, 8, 8, 8, 8, 8, 8, 8, 8, 8, 8, 8, 8, 8, 8, 8, 8]).size)
 (LETI (IntKind.i64.wrap (n3 + (IntKind.i64.wrap (sbyte (ByteArray.mk #[0, 1, 2, 2, 3, 3, 3, 3, 4, 4, 4, 4, 4, 4, 4, 4, 5, 5, 5, 5, 5, 5, 5, 5, 5, 5, 5, 5, 5, 5, 5, 5, 6, 6, 6, 6, 6, 6, 6, 6, 6, 6, 6, 6, 6, 6, 6, 6, 6, 6, 6, 6, 6, 6, 6, 6, 6, 6, 6, 6, 6, 6, 6, 6, 7, 7, 7, 7, 7, 7, 7, 7, 7, 7, 7, 7, 7, 7, 7, 7, 7, 7, 7, 7, 7, 7, 7, 7, 7, 7, 7, 7, 7, 7, 7, 7, 7, 7, 7, 7, 7, 7, 7, 7, 7, 7, 7, 7, 7, 7, 7, 7, 7, 7, 7, 7, 7, 7, 7, 7, 7, 7, 7, 7, 7, 7, 7, 7, 8, 8, 8, 8, 8, 8, 8, 8, 8, 8, 8, 8, 8, 8, 8, 8, 8, 8, 8, 8, 8, 8, 8, 8, 8, 8, 8, 8, 8, 8, 8, 8, 8, 8, 8, 8, 8, 8, 8, 8, 8, 8, 8, 8, 8, 8, 8, 8, 8, 8, 8, 8, 8, 8, 8, 8, 8, 8, 8, 8, 8, 8, 8, 8, 8, 8, 8, 8, 8, 8, 8, 8, 8, 8, 8, 8, 8, 8, 8, 8, 8, 8, 8, 8, 8, 8, 8, 8, 8, 8, 8, 8, 8, 8, 8, 8, 8, 8, 8, 8, 8, 8, 8, 8, 8, 8, 8, 8, 8, 8, 8, 8, 8, 8, 8, 8, 8, 8, 8, 8, 8, 8, 8, 8, 8, 8, 8, 8]) (IntKind.u8.wrap x5))))) fun n4 =>
 Q (.int .i64 n4) w2)))
 (NEED (0 ≤ (IntKind.u8.wrap x4) ∧ (IntKind.u8.wrap x4) < (ByteArray.mk #[0, 1, 2, 2, 3, 3, 3, 3, 4, 4, 4, 4, 4, 4, 4, 4, 5, 5, 5, 5, 5, 5, 5, 5, 5, 5, 5, 5, 5, 5, 5, 5, 6, 6, 6, 6, 6, 6, 6, 6, 6, 6, 6, 6, 6, 6, 6, 6, 6, 6, 6, 6, 6, 6, 6, 6, 6, 6, 6, 6, 6, 6, 6, 6, 7, 7, 7, 7, 7, 7, 7, 7, 7, 7, 7, 7, 7, 7, 7, 7, 7, 7, 7, 7, 7, 7, 7, 7, 7, 7, 7, 7, 7, 7, 7, 7, 7, 7, 7, 7, 7, 7, 7, 7, 7, 7, 7, 7, 7, 7, 7, 7, 7, 7, 7, 7, 7, 7, 7, 7, 7, 7, 7, 7, 7, 7, 7, 7, 8, 8, 8, 8, 8, 8, 8, 8, 8, 8, 8, 8, 8, 8, 8, 8, 8, 8, 8, 8, 8, 8, 8, 8, 8, 8, 8, 8, 8, 8, 8, 8, 8, 8, 8, 8, 8, 8, 8, 8, 8, 8, 8, 8, 8, 8, 8, 8, 8, 8, 8, 8, 8, 8, 8, 8, 8, 8, 8, 8, 8, 8, 8, 8, 8, 8, 8, 8, 8, 8, 8, 8, 8, 8, 8, 8, 8, 8, 8, 8, 8, 8, 8, 8, 8, 8, 8, 8, 8, 8, 8, 8, 8, 8, 8, 8, 8, 8, 8, 8, 8, 8, 8, 8, 8, 8, 8, 8, 8, 8, 8, 8, 8, 8, 8, 8, 8, 8, 8, 8, 8, 8, 8, 8, 8, 8, 8, 8]).size)
 (LETI (IntKind.i64.wrap (n2 + (IntKind.i64.wrap (sbyte (ByteArray.mk #[0, 1, 2, 2, 3, 3, 3, 3, 4, 4, 4, 4, 4, 4, 4, 4, 5, 5, 5, 5, 5, 5, 5, 5, 5, 5, 5, 5, 5, 5, 5, 5, 6, 6, 6, 6, 6, 6, 6, 6, 6, 6, 6, 6, 6, 6, 6, 6, 6, 6, 6, 6, 6, 6, 6, 6, 6, 6, 6, 6, 6, 6, 6, 6, 7, 7, 7, 7, 7, 7, 7, 7, 7, 7, 7, 7, 7, 7, 7, 7, 7, 7, 7, 7, 7, 7, 7, 7, 7, 7, 7, 7, 7, 7, 7, 7, 7, 7, 7, 7, 7, 7, 7, 7, 7, 7, 7, 7, 7, 7, 7, 7, 7, 7, 7, 7, 7, 7, 7, 7, 7, 7, 7, 7, 7, 7, 7, 7, 8, 8, 8, 8, 8, 8, 8, 8, 8, 8, 8, 8, 8, 8, 8, 8, 8, 8, 8, 8, 8, 8, 8, 8, 8, 8, 8, 8, 8, 8, 8, 8, 8, 8, 8, 8, 8, 8, 8, 8, 8, 8, 8, 8, 8, 8, 8, 8, 8, 8, 8, 8, 8, 8, 8, 8, 8, 8, 8, 8, 8, 8, 8, 8, 8, 8, 8, 8, 8, 8, 8, 8, 8, 8, 8, 8, 8, 8, 8, 8, 8, 8, 8, 8, 8, 8, 8, 8, 8, 8, 8, 8, 8, 8, 8, 8, 8, 8, 8, 8, 8, 8, 8, 8, 8, 8, 8, 8, 8, 8, 8, 8, 8, 8, 8, 8, 8, 8, 8, 8, 8, 8, 8, 8, 8, 8, 8, 8]) (IntKind.u8.wrap x4))))) fun n5 =>
 Q (.int .i64 n5) w2))))))
theorem eq118 : ∀ (x : Int) (w : World) (Q : Value → World → Prop), vcF PG TB Try.f118 (.s .nil (.cut [(0, 40), (2, 3)] .nil (.cut [(0, 40), (2, 3)] .nil .nil))) [(.int .u64 x)] w Q = N118 x w Q := by intros; kernel_rfl
theorem call118 {x : Int} {w : World} {Q : Value → World → Prop} (hN : N118 x w Q) : CALL PG 118 [(.int .u64 x)] w Q := calls_vc tabOk Try.func118 (by rw [eq118]; exact hN)

end Go.Br
