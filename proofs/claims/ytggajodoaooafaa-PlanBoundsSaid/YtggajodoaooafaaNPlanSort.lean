/- What the code of some functions says, as the core reads it; each reading is checked by the kernel. -/
import Derived.Test.YtggajodoaooafaaBrSeat
set_option linter.unusedVariables false
set_option maxRecDepth 100000
namespace Go.Br
open Go Go.Proofs

/-- slices.SortStableFunc[[]brougham/plan.Path,brougham/plan.Path] -/
def N125 (x : Option Addr) (xN xC : Nat) (cmp : Value) (w : World) (Q : Value → World → Prop) : Prop :=
 CALL PG 142 [(.slice x xN xC), (.int .i64 (xN : Int)), cmp] w fun v w1 =>
 v = (.tuple #[]) ∧
 (Q (.tuple #[]) w1)
theorem eq125 : ∀ (x : Option Addr) (xN xC : Nat) (cmp : Value) (w : World) (Q : Value → World → Prop), vcF PG TB Try.f125 .nil [(.slice x xN xC), cmp] w Q = N125 x xN xC cmp w Q := by intros; kernel_rfl
theorem call125 {x : Option Addr} {xN xC : Nat} {cmp : Value} {w : World} {Q : Value → World → Prop} (hN : N125 x xN xC cmp w Q) : CALL PG 125 [(.slice x xN xC), cmp] w Q := calls_vc tabOk Try.func125 (by rw [eq125]; exact hN)

/-- slices.stableCmpFunc[brougham/plan.Path] -/
def N142 (data : Option Addr) (dataN dataC : Nat) (n : Int) (cmp : Value) (w : World) (Q : Value → World → Prop) : Prop :=
 LETI (20 : Int) fun b =>
 ∃ I : Nat → Int → Int → World → Prop,
 (∃ m, I m (0 : Int) b w) ∧
 (∀ m1 (a : Int) (b1 : Int) (w1 : World), I m1 a b1 w1 → (IFB (decide (b1 ≤ n))
 (CALL PG 150 [(.slice data dataN dataC), (.int .i64 a), (.int .i64 b1), cmp] w1 fun v w2 =>
 v = (.tuple #[]) ∧
 (LETI b1 fun a1 =>
 LETI (IntKind.i64.wrap (b1 + (20 : Int))) fun b2 =>
 ∃ m2, m2 < m1 ∧ I m2 a1 b2 w2))
 (CALL PG 150 [(.slice data dataN dataC), (.int .i64 a), (.int .i64 n), cmp] w1 fun v1 w3 =>
 v1 = (.tuple #[]) ∧
 (∃ I1 : Nat → Int → World → Prop,
 (∃ m3, I1 m3 (20 : Int) w3) ∧
 (∀ m4 (blockSize : Int) (w4 : World), I1 m4 blockSize w4 → (IFB (decide (blockSize < n))
 (LETI (IntKind.i64.wrap ((2 : Int) * blockSize)) fun b3 =>
 ∃ I2 : Nat → Int → Int → World → Prop,
 (∃ m5, I2 m5 (0 : Int) b3 w4) ∧
 (∀ m6 (a2 : Int) (b4 : Int) (w5 : World), I2 m6 a2 b4 w5 → (IFB (decide (b4 ≤ n))
 (CALL PG 151 [(.slice data dataN dataC), (.int .i64 a2), (.int .i64 (IntKind.i64.wrap (a2 + blockSize))), (.int .i64 b4), cmp] w5 fun v2 w6 =>
 v2 = (.tuple #[]) ∧
 (LETI b4 fun a3 =>
 LETI (IntKind.i64.wrap (b4 + (IntKind.i64.wrap ((2 : Int) * blockSize)))) fun b5 =>
 ∃ m7, m7 < m6 ∧ I2 m7 a3 b5 w6))
 (LETI (IntKind.i64.wrap (a2 + blockSize)) fun m8 =>
 IFB (decide (m8 < n))
 (CALL PG 151 [(.slice data dataN dataC), (.int .i64 a2), (.int .i64 m8), (.int .i64 n), cmp] w5 fun v3 w7 =>
 v3 = (.tuple #[]) ∧
 (LETI (IntKind.i64.wrap (blockSize * (2 : Int))) fun blockSize1 =>
 ∃ m9, m9 < m4 ∧ I1 m9 blockSize1 w7))
 (LETI (IntKind.i64.wrap (blockSize * (2 : Int))) fun blockSize2 =>
 ∃ m10, m10 < m4 ∧ I1 m10 blockSize2 w5)))))
 (Q (.tuple #[]) w4)))))))
theorem eq142 : ∀ (data : Option Addr) (dataN dataC : Nat) (n : Int) (cmp : Value) (w : World) (Q : Value → World → Prop), vcF PG TB Try.f142 (.s .nil (.s .nil (.s (.u (.loop [(7, 3), (8, 3)] .nil)) (.s .nil (.u (.loop [(6, 3)] (.s .nil (.u (.s .nil (.s (.u (.loop [(7, 3), (8, 3)] .nil)) .nil)))))))))) [(.slice data dataN dataC), (.int .i64 n), cmp] w Q = N142 data dataN dataC n cmp w Q := by intros; kernel_rfl
theorem call142 {data : Option Addr} {dataN dataC : Nat} {n : Int} {cmp : Value} {w : World} {Q : Value → World → Prop} (hN : N142 data dataN dataC n cmp w Q) : CALL PG 142 [(.slice data dataN dataC), (.int .i64 n), cmp] w Q := calls_vc tabOk Try.func142 (by rw [eq142]; exact hN)

/-- slices.insertionSortCmpFunc[brougham/plan.Path] -/
def N150 (data : Option Addr) (dataN dataC : Nat) (a : Int) (b : Int) (cmp : Value) (w : World) (Q : Value → World → Prop) : Prop :=
 LETI (IntKind.i64.wrap (a + (1 : Int))) fun i =>
 ∃ I : Nat → Int → World → Prop,
 (∃ m, I m i w) ∧
 (∀ m1 (i1 : Int) (w1 : World), I m1 i1 w1 → (IFB (decide (i1 < b))
 (LETI i1 fun j =>
 ∃ I1 : Nat → Int → World → Prop,
 (∃ m2, I1 m2 j w1) ∧
 (∀ m3 (j1 : Int) (w2 : World), I1 m3 j1 w2 → (IFB (decide (j1 > a))
 (IDX data dataN j1 fun a25 =>
 RD PG (loadVar 108 (Addr.add a25 (Int.toNat j1 * 7))) (w2.drew) fun v =>
 ∃ x26 : Int, ∃ x26v1 : Bool, ∃ x26v2 : Bool, ∃ x26v3 : Bool, ∃ x26v4 : Bool, ∃ x26v5 : Int, ∃ x26v6 : Int, v = (.agg #[(.int .i64 x26), (.bool x26v1), (.bool x26v2), (.bool x26v3), (.bool x26v4), (.int .i64 x26v5), (.int .i64 x26v6)]) ∧
 (IDX data dataN (IntKind.i64.wrap (j1 - (1 : Int))) fun a30 =>
 RD PG (loadVar 108 (Addr.add a30 (Int.toNat (IntKind.i64.wrap (j1 - (1 : Int))) * 7))) (w2.drew) fun v1 =>
 ∃ x31 : Int, ∃ x31v1 : Bool, ∃ x31v2 : Bool, ∃ x31v3 : Bool, ∃ x31v4 : Bool, ∃ x31v5 : Int, ∃ x31v6 : Int, v1 = (.agg #[(.int .i64 x31), (.bool x31v1), (.bool x31v2), (.bool x31v3), (.bool x31v4), (.int .i64 x31v5), (.int .i64 x31v6)]) ∧
 (CALLV PG cmp [(.agg #[(.int .i64 x26), (.bool x26v1), (.bool x26v2), (.bool x26v3), (.bool x26v4), (.int .i64 x26v5), (.int .i64 x26v6)]), (.agg #[(.int .i64 x31), (.bool x31v1), (.bool x31v2), (.bool x31v3), (.bool x31v4), (.int .i64 x31v5), (.int .i64 x31v6)])] (w2.drew) fun v2 w3 =>
 ∃ x32 : Int, v2 = (.int .i64 x32) ∧
 (IFB (decide (x32 < (0 : Int)))
 (IDX data dataN (IntKind.i64.wrap (j1 - (1 : Int))) fun a45 =>
 RD PG (loadVar 108 (Addr.add a45 (Int.toNat (IntKind.i64.wrap (j1 - (1 : Int))) * 7))) (w3.drew) fun v3 =>
 ∃ x46 : Int, ∃ x46v1 : Bool, ∃ x46v2 : Bool, ∃ x46v3 : Bool, ∃ x46v4 : Bool, ∃ x46v5 : Int, ∃ x46v6 : Int, v3 = (.agg #[(.int .i64 x46), (.bool x46v1), (.bool x46v2), (.bool x46v3), (.bool x46v4), (.int .i64 x46v5), (.int .i64 x46v6)]) ∧
 (IDX data dataN j1 fun a49 =>
 RD PG (loadVar 108 (Addr.add a49 (Int.toNat j1 * 7))) (w3.drew) fun v4 =>
 ∃ x50 : Int, ∃ x50v1 : Bool, ∃ x50v2 : Bool, ∃ x50v3 : Bool, ∃ x50v4 : Bool, ∃ x50v5 : Int, ∃ x50v6 : Int, v4 = (.agg #[(.int .i64 x50), (.bool x50v1), (.bool x50v2), (.bool x50v3), (.bool x50v4), (.int .i64 x50v5), (.int .i64 x50v6)]) ∧
 (IDX data dataN j1 fun a51 =>
 RUNU PG (storeVar 108 (Addr.add a51 (Int.toNat j1 * 7)) (.agg #[(.int .i64 x46), (.bool x46v1), (.bool x46v2), (.bool x46v3), (.bool x46v4), (.int .i64 x46v5), (.int .i64 x46v6)])) (w3.drew) fun w4 =>
 IDX data dataN (IntKind.i64.wrap (j1 - (1 : Int))) fun a52 =>
 RUNU PG (storeVar 108 (Addr.add a52 (Int.toNat (IntKind.i64.wrap (j1 - (1 : Int))) * 7)) (.agg #[(.int .i64 x50), (.bool x50v1), (.bool x50v2), (.bool x50v3), (.bool x50v4), (.int .i64 x50v5), (.int .i64 x50v6)])) w4 fun w5 =>
 LETI (IntKind.i64.wrap (j1 - (1 : Int))) fun j2 =>
 ∃ m4, m4 < m3 ∧ I1 m4 j2 w5)))
 (LETI (IntKind.i64.wrap (i1 + (1 : Int))) fun i2 =>
 ∃ m5, m5 < m1 ∧ I m5 i2 w3)))))
 (LETI (IntKind.i64.wrap (i1 + (1 : Int))) fun i3 =>
 ∃ m6, m6 < m1 ∧ I m6 i3 (w2.drew)))))
 (Q (.tuple #[]) w1)))
theorem eq150 : ∀ (data : Option Addr) (dataN dataC : Nat) (a : Int) (b : Int) (cmp : Value) (w : World) (Q : Value → World → Prop), vcF PG TB Try.f150 (.s .nil (.u (.loop [(8, 3)] (.s .nil (.s (.u (.s .nil (.u (.loop [(9, 3)] .nil)))) .nil))))) [(.slice data dataN dataC), (.int .i64 a), (.int .i64 b), cmp] w Q = N150 data dataN dataC a b cmp w Q := by intros; kernel_rfl
theorem call150 {data : Option Addr} {dataN dataC : Nat} {a : Int} {b : Int} {cmp : Value} {w : World} {Q : Value → World → Prop} (hN : N150 data dataN dataC a b cmp w Q) : CALL PG 150 [(.slice data dataN dataC), (.int .i64 a), (.int .i64 b), cmp] w Q := calls_vc tabOk Try.func150 (by rw [eq150]; exact hN)

/-- slices.symMergeCmpFunc[brougham/plan.Path] -/
def N151 (data : Option Addr) (dataN dataC : Nat) (a : Int) (m : Int) (b : Int) (cmp : Value) (w : World) (Q : Value → World → Prop) : Prop :=
 IFB ((IntKind.i64.wrap (m - a)) == (1 : Int))
 (LETI m fun i =>
 LETI b fun j =>
 ∃ I : Nat → Int → Int → World → Prop,
 (∃ m1, I m1 i j w) ∧
 (∀ m2 (i1 : Int) (j1 : Int) (w1 : World), I m2 i1 j1 w1 → (IFB (decide (i1 < j1))
 (NEED (0 ≤ (1 : Int))
 (LETI (IntKind.i64.wrap (shrN .u64 (IntKind.u64.wrap (IntKind.i64.wrap (i1 + j1))) (1 : Int))) fun h =>
 IDX data dataN h fun a43 =>
 RD PG (loadVar 108 (Addr.add a43 (Int.toNat h * 7))) (w1.drew) fun v =>
 ∃ x44 : Int, ∃ x44v1 : Bool, ∃ x44v2 : Bool, ∃ x44v3 : Bool, ∃ x44v4 : Bool, ∃ x44v5 : Int, ∃ x44v6 : Int, v = (.agg #[(.int .i64 x44), (.bool x44v1), (.bool x44v2), (.bool x44v3), (.bool x44v4), (.int .i64 x44v5), (.int .i64 x44v6)]) ∧
 (IDX data dataN a fun a47 =>
 RD PG (loadVar 108 (Addr.add a47 (Int.toNat a * 7))) (w1.drew) fun v1 =>
 ∃ x48 : Int, ∃ x48v1 : Bool, ∃ x48v2 : Bool, ∃ x48v3 : Bool, ∃ x48v4 : Bool, ∃ x48v5 : Int, ∃ x48v6 : Int, v1 = (.agg #[(.int .i64 x48), (.bool x48v1), (.bool x48v2), (.bool x48v3), (.bool x48v4), (.int .i64 x48v5), (.int .i64 x48v6)]) ∧
 (CALLV PG cmp [(.agg #[(.int .i64 x44), (.bool x44v1), (.bool x44v2), (.bool x44v3), (.bool x44v4), (.int .i64 x44v5), (.int .i64 x44v6)]), (.agg #[(.int .i64 x48), (.bool x48v1), (.bool x48v2), (.bool x48v3), (.bool x48v4), (.int .i64 x48v5), (.int .i64 x48v6)])] (w1.drew) fun v2 w2 =>
 ∃ x49 : Int, v2 = (.int .i64 x49) ∧
 (IFB (decide (x49 < (0 : Int)))
 (LETI (IntKind.i64.wrap (h + (1 : Int))) fun i2 =>
 ∃ m3, m3 < m2 ∧ I m3 i2 j1 w2)
 (LETI h fun j2 =>
 ∃ m4, m4 < m2 ∧ I m4 i1 j2 w2))))))
 (LETI a fun k =>
 ∃ I1 : Nat → Int → World → Prop,
 (∃ m5, I1 m5 k w1) ∧
 (∀ m6 (k1 : Int) (w3 : World), I1 m6 k1 w3 → (IFB (decide (k1 < (IntKind.i64.wrap (i1 - (1 : Int)))))
 (IDX data dataN (IntKind.i64.wrap (k1 + (1 : Int))) fun a69 =>
 RD PG (loadVar 108 (Addr.add a69 (Int.toNat (IntKind.i64.wrap (k1 + (1 : Int))) * 7))) (w3.drew) fun v3 =>
 ∃ x70 : Int, ∃ x70v1 : Bool, ∃ x70v2 : Bool, ∃ x70v3 : Bool, ∃ x70v4 : Bool, ∃ x70v5 : Int, ∃ x70v6 : Int, v3 = (.agg #[(.int .i64 x70), (.bool x70v1), (.bool x70v2), (.bool x70v3), (.bool x70v4), (.int .i64 x70v5), (.int .i64 x70v6)]) ∧
 (IDX data dataN k1 fun a73 =>
 RD PG (loadVar 108 (Addr.add a73 (Int.toNat k1 * 7))) (w3.drew) fun v4 =>
 ∃ x74 : Int, ∃ x74v1 : Bool, ∃ x74v2 : Bool, ∃ x74v3 : Bool, ∃ x74v4 : Bool, ∃ x74v5 : Int, ∃ x74v6 : Int, v4 = (.agg #[(.int .i64 x74), (.bool x74v1), (.bool x74v2), (.bool x74v3), (.bool x74v4), (.int .i64 x74v5), (.int .i64 x74v6)]) ∧
 (IDX data dataN k1 fun a75 =>
 RUNU PG (storeVar 108 (Addr.add a75 (Int.toNat k1 * 7)) (.agg #[(.int .i64 x70), (.bool x70v1), (.bool x70v2), (.bool x70v3), (.bool x70v4), (.int .i64 x70v5), (.int .i64 x70v6)])) (w3.drew) fun w4 =>
 IDX data dataN (IntKind.i64.wrap (k1 + (1 : Int))) fun a76 =>
 RUNU PG (storeVar 108 (Addr.add a76 (Int.toNat (IntKind.i64.wrap (k1 + (1 : Int))) * 7)) (.agg #[(.int .i64 x74), (.bool x74v1), (.bool x74v2), (.bool x74v3), (.bool x74v4), (.int .i64 x74v5), (.int .i64 x74v6)])) w4 fun w5 =>
 LETI (IntKind.i64.wrap (k1 + (1 : Int))) fun k2 =>
 ∃ m7, m7 < m6 ∧ I1 m7 k2 w5)))
 (Q (.tuple #[]) w3)))))))
 (IFB ((IntKind.i64.wrap (b - m)) == (1 : Int))
 (LETI a fun i3 =>
 LETI m fun j3 =>
 ∃ I2 : Nat → Int → Int → World → Prop,
 (∃ m8, I2 m8 i3 j3 w) ∧
 (∀ m9 (i4 : Int) (j4 : Int) (w6 : World), I2 m9 i4 j4 w6 → (IFB (decide (i4 < j4))
 (NEED (0 ≤ (1 : Int))
 (LETI (IntKind.i64.wrap (shrN .u64 (IntKind.u64.wrap (IntKind.i64.wrap (i4 + j4))) (1 : Int))) fun h1 =>
 IDX data dataN m fun a95 =>
 RD PG (loadVar 108 (Addr.add a95 (Int.toNat m * 7))) (w6.drew) fun v5 =>
 ∃ x96 : Int, ∃ x96v1 : Bool, ∃ x96v2 : Bool, ∃ x96v3 : Bool, ∃ x96v4 : Bool, ∃ x96v5 : Int, ∃ x96v6 : Int, v5 = (.agg #[(.int .i64 x96), (.bool x96v1), (.bool x96v2), (.bool x96v3), (.bool x96v4), (.int .i64 x96v5), (.int .i64 x96v6)]) ∧
 (IDX data dataN h1 fun a99 =>
 RD PG (loadVar 108 (Addr.add a99 (Int.toNat h1 * 7))) (w6.drew) fun v6 =>
 ∃ x100 : Int, ∃ x100v1 : Bool, ∃ x100v2 : Bool, ∃ x100v3 : Bool, ∃ x100v4 : Bool, ∃ x100v5 : Int, ∃ x100v6 : Int, v6 = (.agg #[(.int .i64 x100), (.bool x100v1), (.bool x100v2), (.bool x100v3), (.bool x100v4), (.int .i64 x100v5), (.int .i64 x100v6)]) ∧
 (CALLV PG cmp [(.agg #[(.int .i64 x96), (.bool x96v1), (.bool x96v2), (.bool x96v3), (.bool x96v4), (.int .i64 x96v5), (.int .i64 x96v6)]), (.agg #[(.int .i64 x100), (.bool x100v1), (.bool x100v2), (.bool x100v3), (.bool x100v4), (.int .i64 x100v5), (.int .i64 x100v6)])] (w6.drew) fun v7 w7 =>
 ∃ x101 : Int, v7 = (.int .i64 x101) ∧
 (IFB (!(decide (x101 < (0 : Int))))
 (LETI (IntKind.i64.wrap (h1 + (1 : Int))) fun i5 =>
 ∃ m10, m10 < m9 ∧ I2 m10 i5 j4 w7)
 (LETI h1 fun j5 =>
 ∃ m11, m11 < m9 ∧ I2 m11 i4 j5 w7))))))
 (LETI m fun k3 =>
 ∃ I3 : Nat → Int → World → Prop,
 (∃ m12, I3 m12 k3 w6) ∧
 (∀ m13 (k4 : Int) (w8 : World), I3 m13 k4 w8 → (IFB (decide (k4 > i4))
 (IDX data dataN (IntKind.i64.wrap (k4 - (1 : Int))) fun a121 =>
 RD PG (loadVar 108 (Addr.add a121 (Int.toNat (IntKind.i64.wrap (k4 - (1 : Int))) * 7))) (w8.drew) fun v8 =>
 ∃ x122 : Int, ∃ x122v1 : Bool, ∃ x122v2 : Bool, ∃ x122v3 : Bool, ∃ x122v4 : Bool, ∃ x122v5 : Int, ∃ x122v6 : Int, v8 = (.agg #[(.int .i64 x122), (.bool x122v1), (.bool x122v2), (.bool x122v3), (.bool x122v4), (.int .i64 x122v5), (.int .i64 x122v6)]) ∧
 (IDX data dataN k4 fun a125 =>
 RD PG (loadVar 108 (Addr.add a125 (Int.toNat k4 * 7))) (w8.drew) fun v9 =>
 ∃ x126 : Int, ∃ x126v1 : Bool, ∃ x126v2 : Bool, ∃ x126v3 : Bool, ∃ x126v4 : Bool, ∃ x126v5 : Int, ∃ x126v6 : Int, v9 = (.agg #[(.int .i64 x126), (.bool x126v1), (.bool x126v2), (.bool x126v3), (.bool x126v4), (.int .i64 x126v5), (.int .i64 x126v6)]) ∧
 (IDX data dataN k4 fun a127 =>
 RUNU PG (storeVar 108 (Addr.add a127 (Int.toNat k4 * 7)) (.agg #[(.int .i64 x122), (.bool x122v1), (.bool x122v2), (.bool x122v3), (.bool x122v4), (.int .i64 x122v5), (.int .i64 x122v6)])) (w8.drew) fun w9 =>
 IDX data dataN (IntKind.i64.wrap (k4 - (1 : Int))) fun a128 =>
 RUNU PG (storeVar 108 (Addr.add a128 (Int.toNat (IntKind.i64.wrap (k4 - (1 : Int))) * 7)) (.agg #[(.int .i64 x126), (.bool x126v1), (.bool x126v2), (.bool x126v3), (.bool x126v4), (.int .i64 x126v5), (.int .i64 x126v6)])) w9 fun w10 =>
 LETI (IntKind.i64.wrap (k4 - (1 : Int))) fun k5 =>
 ∃ m14, m14 < m13 ∧ I3 m14 k5 w10)))
 (Q (.tuple #[]) w8)))))))
 (NEED (0 ≤ (1 : Int))
 (LETI (IntKind.i64.wrap (shrN .u64 (IntKind.u64.wrap (IntKind.i64.wrap (a + b))) (1 : Int))) fun mid =>
 LETI (IntKind.i64.wrap (mid + m)) fun n =>
 ∃ R : Int → Int → World → Prop,
 (IFB (decide (m > mid))
 (LETI (IntKind.i64.wrap (n - b)) fun start =>
 LETI mid fun r =>
 R start r w)
 (LETI a fun start1 =>
 LETI m fun r1 =>
 R start1 r1 w)) ∧
 (∀ (start2 : Int) (r2 : Int) (w11 : World), R start2 r2 w11 → (LETI (IntKind.i64.wrap (n - (1 : Int))) fun p =>
 ∃ I4 : Nat → Int → Int → World → Prop,
 (∃ m15, I4 m15 start2 r2 w11) ∧
 (∀ m16 (start3 : Int) (r3 : Int) (w12 : World), I4 m16 start3 r3 w12 → (IFB (decide (start3 < r3))
 (NEED (0 ≤ (1 : Int))
 (LETI (IntKind.i64.wrap (shrN .u64 (IntKind.u64.wrap (IntKind.i64.wrap (start3 + r3))) (1 : Int))) fun c =>
 IDX data dataN (IntKind.i64.wrap (p - c)) fun a163 =>
 RD PG (loadVar 108 (Addr.add a163 (Int.toNat (IntKind.i64.wrap (p - c)) * 7))) (w12.drew) fun v10 =>
 ∃ x164 : Int, ∃ x164v1 : Bool, ∃ x164v2 : Bool, ∃ x164v3 : Bool, ∃ x164v4 : Bool, ∃ x164v5 : Int, ∃ x164v6 : Int, v10 = (.agg #[(.int .i64 x164), (.bool x164v1), (.bool x164v2), (.bool x164v3), (.bool x164v4), (.int .i64 x164v5), (.int .i64 x164v6)]) ∧
 (IDX data dataN c fun a167 =>
 RD PG (loadVar 108 (Addr.add a167 (Int.toNat c * 7))) (w12.drew) fun v11 =>
 ∃ x168 : Int, ∃ x168v1 : Bool, ∃ x168v2 : Bool, ∃ x168v3 : Bool, ∃ x168v4 : Bool, ∃ x168v5 : Int, ∃ x168v6 : Int, v11 = (.agg #[(.int .i64 x168), (.bool x168v1), (.bool x168v2), (.bool x168v3), (.bool x168v4), (.int .i64 x168v5), (.int .i64 x168v6)]) ∧
 (CALLV PG cmp [(.agg #[(.int .i64 x164), (.bool x164v1), (.bool x164v2), (.bool x164v3), (.bool x164v4), (.int .i64 x164v5), (.int .i64 x164v6)]), (.agg #[(.int .i64 x168), (.bool x168v1), (.bool x168v2), (.bool x168v3), (.bool x168v4), (.int .i64 x168v5), (.int .i64 x168v6)])] (w12.drew) fun v12 w13 =>
 ∃ x169 : Int, v12 = (.int .i64 x169) ∧
 (IFB (!(decide (x169 < (0 : Int))))
 (LETI (IntKind.i64.wrap (c + (1 : Int))) fun start4 =>
 ∃ m17, m17 < m16 ∧ I4 m17 start4 r3 w13)
 (LETI c fun r4 =>
 ∃ m18, m18 < m16 ∧ I4 m18 start3 r4 w13))))))
 (LETI (IntKind.i64.wrap (n - start3)) fun endv =>
 ∃ R1 : World → Prop,
 (IFB (decide (start3 < m))
 (IFB (decide (m < endv))
 (CALL PG 156 [(.slice data dataN dataC), (.int .i64 start3), (.int .i64 m), (.int .i64 endv), cmp] w12 fun v13 w14 =>
 v13 = (.tuple #[]) ∧
 (R1 w14))
 (R1 w12))
 (R1 w12)) ∧
 (∀  (w15 : World), R1 w15 → (∃ R2 : World → Prop,
 (IFB (decide (a < start3))
 (IFB (decide (start3 < mid))
 (CALL PG 151 [(.slice data dataN dataC), (.int .i64 a), (.int .i64 start3), (.int .i64 mid), cmp] w15 fun v14 w16 =>
 v14 = (.tuple #[]) ∧
 (R2 w16))
 (R2 w15))
 (R2 w15)) ∧
 (∀  (w17 : World), R2 w17 → (IFB (decide (mid < endv))
 (IFB (decide (endv < b))
 (CALL PG 151 [(.slice data dataN dataC), (.int .i64 mid), (.int .i64 endv), (.int .i64 b), cmp] w17 fun v15 w18 =>
 v15 = (.tuple #[]) ∧
 (Q (.tuple #[]) w18))
 (Q (.tuple #[]) w17))
 (Q (.tuple #[]) w17)))))))))))))
theorem eq151 : ∀ (data : Option Addr) (dataN dataC : Nat) (a : Int) (m : Int) (b : Int) (cmp : Value) (w : World) (Q : Value → World → Prop), vcF PG TB Try.f151 (.s (.s .nil (.c (.s .nil (.s .nil (.s (.u (.loop [(10, 3), (11, 3)] .nil)) (.s (.s .nil (.u (.loop [(13, 3)] .nil))) .nil)))) .nil)) (.s (.s .nil (.c (.s .nil (.s .nil (.s (.u (.loop [(14, 3), (15, 3)] .nil)) (.s (.s .nil (.u (.loop [(17, 3)] .nil))) .nil)))) .nil)) (.s .nil (.s .nil (.s .nil (.cut [(20, 3), (21, 3)] .nil (.s .nil (.s (.u (.loop [(20, 3), (21, 3)] .nil)) (.s .nil (.cut [] .nil (.cut [] .nil .nil))))))))))) [(.slice data dataN dataC), (.int .i64 a), (.int .i64 m), (.int .i64 b), cmp] w Q = N151 data dataN dataC a m b cmp w Q := by intros; kernel_rfl
theorem call151 {data : Option Addr} {dataN dataC : Nat} {a : Int} {m : Int} {b : Int} {cmp : Value} {w : World} {Q : Value → World → Prop} (hN : N151 data dataN dataC a m b cmp w Q) : CALL PG 151 [(.slice data dataN dataC), (.int .i64 a), (.int .i64 m), (.int .i64 b), cmp] w Q := calls_vc tabOk Try.func151 (by rw [eq151]; exact hN)

/-- slices.rotateCmpFunc[brougham/plan.Path] -/
def N156 (data : Option Addr) (dataN dataC : Nat) (a : Int) (m : Int) (b : Int) (cmp : Value) (w : World) (Q : Value → World → Prop) : Prop :=
 LETI (IntKind.i64.wrap (m - a)) fun i =>
 LETI (IntKind.i64.wrap (b - m)) fun j =>
 ∃ I : Nat → Int → Int → World → Prop,
 (∃ m1, I m1 i j w) ∧
 (∀ m2 (i1 : Int) (j1 : Int) (w1 : World), I m2 i1 j1 w1 → (IFB (i1 != j1)
 (IFB (decide (i1 > j1))
 (CALL PG 157 [(.slice data dataN dataC), (.int .i64 (IntKind.i64.wrap (m - i1))), (.int .i64 m), (.int .i64 j1), cmp] w1 fun v w2 =>
 v = (.tuple #[]) ∧
 (LETI (IntKind.i64.wrap (i1 - j1)) fun i2 =>
 ∃ m3, m3 < m2 ∧ I m3 i2 j1 w2))
 (CALL PG 157 [(.slice data dataN dataC), (.int .i64 (IntKind.i64.wrap (m - i1))), (.int .i64 (IntKind.i64.wrap ((IntKind.i64.wrap (m + j1)) - i1))), (.int .i64 i1), cmp] w1 fun v1 w3 =>
 v1 = (.tuple #[]) ∧
 (LETI (IntKind.i64.wrap (j1 - i1)) fun j2 =>
 ∃ m4, m4 < m2 ∧ I m4 i1 j2 w3)))
 (CALL PG 157 [(.slice data dataN dataC), (.int .i64 (IntKind.i64.wrap (m - i1))), (.int .i64 m), (.int .i64 i1), cmp] w1 fun v2 w4 =>
 v2 = (.tuple #[]) ∧
 (Q (.tuple #[]) w4))))
theorem eq156 : ∀ (data : Option Addr) (dataN dataC : Nat) (a : Int) (m : Int) (b : Int) (cmp : Value) (w : World) (Q : Value → World → Prop), vcF PG TB Try.f156 (.s .nil (.s .nil (.s (.u (.loop [(10, 3), (11, 3)] .nil)) .nil))) [(.slice data dataN dataC), (.int .i64 a), (.int .i64 m), (.int .i64 b), cmp] w Q = N156 data dataN dataC a m b cmp w Q := by intros; kernel_rfl
theorem call156 {data : Option Addr} {dataN dataC : Nat} {a : Int} {m : Int} {b : Int} {cmp : Value} {w : World} {Q : Value → World → Prop} (hN : N156 data dataN dataC a m b cmp w Q) : CALL PG 156 [(.slice data dataN dataC), (.int .i64 a), (.int .i64 m), (.int .i64 b), cmp] w Q := calls_vc tabOk Try.func156 (by rw [eq156]; exact hN)

/-- slices.swapRangeCmpFunc[brougham/plan.Path] -/
def N157 (data : Option Addr) (dataN dataC : Nat) (a : Int) (b : Int) (n : Int) (cmp : Value) (w : World) (Q : Value → World → Prop) : Prop :=
 ∃ I : Nat → Int → World → Prop,
 (∃ m, I m (0 : Int) w) ∧
 (∀ m1 (i : Int) (w1 : World), I m1 i w1 → (IFB (decide (i < n))
 (IDX data dataN (IntKind.i64.wrap (b + i)) fun a28 =>
 RD PG (loadVar 108 (Addr.add a28 (Int.toNat (IntKind.i64.wrap (b + i)) * 7))) (w1.drew) fun v =>
 ∃ x29 : Int, ∃ x29v1 : Bool, ∃ x29v2 : Bool, ∃ x29v3 : Bool, ∃ x29v4 : Bool, ∃ x29v5 : Int, ∃ x29v6 : Int, v = (.agg #[(.int .i64 x29), (.bool x29v1), (.bool x29v2), (.bool x29v3), (.bool x29v4), (.int .i64 x29v5), (.int .i64 x29v6)]) ∧
 (IDX data dataN (IntKind.i64.wrap (a + i)) fun a34 =>
 RD PG (loadVar 108 (Addr.add a34 (Int.toNat (IntKind.i64.wrap (a + i)) * 7))) (w1.drew) fun v1 =>
 ∃ x35 : Int, ∃ x35v1 : Bool, ∃ x35v2 : Bool, ∃ x35v3 : Bool, ∃ x35v4 : Bool, ∃ x35v5 : Int, ∃ x35v6 : Int, v1 = (.agg #[(.int .i64 x35), (.bool x35v1), (.bool x35v2), (.bool x35v3), (.bool x35v4), (.int .i64 x35v5), (.int .i64 x35v6)]) ∧
 (IDX data dataN (IntKind.i64.wrap (a + i)) fun a36 =>
 RUNU PG (storeVar 108 (Addr.add a36 (Int.toNat (IntKind.i64.wrap (a + i)) * 7)) (.agg #[(.int .i64 x29), (.bool x29v1), (.bool x29v2), (.bool x29v3), (.bool x29v4), (.int .i64 x29v5), (.int .i64 x29v6)])) (w1.drew) fun w2 =>
 IDX data dataN (IntKind.i64.wrap (b + i)) fun a37 =>
 RUNU PG (storeVar 108 (Addr.add a37 (Int.toNat (IntKind.i64.wrap (b + i)) * 7)) (.agg #[(.int .i64 x35), (.bool x35v1), (.bool x35v2), (.bool x35v3), (.bool x35v4), (.int .i64 x35v5), (.int .i64 x35v6)])) w2 fun w3 =>
 LETI (IntKind.i64.wrap (i + (1 : Int))) fun i1 =>
 ∃ m2, m2 < m1 ∧ I m2 i1 w3)))
 (Q (.tuple #[]) w1)))
theorem eq157 : ∀ (data : Option Addr) (dataN dataC : Nat) (a : Int) (b : Int) (n : Int) (cmp : Value) (w : World) (Q : Value → World → Prop), vcF PG TB Try.f157 (.s .nil (.u (.loop [(10, 3)] .nil))) [(.slice data dataN dataC), (.int .i64 a), (.int .i64 b), (.int .i64 n), cmp] w Q = N157 data dataN dataC a b n cmp w Q := by intros; kernel_rfl
theorem call157 {data : Option Addr} {dataN dataC : Nat} {a : Int} {b : Int} {n : Int} {cmp : Value} {w : World} {Q : Value → World → Prop} (hN : N157 data dataN dataC a b n cmp w Q) : CALL PG 157 [(.slice data dataN dataC), (.int .i64 a), (.int .i64 b), (.int .i64 n), cmp] w Q := calls_vc tabOk Try.func157 (by rw [eq157]; exact hN)

end Go.Br
