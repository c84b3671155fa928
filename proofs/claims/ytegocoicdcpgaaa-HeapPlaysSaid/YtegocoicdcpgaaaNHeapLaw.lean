/- What the code of some functions says, as the core reads it; each reading is checked by the kernel. -/
import Derived.Test.YtegocoicdcpgaaaBrSeat
set_option linter.unusedVariables false
set_option maxRecDepth 100000
namespace Go.Br
open Go Go.Proofs

/-- brougham/broughamlaw42.HeapSorts -/
def N13 (l : Option Addr) (lN lC : Nat) (w : World) (Q : Value → World → Prop) : Prop :=
 IFB (decide ((lN : Int) > (500 : Int)))
 (Q (.bool true) w)
 (CALL PG 63 [(.int .i64 (1000 : Int))] w fun v w1 =>
 ∃ x14 : Option Addr, v = (.pointer x14) ∧
 (IFB (x14.isNone)
 (Q (.bool false) w1)
 (∃ I : Nat → Int → World → Prop,
 (∃ m, I m (0 : Int) w1) ∧
 (∀ m1 (i : Int) (w2 : World), I m1 i w2 → (IFB (decide (i < (lN : Int)))
 (IDX l lN i fun a26 =>
 RD PG (loadVar 3 (Addr.add a26 (Int.toNat i * 1))) w2 fun v1 =>
 ∃ x27 : Int, v1 = (.int .i64 x27) ∧
 (CALL PG 69 [(.pointer x14), (.int .i64 x27), (.int .i64 i)] w2 fun v2 w3 =>
 ∃ x29 : Bool, v2 = (.bool x29) ∧
 (IFB (!x29)
 (Q (.bool false) w3)
 (LETI (IntKind.i64.wrap (i + (1 : Int))) fun i1 =>
 ∃ m2, m2 < m1 ∧ I m2 i1 w3))))
 (∃ I1 : Nat → Int → Int → World → Prop,
 (∃ m3, I1 m3 (-1 : Int) (0 : Int) w2) ∧
 (∀ m4 (last : Int) (i2 : Int) (w4 : World), I1 m4 last i2 w4 → (IFB (decide (i2 < (lN : Int)))
 (CALL PG 64 [(.pointer x14)] w4 fun v3 w5 =>
 ∃ x39 : Int, ∃ x39v1 : Int, ∃ x39v2 : Int, ∃ x39v3 : Bool, v3 = (.tuple #[(.agg #[(.int .i64 x39), (.int .i64 x39v1), (.int .i64 x39v2)]), (.bool x39v3)]) ∧
 (RUN PG (Instr.alloc 109 true (.tuple #[])) w5 fun v4 w6 =>
 ∃ a7 : Addr, v4 = (.pointer (some a7)) ∧
 (RUNU PG (storeVar 109 a7 (.agg #[(.int .i64 x39), (.int .i64 x39v1), (.int .i64 x39v2)])) w6 fun w7 =>
 LETB x39v3 fun okv =>
 IFB (!okv)
 (Q (.bool false) (w7.drew))
 (RD PG (loadVar 3 (Addr.add a7 1)) (w7.drew) fun v5 =>
 ∃ x46 : Int, v5 = (.int .i64 x46) ∧
 (IFB (decide (x46 < (0 : Int)))
 (Q (.bool false) (w7.drew))
 (RD PG (loadVar 3 (Addr.add a7 1)) (w7.drew) fun v6 =>
 ∃ x51 : Int, v6 = (.int .i64 x51) ∧
 (IFB (decide (x51 ≥ (lN : Int)))
 (Q (.bool false) (w7.drew))
 (RD PG (loadVar 3 (Addr.add a7 0)) (w7.drew) fun v7 =>
 ∃ x58 : Int, v7 = (.int .i64 x58) ∧
 (RD PG (loadVar 3 (Addr.add a7 1)) (w7.drew) fun v8 =>
 ∃ x61 : Int, v8 = (.int .i64 x61) ∧
 (IDX l lN x61 fun a62 =>
 RD PG (loadVar 3 (Addr.add a62 (Int.toNat x61 * 1))) (w7.drew) fun v9 =>
 ∃ x63 : Int, v9 = (.int .i64 x63) ∧
 (IFB (x58 != x63)
 (Q (.bool false) (w7.drew))
 (IFB (decide (last ≥ (0 : Int)))
 (IDX l lN last fun a71 =>
 RD PG (loadVar 3 (Addr.add a71 (Int.toNat last * 1))) ((w7.drew).drew) fun v10 =>
 ∃ x72 : Int, v10 = (.int .i64 x72) ∧
 (RD PG (loadVar 3 (Addr.add a7 0)) ((w7.drew).drew) fun v11 =>
 ∃ x74 : Int, v11 = (.int .i64 x74) ∧
 (IFB (decide (x72 > x74))
 (Q (.bool false) ((w7.drew).drew))
 (IDX l lN last fun a79 =>
 RD PG (loadVar 3 (Addr.add a79 (Int.toNat last * 1))) ((w7.drew).drew) fun v12 =>
 ∃ x80 : Int, v12 = (.int .i64 x80) ∧
 (RD PG (loadVar 3 (Addr.add a7 0)) ((w7.drew).drew) fun v13 =>
 ∃ x82 : Int, v13 = (.int .i64 x82) ∧
 (IFB (x80 == x82)
 (RD PG (loadVar 3 (Addr.add a7 1)) ((w7.drew).drew) fun v14 =>
 ∃ x87 : Int, v14 = (.int .i64 x87) ∧
 (IFB (decide (last ≥ x87))
 (Q (.bool false) ((w7.drew).drew))
 (RD PG (loadVar 3 (Addr.add a7 1)) ((w7.drew).drew) fun v15 =>
 ∃ x93 : Int, v15 = (.int .i64 x93) ∧
 (LETI x93 fun last1 =>
 LETI (IntKind.i64.wrap (i2 + (1 : Int))) fun i3 =>
 ∃ m5, m5 < m4 ∧ I1 m5 last1 i3 ((w7.drew).drew)))))
 (RD PG (loadVar 3 (Addr.add a7 1)) ((w7.drew).drew) fun v16 =>
 ∃ x93v1 : Int, v16 = (.int .i64 x93v1) ∧
 (LETI x93v1 fun last2 =>
 LETI (IntKind.i64.wrap (i2 + (1 : Int))) fun i4 =>
 ∃ m6, m6 < m4 ∧ I1 m6 last2 i4 ((w7.drew).drew)))))))))
 (RD PG (loadVar 3 (Addr.add a7 1)) ((w7.drew).drew) fun v17 =>
 ∃ x93v2 : Int, v17 = (.int .i64 x93v2) ∧
 (LETI x93v2 fun last3 =>
 LETI (IntKind.i64.wrap (i2 + (1 : Int))) fun i5 =>
 ∃ m7, m7 < m4 ∧ I1 m7 last3 i5 ((w7.drew).drew)))))))))))))))
 (CALL PG 64 [(.pointer x14)] w4 fun v18 w8 =>
 ∃ x96 : Int, ∃ x96v1 : Int, ∃ x96v2 : Int, ∃ x96v3 : Bool, v18 = (.tuple #[(.agg #[(.int .i64 x96), (.int .i64 x96v1), (.int .i64 x96v2)]), (.bool x96v3)]) ∧
 (RUN PG (Instr.alloc 109 true (.tuple #[])) w8 fun v19 w9 =>
 ∃ a9 : Addr, v19 = (.pointer (some a9)) ∧
 (RUNU PG (storeVar 109 a9 (.agg #[(.int .i64 x96), (.int .i64 x96v1), (.int .i64 x96v2)])) w9 fun w10 =>
 LETB x96v3 fun more =>
 IFB (!more)
 (CALL PG 71 [(.pointer x14)] w10 fun v20 w11 =>
 ∃ x103 : Int, v20 = (.int .i64 x103) ∧
 (IFB (x103 == (0 : Int))
 (CALL PG 72 [] w11 fun v21 w12 =>
 ∃ x107 : Bool, v21 = (.bool x107) ∧
 (LETB x107 fun x2 =>
 Q (.bool x2) w12))
 (LETB false fun x2v1 =>
 Q (.bool x2v1) w11)))
 (LETB false fun x2v2 =>
 Q (.bool x2v2) w10))))))))))))
theorem eq13 : ∀ (l : Option Addr) (lN lC : Nat) (w : World) (Q : Value → World → Prop), vcF PG TB Try.f13 (.s .nil (.s .nil (.s .nil (.s .nil (.s (.s .nil (.u (.loop [(4, 3)] .nil))) (.s .nil (.s (.s .nil (.u (.loop [(5, 3), (6, 3)] .nil))) .nil))))))) [(.slice l lN lC)] w Q = N13 l lN lC w Q := by intros; kernel_rfl
theorem call13 {l : Option Addr} {lN lC : Nat} {w : World} {Q : Value → World → Prop} (hN : N13 l lN lC w Q) : CALL PG 13 [(.slice l lN lC)] w Q := calls_vc tabOk Try.func13 (by rw [eq13]; exact hN)

/-- (*brougham/heap.Heap[int]).Due -/
def N67 (h : Option Addr) (now : Int) (w : World) (Q : Value → World → Prop) : Prop :=
 ∃ I : Nat → Option Addr → Nat → Nat → World → Prop,
 (∃ m, I m none 0 0 w) ∧
 (∀ m1 (out : Option Addr) (outN outC : Nat) (w1 : World), I m1 out outN outC w1 → (CALL PG 70 [(.pointer h)] w1 fun v w2 =>
 ∃ x10 : Int, ∃ x10v1 : Int, ∃ x10v2 : Int, ∃ x10v3 : Bool, v = (.tuple #[(.agg #[(.int .i64 x10), (.int .i64 x10v1), (.int .i64 x10v2)]), (.bool x10v3)]) ∧
 (RUN PG (Instr.alloc 109 true (.tuple #[])) w2 fun v1 w3 =>
 ∃ a6 : Addr, v1 = (.pointer (some a6)) ∧
 (RUNU PG (storeVar 109 a6 (.agg #[(.int .i64 x10), (.int .i64 x10v1), (.int .i64 x10v2)])) w3 fun w4 =>
 LETB x10v3 fun okv =>
 IFB (!okv)
 (Q (.slice out outN outC) w4)
 (RD PG (loadVar 3 (Addr.add a6 0)) w4 fun v2 =>
 ∃ x17 : Int, v2 = (.int .i64 x17) ∧
 (IFB (decide (x17 > now))
 (Q (.slice out outN outC) w4)
 (CALL PG 64 [(.pointer h)] w4 fun v3 w5 =>
 ∃ x23 : Int, ∃ x23v1 : Int, ∃ x23v2 : Int, ∃ x23v3 : Bool, v3 = (.tuple #[(.agg #[(.int .i64 x23), (.int .i64 x23v1), (.int .i64 x23v2)]), (.bool x23v3)]) ∧
 (RD PG (loadVar 3 (Addr.add a6 1)) w5 fun v4 =>
 ∃ x26 : Int, v4 = (.int .i64 x26) ∧
 (RUN PG (Instr.buildSlice 23 1 #[(0, (.int .i64 x26))]) w5 fun v5 w6 =>
 ∃ (x27 : Option Addr) (x27N x27C : Nat), v5 = (.slice x27 x27N x27C) ∧
 (RUN PG (Builtin.append_ #[23, 23] 23 #[(.slice out outN outC), (.slice x27 x27N x27C)]) w6 fun v6 w7 =>
 ∃ (x28 : Option Addr) (x28N x28C : Nat), v6 = (.slice x28 x28N x28C) ∧
 (∃ m2, m2 < m1 ∧ I m2 x28 x28N x28C w7)))))))))))
theorem eq67 : ∀ (h : Option Addr) (now : Int) (w : World) (Q : Value → World → Prop), vcF PG TB Try.f67 (.s .nil (.s .nil (.u (.loop [(5, 23)] .nil)))) [(.pointer h), (.int .i64 now)] w Q = N67 h now w Q := by intros; kernel_rfl
theorem call67 {h : Option Addr} {now : Int} {w : World} {Q : Value → World → Prop} (hN : N67 h now w Q) : CALL PG 67 [(.pointer h), (.int .i64 now)] w Q := calls_vc tabOk Try.func67 (by rw [eq67]; exact hN)

/-- brougham/broughamlaw42.alive -/
def N72  (w : World) (Q : Value → World → Prop) : Prop :=
 CALL PG 63 [(.int .i64 (9 : Int))] w fun v w1 =>
 ∃ x4 : Option Addr, v = (.pointer x4) ∧
 (IFB (x4.isNone)
 (Q (.bool false) w1)
 (∃ R : Bool → World → Prop,
 (CALL PG 69 [(.pointer x4), (.int .i64 (5 : Int)), (.int .i64 (1 : Int))] w1 fun v1 w2 =>
 ∃ x8 : Bool, v1 = (.bool x8) ∧
 (IFB x8
 (CALL PG 69 [(.pointer x4), (.int .i64 (3 : Int)), (.int .i64 (2 : Int))] w2 fun v2 w3 =>
 ∃ x11 : Bool, v2 = (.bool x11) ∧
 (IFB x11
 (CALL PG 69 [(.pointer x4), (.int .i64 (5 : Int)), (.int .i64 (3 : Int))] w3 fun v3 w4 =>
 ∃ x15 : Bool, v3 = (.bool x15) ∧
 (LETB x15 fun okv =>
 R okv w4))
 (LETB false fun okv1 =>
 R okv1 w3)))
 (LETB false fun okv2 =>
 R okv2 w2))) ∧
 (∀ (okv3 : Bool) (w5 : World), R okv3 w5 → (CALL PG 67 [(.pointer x4), (.int .i64 (5 : Int))] w5 fun v4 w6 =>
 ∃ (x18 : Option Addr) (x18N x18C : Nat), v4 = (.slice x18 x18N x18C) ∧
 (IFB okv3
 (IFB ((x18N : Int) == (3 : Int))
 (IDX x18 x18N (0 : Int) fun a27 =>
 RD PG (loadVar 3 (Addr.add a27 (Int.toNat (0 : Int) * 1))) w6 fun v5 =>
 ∃ x28 : Int, v5 = (.int .i64 x28) ∧
 (IFB (x28 == (2 : Int))
 (IDX x18 x18N (1 : Int) fun a33 =>
 RD PG (loadVar 3 (Addr.add a33 (Int.toNat (1 : Int) * 1))) w6 fun v6 =>
 ∃ x34 : Int, v6 = (.int .i64 x34) ∧
 (IFB (x34 == (1 : Int))
 (IDX x18 x18N (2 : Int) fun a39 =>
 RD PG (loadVar 3 (Addr.add a39 (Int.toNat (2 : Int) * 1))) w6 fun v7 =>
 ∃ x40 : Int, v7 = (.int .i64 x40) ∧
 (IFB (x40 == (3 : Int))
 (CALL PG 71 [(.pointer x4)] w6 fun v8 w7 =>
 ∃ x45 : Int, v8 = (.int .i64 x45) ∧
 (LETB (x45 == (0 : Int)) fun x0 =>
 Q (.bool x0) w7))
 (LETB false fun x0v1 =>
 Q (.bool x0v1) w6)))
 (LETB false fun x0v2 =>
 Q (.bool x0v2) w6)))
 (LETB false fun x0v3 =>
 Q (.bool x0v3) w6)))
 (LETB false fun x0v4 =>
 Q (.bool x0v4) w6))
 (LETB false fun x0v5 =>
 Q (.bool x0v5) w6))))))
theorem eq72 : ∀  (w : World) (Q : Value → World → Prop), vcF PG TB Try.f72 (.s .nil (.s .nil (.s .nil (.cut [(2, 4)] .nil .nil)))) [] w Q = N72  w Q := by intros; kernel_rfl
theorem call72  {w : World} {Q : Value → World → Prop} (hN : N72  w Q) : CALL PG 72 [] w Q := calls_vc tabOk Try.func72 (by rw [eq72]; exact hN)

end Go.Br
