/- What the code of some functions says, as the core reads it; each reading is checked by the kernel. -/
import Derived.Test.YtccmlfekmmeloaaDoorBrSeat
set_option linter.unusedVariables false
set_option maxRecDepth 100000
namespace Go.Br
open Go Go.Proofs

/-- brougham/report.Of -/
def N6 (l : Option Addr) (lN lC : Nat) (w : World) (Q : Value → World → Prop) : Prop :=
 RUNA PG (Instr.alloc 24 true (.tuple #[])) w fun a2 w1 =>
 RD PG (Instr.build 24 #[(0, (.int .i64 (lN : Int)))]) w1 fun v =>
 ∃ x8 : Int, ∃ x8v1 : Int, ∃ x8v2 : Int, ∃ x8v3 : Int, v = (.agg #[(.int .i64 x8), (.int .i64 x8v1), (.int .i64 x8v2), (.int .i64 x8v3)]) ∧
 (RUNA PG (Instr.alloc 24 true (.tuple #[])) w1 fun a3 w2 =>
 RUNU PG (storeVar 24 a3 (.agg #[(.int .i64 x8), (.int .i64 x8v1), (.int .i64 x8v2), (.int .i64 x8v3)])) w2 fun w3 =>
 ∃ I : Nat → Int → World → Prop,
 (∃ m, I m (0 : Int) w3) ∧
 (∀ m1 (x11 : Int) (w4 : World), I m1 x11 w4 → (IFB (decide (x11 < (lN : Int)))
 (IDX l lN x11 fun a14 =>
 RDI PG (loadVar 3 (Addr.add a14 (Int.toNat x11 * 1))) .i64 w4 fun x15 =>
 LETI x11 fun i =>
 LETI x15 fun n =>
 CALL PG 14 [(.int .i64 n)] w4 fun v1 w5 =>
 ∃ x17 : Int, v1 = (.int .i64 x17) ∧
 (LETI x17 fun n1 =>
 ∃ R : World → Prop,
 (IFB (i == (0 : Int))
 (RUNU PG (storeVar 3 (Addr.add a3 1) (.int .i64 n1)) w5 fun w6 =>
 R w6)
 (RDI PG (loadVar 3 (Addr.add a3 1)) .i64 w5 fun x23 =>
 IFB (decide (n1 < x23))
 (RUNU PG (storeVar 3 (Addr.add a3 1) (.int .i64 n1)) w5 fun w7 =>
 R w7)
 (R w5))) ∧
 (∀  (w8 : World), R w8 → (IFB (i == (0 : Int))
 (RUNU PG (storeVar 3 (Addr.add a3 2) (.int .i64 n1)) w8 fun w9 =>
 RDI PG (loadVar 3 (Addr.add a3 3)) .i64 w9 fun x39 =>
 RUNU PG (storeVar 3 (Addr.add a3 3) (.int .i64 (IntKind.i64.wrap (x39 + n1)))) w9 fun w10 =>
 ∃ m2, m2 < m1 ∧ I m2 (IntKind.i64.wrap (x11 + (1 : Int))) w10)
 (RDI PG (loadVar 3 (Addr.add a3 2)) .i64 w8 fun x33 =>
 IFB (decide (n1 > x33))
 (RUNU PG (storeVar 3 (Addr.add a3 2) (.int .i64 n1)) w8 fun w11 =>
 RDI PG (loadVar 3 (Addr.add a3 3)) .i64 w11 fun x39v1 =>
 RUNU PG (storeVar 3 (Addr.add a3 3) (.int .i64 (IntKind.i64.wrap (x39v1 + n1)))) w11 fun w12 =>
 ∃ m3, m3 < m1 ∧ I m3 (IntKind.i64.wrap (x11 + (1 : Int))) w12)
 (RDI PG (loadVar 3 (Addr.add a3 3)) .i64 w8 fun x39v2 =>
 RUNU PG (storeVar 3 (Addr.add a3 3) (.int .i64 (IntKind.i64.wrap (x39v2 + n1)))) w8 fun w13 =>
 ∃ m4, m4 < m1 ∧ I m4 (IntKind.i64.wrap (x11 + (1 : Int))) w13))))))
 (RD PG (loadVar 24 a3) w4 fun v2 =>
 ∃ x44 : Int, ∃ x44v1 : Int, ∃ x44v2 : Int, ∃ x44v3 : Int, v2 = (.agg #[(.int .i64 x44), (.int .i64 x44v1), (.int .i64 x44v2), (.int .i64 x44v3)]) ∧
 (RUNU PG (storeVar 24 a2 (.agg #[(.int .i64 x44), (.int .i64 x44v1), (.int .i64 x44v2), (.int .i64 x44v3)])) w4 fun w14 =>
 RD PG (loadVar 24 a2) w14 fun v4 =>
 ∃ r : Int, ∃ r1 : Int, ∃ r2 : Int, ∃ r3 : Int, v4 = (.agg #[(.int .i64 r), (.int .i64 r1), (.int .i64 r2), (.int .i64 r3)]) ∧
 (Q (.agg #[(.int .i64 r), (.int .i64 r1), (.int .i64 r2), (.int .i64 r3)]) w14))))))
theorem eq6 : ∀ (l : Option Addr) (lN lC : Nat) (w : World) (Q : Value → World → Prop), vcF PG TB Tryd.f6 (.s .nil (.s .nil (.s (.s .nil (.u (.loop [(11, 3)] (.s .nil (.s .nil (.s (.u (.s .nil (.s .nil (.cut [] .nil .nil)))) .nil)))))) .nil))) [(.slice l lN lC)] w Q = N6 l lN lC w Q := by intros; kernel_rfl
theorem call6 {l : Option Addr} {lN lC : Nat} {w : World} {Q : Value → World → Prop} (hN : N6 l lN lC w Q) : CALL PG 6 [(.slice l lN lC)] w Q := calls_vc tabOk Tryd.func6 (by rw [eq6]; exact hN)

/-- brougham/broughamref37.Of -/
def N7 (l : Option Addr) (lN lC : Nat) (w : World) (Q : Value → World → Prop) : Prop :=
 RUNA PG (Instr.alloc 26 true (.tuple #[])) w fun a2 w1 =>
 CALL PG 15 [(.slice l lN lC)] w1 fun v w2 =>
 ∃ (x7 : Option Addr) (x7N x7C : Nat), v = (.slice x7 x7N x7C) ∧
 (IFB ((x7N : Int) == (0 : Int))
 (RD PG (Instr.build 26 #[]) w2 fun v1 =>
 ∃ x11 : Value, v1 = x11 ∧
 (RUNU PG (storeVar 26 a2 x11) w2 fun w3 =>
 RD PG (loadVar 26 a2) w3 fun v3 =>
 ∃ r : Value, v3 = r ∧
 (Q r w3)))
 (∃ I : Nat → Int → Int → World → Prop,
 (∃ m, I m (0 : Int) (0 : Int) w2) ∧
 (∀ m1 (sum : Int) (i : Int) (w4 : World), I m1 sum i w4 → (IFB (decide (i < (x7N : Int)))
 (IDX x7 x7N i fun a21 =>
 RDI PG (loadVar 3 (Addr.add a21 (Int.toNat i * 1))) .i64 w4 fun x22 =>
 CALL PG 16 [(.int .i64 x22)] w4 fun v4 w5 =>
 ∃ x23 : Int, v4 = (.int .i64 x23) ∧
 (LETI (IntKind.i64.wrap (sum + x23)) fun sum1 =>
 LETI (IntKind.i64.wrap (i + (1 : Int))) fun i1 =>
 ∃ m2, m2 < m1 ∧ I m2 sum1 i1 w5))
 (∃ S : World → Prop, S (w4.drew) ∧
 (IDX x7 x7N (0 : Int) fun a28 =>
 RDSI PG (loadVar 3 (Addr.add a28 (Int.toNat (0 : Int) * 1))) .i64 S fun x29 =>
 IDX x7 x7N (IntKind.i64.wrap ((x7N : Int) - (1 : Int))) fun a35 =>
 RDSI PG (loadVar 3 (Addr.add a35 (Int.toNat (IntKind.i64.wrap ((x7N : Int) - (1 : Int))) * 1))) .i64 S fun x36 =>
 CALL PG 16 [(.int .i64 x29)] (w4.drew) fun v5 w6 =>
 ∃ x30 : Int, v5 = (.int .i64 x30) ∧
 (∃ S1 : World → Prop, (∀ x, S1 x → S x) ∧ S1 w6 ∧
 (CALL PG 16 [(.int .i64 x36)] w6 fun v6 w7 =>
 ∃ x37 : Int, v6 = (.int .i64 x37) ∧
 (∃ S2 : World → Prop, (∀ x, S2 x → S1 x) ∧ S2 w7 ∧
 (RDS PG (Instr.build 26 #[(0, (.int .i64 (x7N : Int))), (1, (.int .i64 x30)), (2, (.int .i64 x37)), (3, (.int .i64 sum))]) S2 fun v7 =>
 ∃ x39 : Value, v7 = x39 ∧
 (RUNU PG (storeVar 26 a2 x39) w7 fun w8 =>
 RD PG (loadVar 26 a2) w8 fun v9 =>
 ∃ r1 : Value, v9 = r1 ∧
 (Q r1 w8))))))))))))
theorem eq7 : ∀ (l : Option Addr) (lN lC : Nat) (w : World) (Q : Value → World → Prop), vcF PG TB Tryd.f7 (.s .nil (.s .nil (.s .nil (.s .nil (.s (.s .nil (.u (.loop [(4, 3), (5, 3)] .nil))) .nil))))) [(.slice l lN lC)] w Q = N7 l lN lC w Q := by intros; kernel_rfl
theorem call7 {l : Option Addr} {lN lC : Nat} {w : World} {Q : Value → World → Prop} (hN : N7 l lN lC w Q) : CALL PG 7 [(.slice l lN lC)] w Q := calls_vc tabOk Tryd.func7 (by rw [eq7]; exact hN)

/-- (brougham/report.Stats).Mean -/
def N8 (s : Int) (s1 : Int) (s2 : Int) (s3 : Int) (w : World) (Q : Value → World → Prop) : Prop :=
 RUNA PG (Instr.box 24 (.agg #[(.int .i64 s), (.int .i64 s1), (.int .i64 s2), (.int .i64 s3)])) w fun a1 w1 =>
 RDI PG (loadVar 3 (Addr.add a1 0)) .i64 w1 fun x5 =>
 IFB (x5 == (0 : Int))
 (Q (.int .i64 (0 : Int)) w1)
 (RDI PG (loadVar 3 (Addr.add a1 3)) .i64 w1 fun x8 =>
 RDI PG (loadVar 3 (Addr.add a1 0)) .i64 w1 fun x10 =>
 NEED (x10 ≠ 0)
 (LETI (IntKind.i64.wrap (Int.tdiv x8 x10)) fun m =>
 RDI PG (loadVar 3 (Addr.add a1 3)) .i64 w1 fun x13 =>
 RDI PG (loadVar 3 (Addr.add a1 0)) .i64 w1 fun x15 =>
 NEED (x15 ≠ 0)
 (IFB (decide ((Int.tmod x13 x15) < (0 : Int)))
 (LETI (IntKind.i64.wrap (m - (1 : Int))) fun m1 =>
 LETI m1 fun x2 =>
 Q (.int .i64 x2) w1)
 (LETI m fun x2v1 =>
 Q (.int .i64 x2v1) w1))))
theorem eq8 : ∀ (s : Int) (s1 : Int) (s2 : Int) (s3 : Int) (w : World) (Q : Value → World → Prop), vcF PG TB Tryd.f8 .nil [(.agg #[(.int .i64 s), (.int .i64 s1), (.int .i64 s2), (.int .i64 s3)])] w Q = N8 s s1 s2 s3 w Q := by intros; kernel_rfl
theorem call8 {s : Int} {s1 : Int} {s2 : Int} {s3 : Int} {w : World} {Q : Value → World → Prop} (hN : N8 s s1 s2 s3 w Q) : CALL PG 8 [(.agg #[(.int .i64 s), (.int .i64 s1), (.int .i64 s2), (.int .i64 s3)])] w Q := calls_vc tabOk Tryd.func8 (by rw [eq8]; exact hN)

/-- brougham/report.Percentile -/
def N9 (part : Int) (l : Option Addr) (lN lC : Nat) (w : World) (Q : Value → World → Prop) : Prop :=
 IFB ((lN : Int) == (0 : Int))
 (Q (.int .i64 (0 : Int)) w)
 (CALL PG 17 [(.slice l lN lC)] w fun v w1 =>
 ∃ (x11 : Option Addr) (x11N x11C : Nat), v = (.slice x11 x11N x11C) ∧
 (CALL PG 18 [(.slice x11 x11N x11C)] w1 fun v1 w2 =>
 v1 = (.tuple #[]) ∧
 (LETI (minN (maxN part (0 : Int)) (100 : Int)) fun part1 =>
 NEED ((100 : Int) ≠ 0)
 (LETI (IntKind.i64.wrap (Int.tdiv (IntKind.i64.wrap ((IntKind.i64.wrap ((x11N : Int) * part1)) + (99 : Int))) (100 : Int))) fun i =>
 IDX x11 x11N (maxN (IntKind.i64.wrap (i - (1 : Int))) (0 : Int)) fun a27 =>
 RDI PG (loadVar 3 (Addr.add a27 (Int.toNat (maxN (IntKind.i64.wrap (i - (1 : Int))) (0 : Int)) * 1))) .i64 w2 fun x28 =>
 LETI x28 fun x4 =>
 Q (.int .i64 x4) w2))))
theorem eq9 : ∀ (part : Int) (l : Option Addr) (lN lC : Nat) (w : World) (Q : Value → World → Prop), vcF PG TB Tryd.f9 .nil [(.int .i64 part), (.slice l lN lC)] w Q = N9 part l lN lC w Q := by intros; kernel_rfl
theorem call9 {part : Int} {l : Option Addr} {lN lC : Nat} {w : World} {Q : Value → World → Prop} (hN : N9 part l lN lC w Q) : CALL PG 9 [(.int .i64 part), (.slice l lN lC)] w Q := calls_vc tabOk Tryd.func9 (by rw [eq9]; exact hN)

/-- brougham/broughamref37.Percentile -/
def N10 (part : Int) (l : Option Addr) (lN lC : Nat) (w : World) (Q : Value → World → Prop) : Prop :=
 IFB ((lN : Int) == (0 : Int))
 (Q (.int .i64 (0 : Int)) w)
 (∃ R : Int → World → Prop,
 (IFB (decide (part < (0 : Int)))
 (R (0 : Int) w)
 (R part w)) ∧
 (∀ (part1 : Int) (w1 : World), R part1 w1 → (∃ R1 : Int → World → Prop,
 (IFB (decide (part1 > (100 : Int)))
 (R1 (100 : Int) w1)
 (R1 part1 w1)) ∧
 (∀ (part2 : Int) (w2 : World), R1 part2 w2 → (∃ I : Nat → Int → World → Prop,
 (∃ m, I m (1 : Int) w2) ∧
 (∀ m1 (atv : Int) (w3 : World), I m1 atv w3 → (IFB (decide ((IntKind.i64.wrap (atv * (100 : Int))) < (IntKind.i64.wrap ((lN : Int) * part2))))
 (LETI (IntKind.i64.wrap (atv + (1 : Int))) fun atv1 =>
 ∃ m2, m2 < m1 ∧ I m2 atv1 w3)
 (CALL PG 15 [(.slice l lN lC)] w3 fun v w4 =>
 ∃ (x23 : Option Addr) (x23N x23C : Nat), v = (.slice x23 x23N x23C) ∧
 (IDX x23 x23N (IntKind.i64.wrap (atv - (1 : Int))) fun a26 =>
 RDI PG (loadVar 3 (Addr.add a26 (Int.toNat (IntKind.i64.wrap (atv - (1 : Int))) * 1))) .i64 w4 fun x27 =>
 LETI x27 fun x4 =>
 Q (.int .i64 x4) w4)))))))))
theorem eq10 : ∀ (part : Int) (l : Option Addr) (lN lC : Nat) (w : World) (Q : Value → World → Prop), vcF PG TB Tryd.f10 (.s .nil (.s .nil (.cut [(0, 3)] .nil (.cut [(0, 3)] .nil (.s .nil (.s (.u (.loop [(5, 3)] .nil)) .nil)))))) [(.int .i64 part), (.slice l lN lC)] w Q = N10 part l lN lC w Q := by intros; kernel_rfl
theorem call10 {part : Int} {l : Option Addr} {lN lC : Nat} {w : World} {Q : Value → World → Prop} (hN : N10 part l lN lC w Q) : CALL PG 10 [(.int .i64 part), (.slice l lN lC)] w Q := calls_vc tabOk Tryd.func10 (by rw [eq10]; exact hN)

/-- brougham/report.clamp -/
def N14 (n : Int) (w : World) (Q : Value → World → Prop) : Prop :=
 LETI (minN (maxN n (-1073741824 : Int)) (1073741824 : Int)) fun x2 =>
 Q (.int .i64 x2) w
theorem eq14 : ∀ (n : Int) (w : World) (Q : Value → World → Prop), vcF PG TB Tryd.f14 .nil [(.int .i64 n)] w Q = N14 n w Q := by intros; kernel_rfl
theorem call14 {n : Int} {w : World} {Q : Value → World → Prop} (hN : N14 n w Q) : CALL PG 14 [(.int .i64 n)] w Q := calls_vc tabOk Tryd.func14 (by rw [eq14]; exact hN)

/-- brougham/broughamref37.Sorted -/
def N15 (l : Option Addr) (lN lC : Nat) (w : World) (Q : Value → World → Prop) : Prop :=
 RUNL PG (Instr.buildSlice 22 0 #[]) w fun x6 x6N x6C w1 =>
 RUNL PG (Builtin.append_ #[22, 22] 22 #[(.slice x6 x6N x6C), (.slice l lN lC)]) w1 fun x8 x8N x8C w2 =>
 ∃ I : Nat → Int → World → Prop,
 (∃ m, I m (1 : Int) w2) ∧
 (∀ m1 (i : Int) (w3 : World), I m1 i w3 → (IFB (decide (i < (x8N : Int)))
 (LETI i fun k =>
 ∃ I1 : Nat → Int → World → Prop,
 (∃ m2, I1 m2 k w3) ∧
 (∀ m3 (k1 : Int) (w4 : World), I1 m3 k1 w4 → (IFB (decide (k1 > (0 : Int)))
 (IDX x8 x8N k1 fun a21 =>
 RDI PG (loadVar 3 (Addr.add a21 (Int.toNat k1 * 1))) .i64 (w4.drew) fun x22 =>
 IDX x8 x8N (IntKind.i64.wrap (k1 - (1 : Int))) fun a26 =>
 RDI PG (loadVar 3 (Addr.add a26 (Int.toNat (IntKind.i64.wrap (k1 - (1 : Int))) * 1))) .i64 (w4.drew) fun x27 =>
 IFB (decide (x22 < x27))
 (IDX x8 x8N (IntKind.i64.wrap (k1 - (1 : Int))) fun a40 =>
 RDI PG (loadVar 3 (Addr.add a40 (Int.toNat (IntKind.i64.wrap (k1 - (1 : Int))) * 1))) .i64 ((w4.drew).drew) fun x41 =>
 IDX x8 x8N k1 fun a44 =>
 RDI PG (loadVar 3 (Addr.add a44 (Int.toNat k1 * 1))) .i64 ((w4.drew).drew) fun x45 =>
 IDX x8 x8N k1 fun a46 =>
 RUNU PG (storeVar 3 (Addr.add a46 (Int.toNat k1 * 1)) (.int .i64 x41)) ((w4.drew).drew) fun w5 =>
 IDX x8 x8N (IntKind.i64.wrap (k1 - (1 : Int))) fun a47 =>
 RUNU PG (storeVar 3 (Addr.add a47 (Int.toNat (IntKind.i64.wrap (k1 - (1 : Int))) * 1)) (.int .i64 x45)) w5 fun w6 =>
 LETI (IntKind.i64.wrap (k1 - (1 : Int))) fun k2 =>
 ∃ m4, m4 < m3 ∧ I1 m4 k2 w6)
 (LETI (IntKind.i64.wrap (i + (1 : Int))) fun i1 =>
 ∃ m5, m5 < m1 ∧ I m5 i1 (w4.drew)))
 (LETI (IntKind.i64.wrap (i + (1 : Int))) fun i2 =>
 ∃ m6, m6 < m1 ∧ I m6 i2 (w4.drew)))))
 (Q (.slice x8 x8N x8C) w3)))
theorem eq15 : ∀ (l : Option Addr) (lN lC : Nat) (w : World) (Q : Value → World → Prop), vcF PG TB Tryd.f15 (.s .nil (.s .nil (.s (.s .nil (.u (.loop [(4, 3)] (.s .nil (.s (.u (.s .nil (.u (.loop [(5, 3)] .nil)))) .nil))))) .nil))) [(.slice l lN lC)] w Q = N15 l lN lC w Q := by intros; kernel_rfl
theorem call15 {l : Option Addr} {lN lC : Nat} {w : World} {Q : Value → World → Prop} (hN : N15 l lN lC w Q) : CALL PG 15 [(.slice l lN lC)] w Q := calls_vc tabOk Tryd.func15 (by rw [eq15]; exact hN)

/-- brougham/broughamref37.Clamp -/
def N16 (n : Int) (w : World) (Q : Value → World → Prop) : Prop :=
 IFB (decide (n > (1073741824 : Int)))
 (Q (.int .i64 (1073741824 : Int)) w)
 (IFB (decide (n < (-1073741824 : Int)))
 (Q (.int .i64 (-1073741824 : Int)) w)
 (LETI n fun x2 =>
 Q (.int .i64 x2) w))
theorem eq16 : ∀ (n : Int) (w : World) (Q : Value → World → Prop), vcF PG TB Tryd.f16 .nil [(.int .i64 n)] w Q = N16 n w Q := by intros; kernel_rfl
theorem call16 {n : Int} {w : World} {Q : Value → World → Prop} (hN : N16 n w Q) : CALL PG 16 [(.int .i64 n)] w Q := calls_vc tabOk Tryd.func16 (by rw [eq16]; exact hN)

/-- slices.Clone[[]int,int] -/
def N17 (s : Option Addr) (sN sC : Nat) (w : World) (Q : Value → World → Prop) : Prop :=
 IFB (s.isNone)
 (Q (.slice none 0 0) w)
 (RUNL PG (Instr.buildSlice 22 0 #[]) w fun x5 x5N x5C w1 =>
 RUNL PG (Builtin.append_ #[22, 22] 22 #[(.slice x5 x5N x5C), (.slice s sN sC)]) w1 fun x7 x7N x7C w2 =>
 Q (.slice x7 x7N x7C) w2)
theorem eq17 : ∀ (s : Option Addr) (sN sC : Nat) (w : World) (Q : Value → World → Prop), vcF PG TB Tryd.f17 .nil [(.slice s sN sC)] w Q = N17 s sN sC w Q := by intros; kernel_rfl
theorem call17 {s : Option Addr} {sN sC : Nat} {w : World} {Q : Value → World → Prop} (hN : N17 s sN sC w Q) : CALL PG 17 [(.slice s sN sC)] w Q := calls_vc tabOk Tryd.func17 (by rw [eq17]; exact hN)

end Go.Br
